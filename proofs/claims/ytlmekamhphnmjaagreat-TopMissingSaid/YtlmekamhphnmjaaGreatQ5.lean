import Derived.Test.YtlmekamhphnmjaaGreatQ4
import Derived.Test.YtlmekamhphnmjaaGreatQ3
set_option linter.all false
open List renaming flatMap->hD,length_set->hM,set->nA,getElem_cons_succ->nB,getElem_cons_zero->nD,getElem_toArray->nG
open Option.some renaming inj->hJ
open Go.Value renaming bool->nE
open Bool renaming eq_false_iff->nH
open Int renaming toNat_natCast->nI
open Eq renaming trans->nJ
namespace Go.Proofs.YtlmekamhphnmjaaGreat
open Go.KL
def gBe:Sch:=.fx 1 (.fl 2 .nil) .stop
def gBf:Sch:=.fx 4 (.fl 5 .nil) .stop
def gBg:Sch:=.fx 0 (.fl 1 .nil) .stop
def gBh:Sch:=.fx 0 gBe .stop
def gBi:Sch:=.fx 15 (.fl 16 (.fx 17 .nil .stop)) .stop
def gBj:Sch:=.fx 11 (.fl 12 (.fl 13 .nil)) .stop
def gBk:Sch:=.fx 0 (.fl 1 (.fl 2 .nil)) .stop
def gBl:Sch:=.fl 0 (.fl 1 (.fx 2 (.fx 3 .nil .stop) .stop))
def gBm:Sch:=.fl 0 (.fl 1 (.fx 2 (.fl 3 .nil) .stop))
def gBn:Sch:=.fx 0 (.fl 3 (.fl 4 (.fx 9 (.fx 10 (.fl 11 .nil) .stop) .stop))) .stop
def gBo:Sch:=.fl 0 (.fl 1 (.fx 2 (.fx 3 (.fl 4 (.fl 5 .nil)) .stop) .stop))
set_option maxHeartbeats 4000000
theorem wGW (J:(wAR × List Int × List (Int × Bool))) (pb0a:Nat) (pb0b:Nat) (pb0c:Nat) (pb0v:Nat) (pb0f:Nat) (pb0g:Nat) (pq0d:Nat) (pA0d_0_1:Option Addr) (pc0d_0_1:Nat) (pA0d_0_2:Option Addr) (pc0d_0_2:Nat) (pm0d_1:Nat) (pe0d_1:Array MapEntry) (pk0d_1:Nat) (pm0d_2:Nat) (pe0d_2:Array MapEntry) (pk0d_2:Nat) (pm0t:Nat) (pe0t:Array MapEntry) (pk0t:Nat) (pA0o:Option Addr) (pc0o:Nat) (p1:wAC) (p2:Int) (w:World) (U:PHeap) (hS:St0 w U [.obj pm0t (.map pe0t pk0t)]) (bn:Cl U pb0a 0 [.map (some pm0t)]) (bp:Cl U pb0b 0 [.func (.func 83) #[.pointer (some ⟨pq0d,0,none⟩)] #[]]) (bu:Cl U pb0c 0 [.pointer (some ⟨pq0d,0,none⟩)]) (bw:Cl U pb0v 0 [.func (.func 85) #[] #[.pointer (some ⟨pb0a,0,none⟩),.pointer (some ⟨pb0b,0,none⟩),.pointer (some ⟨pb0c,0,none⟩),.pointer (some ⟨pb0v,0,none⟩)],.func (.func 87) #[] #[.pointer (some ⟨pb0f,0,none⟩)],.func (.func 88) #[] #[.pointer (some ⟨pb0v,0,none⟩),.pointer (some ⟨pb0g,0,none⟩)],.func (.func 91) #[] #[.pointer (some ⟨pb0v,0,none⟩)],.func (.func 89) #[] #[.pointer (some ⟨pb0f,0,none⟩)]]) (bx:Cl U pb0f 0 [.func (.func 84) #[] #[.pointer (some ⟨pb0c,0,none⟩),.pointer (some ⟨pb0v,0,none⟩)]]) (bz:Cl U pb0g 0 [.slice pA0o J.2.1.length pc0o]) (bA:Cl U pq0d 0 [jV J.1.Record.Deadline,.slice pA0d_0_1 J.1.Record.Skiers.length pc0d_0_1,.slice pA0d_0_2 J.1.Record.Decisions.length pc0d_0_2,.map (some pm0d_1),.map (some pm0d_2)]) (bB:Sl U 2 pA0d_0_1 pc0d_0_1 J.1.Record.Skiers.length (hD wAF J.1.Record.Skiers)) (bC:Sl U 6 pA0d_0_2 pc0d_0_2 J.1.Record.Decisions.length (hD wAD J.1.Record.Decisions)) (bD:MpF U pm0d_1 pe0d_1 pk0d_1 wEQ wEZ J.1.at_) (bq:MpF U pm0d_2 pe0d_2 pk0d_2 wER wEa J.1.about) (aD:MpR pe0t wDv wDw J.2.2) (br:Sl U 1 pA0o pc0o J.2.1.length (hD KL.encI J.2.1)) {r:Bool × (List (Int × Bool))} (hm:wCX J p1 p2=some r):Gv Tryz.prog 136 [.agg #[.func (.func 85) #[] #[.pointer (some ⟨pb0a,0,none⟩),.pointer (some ⟨pb0b,0,none⟩),.pointer (some ⟨pb0c,0,none⟩),.pointer (some ⟨pb0v,0,none⟩)],.func (.func 87) #[] #[.pointer (some ⟨pb0f,0,none⟩)],.func (.func 88) #[] #[.pointer (some ⟨pb0v,0,none⟩),.pointer (some ⟨pb0g,0,none⟩)],.func (.func 91) #[] #[.pointer (some ⟨pb0v,0,none⟩)],.func (.func 89) #[] #[.pointer (some ⟨pb0f,0,none⟩)]],.agg #[jV p1.Number,jV p1.Kind,jV p1.Minute,jV p1.Bib,jV p1.Much,jV p1.About],jV p2] w (wBu w [.obj pm0t (.map pe0t pk0t)] U (fun U_ L_ v=>∃ (es_0:Array MapEntry) (ck_0:Nat),v=.bool r.1/\L_=[.obj pm0t (.map es_0 ck_0)]/\MpR es_0 wDv wDw r.2)):=by
 unfold wCX at hm
 refine Gv.of Tryz.func136 Z Tryz.ntmps136 Tryz.results136 Z (sR gBh Z ?_)
 let B0:List Value:=[.func (.func 85) #[] #[.pointer (some ⟨pb0a,0,none⟩),.pointer (some ⟨pb0b,0,none⟩),.pointer (some ⟨pb0c,0,none⟩),.pointer (some ⟨pb0v,0,none⟩)],.func (.func 87) #[] #[.pointer (some ⟨pb0f,0,none⟩)],.func (.func 88) #[] #[.pointer (some ⟨pb0v,0,none⟩),.pointer (some ⟨pb0g,0,none⟩)],.func (.func 91) #[] #[.pointer (some ⟨pb0v,0,none⟩)],.func (.func 89) #[] #[.pointer (some ⟨pb0f,0,none⟩)]]
 refine ZG (cs:=B0) rfl rfl rfl rfl rfl rfl (by rfl) hS ?_
 intro W2 b3 bi
 let B1:List Value:=[jV p1.Number,jV p1.Kind,jV p1.Minute,jV p1.Bib,jV p1.Much,jV p1.About]
 refine ZG (cs:=B1) rfl rfl rfl rfl rfl rfl (by rfl) bi ?_
 intro W6 b7 aI
 refine oA Z Z (eN (sR (.fl 0 (.fl 1 (.fx 2 (wNQ (.fx 13 (wMN (.fx 23 (wMP (.nil)) .stop)) .stop)) .stop))) Z (oR Z (zO Z Z zW Z ZP) (oL Z (aI.ldB (j:=0) Z Z Z ZR (v:=jV p1.Kind) Z) (bnK hm fun bW aN bE=>zG 0 Z Z Z Z (zF Z Z Tryz.call210 (zA Z zL) Z) aI (fun hs=>wCS p1.Kind W6 U hs aN) (.inr Z) ?_)))))
 rintro an bO bT aw ac bg ⟨rfl,rfl⟩
 have aj:SW w [.obj pm0t (.map pe0t pk0t)] U an [.blk b7 46 B1,.blk b3 137 B0,.obj pm0t (.map pe0t pk0t)] aw:=bg
 refine oM Z Z (ifc bE ?_ ?_)
 intro ae bF
 refine zT Z Z Z (zU Z Z (congrArg nE ae.out)) (fun _=>zO Z Z zW Z zB) (zn Z Z Z (zU Z Z (congrArg nE ae.out)) (aj.ldB (j:=0) Z Z Z zM (v:=jV p1.Bib) Z) Z (zC Z Z Z (zU Z Z (congrArg nE ae.out)) Z Z (zT Z Z Z (zU Z Z (congrArg nE ae.out)) (fun _=>Zr Z Z Z) (oR Z (zb Z (congrArg nE ae.out) Z) (oM Z Z (ifc bF ?_ ?_))))))
 intro af bG
 refine rU Z (wT Z af) (zO Z Z zy Z yY) (zn Z Z Z (wT Z af) (aj.ldB (j:=1) Z Z Z Tryz.isAgg133 (v:=.func (.func 85) #[] #[.pointer (some ⟨pb0a,0,none⟩),.pointer (some ⟨pb0b,0,none⟩),.pointer (some ⟨pb0c,0,none⟩),.pointer (some ⟨pb0v,0,none⟩)]) Z) Z (zn Z Z Z (wT Z af) (aj.ldBA (j:=0) Z Z Z ZF zi (vs:=B1) Z Z) Z ?_))
 have aO:=bn.le ac
 have aP:=bp.le ac
 have ax:=bA.le ac
 have ay:=bB.le ac
 have az:=bC.le ac
 have aA:=bD.le ac
 have aB:=bq.le ac
 have aH:=bu.le ac
 have q:=bnd bG
 obtain ⟨⟨bX,bY⟩,aQ,aJ⟩:=q
 try dsimp only at aJ
 have bh:SW w [.obj pm0t (.map pe0t pk0t)] U an [.obj pm0t (.map pe0t pk0t),.blk b7 46 B1,.blk b3 137 B0] aw:=aj.pick [2,0,1] _ (by decide) rfl
 refine zG 1 Z Z Z (wT Z af) (zF Z Z Tryz.call85 (zA Z zL) Z) bh (fun hs=>wFc p1 J.2.2 pb0a pm0t pe0t pk0t J.1 pb0b pq0d pA0d_0_1 pc0d_0_1 pA0d_0_2 pc0d_0_2 pm0d_1 pe0d_1 pk0d_1 pm0d_2 pe0d_2 pk0d_2 J.1 pb0c pq0d pA0d_0_1 pc0d_0_1 pA0d_0_2 pc0d_0_2 pm0d_1 pe0d_1 pk0d_1 pm0d_2 pe0d_2 pk0d_2 () pb0v aw an hs aO aD aP ax ay az aA aB aH ax ay az aA aB aQ) (.inl Z) ?_
 rintro aq bP bU aG ah bj ⟨ap,ao,rfl,rfl,aC⟩
 have ak:SW w [.obj pm0t (.map pe0t pk0t)] U aq [.obj pm0t (.map ap ao),.blk b7 46 B1,.blk b3 137 B0] aG:=bj
 refine oR Z (zb Z (ZJ af.out) Z) (oM Z Z (ifc aJ ?_ ?_))
 intro ab bH
 refine zT Z Z Z (zU Z Z (congrArg nE ab.out)) (fun _=>zO Z Z zW Z ZP) (zn Z Z Z (zU Z Z (congrArg nE ab.out)) (ak.ldB (j:=1) Z Z Z ZR (v:=jV p1.Kind) Z) Z (zT Z Z Z (zU Z Z (congrArg nE ab.out)) (fun _=>Zf Z Z Z) (zC Z Z Z (zU Z Z (congrArg nE ab.out)) Z Z (ifc bH ?_ ?_))))
 intro ag bI
 refine zT Z Z Z (zU Z Z (zt (fun h=>h ag.out))) (fun _=>zO Z Z zy Z yY) (zn Z Z Z (zU Z Z (zt (fun h=>h ag.out))) (ak.ldB (j:=2) Z Z Z Tryz.isAgg133 (v:=.func (.func 88) #[] #[.pointer (some ⟨pb0v,0,none⟩),.pointer (some ⟨pb0g,0,none⟩)]) Z) Z (zn Z Z Z (zU Z Z (zt (fun h=>h ag.out))) (ak.ldBA (j:=1) Z Z Z ZF zi (vs:=B1) Z Z) Z ?_))
 have aR:=bw.le ac
 have aS:=aR.le ah
 have aT:=bx.le ac
 have aU:=aT.le ah
 have aV:=aH.le ah
 have aW:=ax.le ah
 have aX:=ay.le ah
 have aY:=az.le ah
 have aZ:=aA.le ah
 have a7:=aB.le ah
 have a8:=bz.le ac
 have ba:=a8.le ah
 have bb:=br.le ac
 have bc:=bb.le ah
 refine bnK bI fun bZ be bJ=>zG 0 Z Z Z (zU Z Z (zt (fun h=>h ag.out))) (zF Z Z Tryz.call88 (zA Z zL) Z) ak (fun hs=>wFe p1 J.1 pb0v (.func (.func 85) #[] #[.pointer (some ⟨pb0a,0,none⟩),.pointer (some ⟨pb0b,0,none⟩),.pointer (some ⟨pb0c,0,none⟩),.pointer (some ⟨pb0v,0,none⟩)]) pb0f pb0c pq0d pA0d_0_1 pc0d_0_1 pA0d_0_2 pc0d_0_2 pm0d_1 pe0d_1 pk0d_1 pm0d_2 pe0d_2 pk0d_2 pb0v (.func (.func 88) #[] #[.pointer (some ⟨pb0v,0,none⟩),.pointer (some ⟨pb0g,0,none⟩)]) (.func (.func 91) #[] #[.pointer (some ⟨pb0v,0,none⟩)]) (.func (.func 89) #[] #[.pointer (some ⟨pb0f,0,none⟩)]) J.2.1 pb0g pA0o pc0o aG aq hs aS aU aV aW aX aY aZ a7 ba bc be) (.inr Z) ?_
 rintro aF bQ bV aM bS bk ⟨rfl,rfl⟩
 have bm:SW w [.obj pm0t (.map pe0t pk0t)] U aF [.obj pm0t (.map ap ao),.blk b7 46 B1,.blk b3 137 B0] aM:=bk
 refine zT Z Z Z (zU Z Z (congrArg nE ab.out)) (fun _=>zX Z (zt (fun h=>h ag.out)) Z) (oR Z (zb Z (congrArg nE ab.out) Z) (oA Z Z (eN (zR ?_))))
 cases bJ
 exact ⟨rfl,_,(zh rfl),aF,_,(bm.pick [0] _ (by decide) rfl),ap,ao,rfl,rfl,aC⟩
 intro ag bK
 refine oT Z ag (oT Z ag (oT Z ag (Zg Z Z Z (zf Z Z (ZJ ag.out) Z) (zT Z Z Z (zU Z Z (congrArg nE ab.out)) (fun _=>zb Z (ZJ ag.out) Z) (oR Z (zb Z (congrArg nE ab.out) Z) (oA Z Z (eN (zR ?_))))))))
 cases bK
 exact ⟨rfl,_,(zh rfl),aq,_,(ak.pick [0] _ (by decide) rfl),ap,ao,rfl,rfl,aC⟩
 intro ab bL
 refine ZA Z Z Z (zf Z Z (congrArg nE (nH.2 ab.out)) Z) (ZA Z Z Z (zf Z Z (congrArg nE (nH.2 ab.out)) Z) (ZA Z Z Z (zf Z Z (congrArg nE (nH.2 ab.out)) Z) (ZA Z Z Z (zf Z Z (congrArg nE (nH.2 ab.out)) Z) (ZA Z Z Z (wDO Z Z Z) (ZA Z Z Z (wDO Z Z Z) (ZA Z Z Z (wDO Z Z Z) (Zg Z Z Z (wDO Z Z Z) (ZA Z Z Z (zf Z Z (congrArg nE (nH.2 ab.out)) Z) (oR Z (zX Z (congrArg nE (nH.2 ab.out)) Z) (oA Z Z (eN (zR ?_))))))))))))
 cases bL
 exact ⟨rfl,_,(zh rfl),aq,_,(ak.pick [0] _ (by decide) rfl),ap,ao,rfl,rfl,aC⟩
 intro af bM
 refine oF Z af (oF Z af (oF Z af (Zg Z Z Z (zf Z Z (zt af.out) Z) (oR Z (zX Z (zt af.out) Z) (oM Z Z (oN Z (oN Z (oN Z (oN Z (ZA Z Z Z (wDO Z Z Z) (ZA Z Z Z (wDO Z Z Z) (ZA Z Z Z (wDO Z Z Z) (Zg Z Z Z (wDO Z Z Z) (oN Z (oR Z (zX Z Z Z) (oA Z Z (eN (zR ?_))))))))))))))))))
 cases bM
 exact ⟨rfl,_,(zh rfl),an,_,(aj.pick [2] _ (by decide) rfl),pe0t,pk0t,rfl,rfl,aD⟩
 intro ae bN
 refine ZA Z Z Z (zf Z Z (congrArg nE (nH.2 ae.out)) Z) (ZA Z Z Z (zf Z Z (congrArg nE (nH.2 ae.out)) Z) (ZA Z Z Z (zf Z Z (congrArg nE (nH.2 ae.out)) Z) (ZA Z Z Z (zf Z Z (congrArg nE (nH.2 ae.out)) Z) (oR Z (zX Z (congrArg nE (nH.2 ae.out)) Z) (oM Z Z (oN Z (oN Z (oN Z (Zg Z Z Z (zf Z Z Z Z) (oR Z (zX Z Z Z) (oM Z Z (oN Z (oN Z (oN Z (oN Z (ZA Z Z Z (wDO Z Z Z) (ZA Z Z Z (wDO Z Z Z) (ZA Z Z Z (wDO Z Z Z) (Zg Z Z Z (wDO Z Z Z) (oN Z (oR Z (zX Z Z Z) (oA Z Z (eN (zR ?_))))))))))))))))))))))))
 cases bN
 exact ⟨rfl,_,(zh rfl),an,_,(aj.pick [2] _ (by decide) rfl),pe0t,pk0t,rfl,rfl,aD⟩
theorem wDM (J:Int) (p1:Int) (w:World) (U:PHeap) (hS:St0 w U [])  {r:Int} (hm:wAx J p1=some r):Gv Tryz.prog 214 [jV J,jV p1] w (wBu w [] U (fun U_ L_ v=>v=jV r/\L_=[])):=by
 unfold wAx at hm
 refine Gv.of Tryz.func214 Z Tryz.ntmps214 Tryz.results214 Z (sR fL1 Z (oA Z Z (eN (sR fL4 Z (oM Z Z (oM Z Z (oR Z (zQ Z Z Z) (oA Z Z (eN (zR ?_))))))))))
 cases hm
 exact ⟨Z,_,(zh Z),U,_,hS,Z,Z⟩
theorem wEW (J:Int) (p1:Int) (w:World) (U:PHeap) (hS:St0 w U [])  {r:Int} (hm:wCG J p1=some r):Gv Tryz.prog 215 [jV J,jV p1] w (wBu w [] U (fun U_ L_ v=>v=jV r/\L_=[])):=by
 unfold wCG at hm
 refine Gv.of Tryz.func215 Z Tryz.ntmps215 Tryz.results215 Z (sR fL1 Z (oA Z Z (eN (sR fL4 Z (oM Z Z (oM Z Z (oR Z (zg Z Z Z) (oA Z Z (eN (zR ?_))))))))))
 cases hm
 exact ⟨Z,_,(zh Z),U,_,hS,Z,Z⟩
theorem wEX (J:Int) (p1:Int) (w:World) (U:PHeap) (hS:St0 w U [])  {r:Int} (hm:wBj J p1=some r):Gv Tryz.prog 216 [jV J,jV p1] w (wBu w [] U (fun U_ L_ v=>v=jV r/\L_=[])):=by
 unfold wBj at hm
 refine Gv.of Tryz.func216 Z Tryz.ntmps216 Tryz.results216 Z (sR fL1 Z (oA Z Z (eN (sR fL5 Z (oM Z Z (oM Z Z (oR Z (yV Z Z Z) (oR Z (zQ Z Z Z) (oA Z Z (eN (zR ?_)))))))))))
 cases hm
 exact ⟨Z,_,(zh Z),U,_,hS,Z,Z⟩
theorem wEY (J:Int) (p1:Int) (w:World) (U:PHeap) (hS:St0 w U [])  {r:Int} (hm:wCH J p1=some r):Gv Tryz.prog 217 [jV J,jV p1] w (wBu w [] U (fun U_ L_ v=>v=jV r/\L_=[])):=by
 unfold wCH at hm
 refine Gv.of Tryz.func217 Z Tryz.ntmps217 Tryz.results217 Z (sR fL1 Z (oA Z Z (eN (sR fL2 Z (oM Z Z (oA Z Z (eN (zR ?_))))))))
 have hE:=hJ hm;first | subst r | cases hE
 exact ⟨Z,_,(zh Z),U,_,hS,Z,Z⟩
theorem wBg  (w:World) (U:PHeap) (hS:St0 w U [])  {r:Unit} (hm:wAV =some r):Gv Tryz.prog 137 [] w (wBu w [] U (fun U_ L_ v=>v=.agg #[.func (.func 214) #[] #[],.func (.func 215) #[] #[],.func (.func 216) #[] #[],.func (.func 217) #[] #[],.func (.func 214) #[] #[]]/\L_=[])):=by
 unfold wAV at hm
 refine Gv.of Tryz.func137 Z Tryz.ntmps137 Tryz.results137 Z (sR (.fx 0 .nil .stop) Z ?_)
 let B0:List Value:=[.nilFunc,.nilFunc,.nilFunc,.nilFunc,.nilFunc]
 refine ZI (cs:=B0) Z Z Z Z Z Tryz.zeroValue276 Z hS ?_
 intro W1 b2 ag
 refine eN (sR fL1 Z (oA Z Z (eN (sR (wLS (.fx 8 .nil .stop)) Z (oM Z Z ?_)))))
 let B1:List Value:=[.func (.func 214) #[] #[]]
 refine oR Z (ZD (pv:=[(0,.func (.func 214) #[] #[])]) (z:=[.nilFunc]) (cs:=B1) Z (wAI Z wAd) Tryz.zeroValue275 wEm Z Z) (oR Z (ZD (pv:=[(0,.func (.func 215) #[] #[])]) (z:=[.nilFunc]) (cs:=[.func (.func 215) #[] #[]]) Z (wAI Z wAd) Tryz.zeroValue275 wEm Z Z) (oR Z (ZD (pv:=[(0,.func (.func 216) #[] #[])]) (z:=[.nilFunc]) (cs:=[.func (.func 216) #[] #[]]) Z (wAI Z wAd) Tryz.zeroValue275 wEm Z Z) (oR Z (ZD (pv:=[(0,.func (.func 217) #[] #[])]) (z:=[.nilFunc]) (cs:=[.func (.func 217) #[] #[]]) Z (wAI Z wAd) Tryz.zeroValue275 wEm Z Z) (oM Z Z (oR Z (ZD (pv:=[(0,.func (.func 214) #[] #[])]) (z:=[.nilFunc]) (cs:=B1) Z (wAI Z wAd) Tryz.zeroValue275 wEm Z Z) ?_)))))
 let J:List Value:=[.func (.func 214) #[] #[],.func (.func 215) #[] #[],.func (.func 216) #[] #[],.func (.func 217) #[] #[],.func (.func 214) #[] #[]]
 refine oR Z (Runs.buildA (pv:=[(0,.agg B1.toArray),(1,.agg #[.func (.func 215) #[] #[]]),(2,.agg #[.func (.func 216) #[] #[]]),(3,.agg #[.func (.func 217) #[] #[]]),(4,.agg B1.toArray)]) (z:=B0) (cs:=J) Z (wAI Z (wAI Z (wAI Z (wAI Z (wAI Z wAd))))) Tryz.zeroValue276 ZY ZO Z Z) (ZN (j:=0) (vs:=J) Z Z Z Z ag Z Z Z Z Tryz.sizeOf276 (zJ Z) Z Z Z ?_)
 intro W5 ah
 have ac:sW w U U [.blk b2 276 J] W5:=ah
 refine eN (zR ?_)
 cases hm
 exact ⟨rfl,_,(wMf (v:=.agg J.toArray) ⟨⟨_,rfl,(wFW Tryz.isAgg276 Tryz.sizeOf276 (ac.blkAt (k:=0) rfl) (vs:=J) rfl rfl)⟩,trivial⟩),U,_,(ac.pick [] _ (by decide) rfl),rfl,rfl⟩
theorem wGX (p0:Int) (J:List Int) (af:Option Addr) (ag:Nat) (w:World) (U:PHeap) (hS:St0 w U []) (aF:Sl U 1 af ag J.length (hD KL.encI J)) {r:Int} (hm:wCz p0 J=some r):Gv Tryz.prog 138 [jV p0,.slice af J.length ag] w (wBu w [] U (fun U_ L_ v=>v=jV r/\L_=[])):=by
 unfold wCz at hm
 refine Gv.of Tryz.func138 Z Tryz.ntmps138 Tryz.results138 Z (sR fL1 Z (oA Z Z (eN (zH (sR fL3 Z (oM Z Z (oR Z (zw Z Z zN) (oM Z Z (eN (zP (bnK hm fun aU aH aK=>?_)))))))))))
 have q:=wBY aH
 obtain ⟨ae,aG⟩:=q
 replace ae:=zD ae
 refine CK.forN' (fun k7 x6 σ_ w_=>∃ (U_:PHeap),σ_ 9=jV (↑k7:Int)/\σ_ 0=jV x6/\σ_ 7=.slice af J.length ag/\σ_ 8=jV (↑J.length:Int)/\PHeap.Le U U_/\sW w U U_ [] w_) aG ?_ ?_ ?_
 exact ⟨U,Z,Z,Z,Z,(zS _),hS⟩
 rintro k7 x6 aT aV aN ac ⟨aq,ab,aw,ai,aj,an,am⟩ aL
 have ah:Hid ((↑k7:Int) < (↑J.length:Int)):=zD (wBh ac)
 replace ac:=zD ac
 have aI:Hid (w64 ((↑k7:Int) + 1)=(↑(k7 + 1):Int)):=zD (by have h1:=ae.out;have h2:=ah.out;rw [wAf] <;> omega)
 refine sR fL1 Z (oR Z (zK Z ab aj) (eN (zH (cT Z ah (kN (zH (zP (sR fL3 Z (bnK aL fun aM ak aJ=>?_)))))))))
 have aA:=aF.le an
 have q:=aA.el (fun _=>rfl) (wBW ak)
 obtain ⟨aP,aS,aB,aC⟩:=q
 refine oR Z (ZS Z ai aB ab zN zB (wCw ak)) (oL Z (am.ldC (f:=0) aC (v:=jV aM) Z Z zM Z) (oA Z Z (eN (rR fL4 Z (oM Z aw (oM Z Z (oR Z (Runs.max Z Z Z) (oA Z Z (zY (zd (zI (rR fL2 Z (oR Z (ZE (zQ Z ab Z) (congrArg (jV) aI.out)) (oM Z Z (zY ?_)))))))))))))))
 cases aJ
 exact zI ⟨Z,⟨aq,Z,Z,ai,aj,an,am⟩⟩
 rintro aW aO ⟨au,az,ax,aQ,ay,aR,aD⟩
 have av:Hid (¬ ((↑(((↑J.length:Int):Int) - 0).toNat:Int) < (↑J.length:Int))):=zD (wBG)
 refine sR fL1 Z (oR Z (zK Z az ay) (eN (zH (cF Z av (zr (zV (zV (zk (zI (sR fL2 Z (oM Z ax (oA Z Z (eN (zR ?_))))))))))))))
 have hE:=hJ aK;first | subst r | cases hE
 exact ⟨Z,_,(zh Z),au,_,aD,Z,Z⟩
theorem wFt (p0:wAR) (dZ:Nat) (dY:Option Addr) (d7:Nat) (bq:Option Addr) (br:Nat) (d8:Nat) (oZ:Array MapEntry) (o5:Nat) (d9:Nat) (o3:Array MapEntry) (o6:Nat) (p1:wAH) (p2:(wAR × List Int × List (Int × Bool))) (pb2a:Nat) (pb2b:Nat) (pb2c:Nat) (pb2v:Nat) (pb2f:Nat) (pb2g:Nat) (pq2d:Nat) (pA2d_0_1:Option Addr) (pc2d_0_1:Nat) (pA2d_0_2:Option Addr) (pc2d_0_2:Nat) (pm2d_1:Nat) (pe2d_1:Array MapEntry) (pk2d_1:Nat) (pm2d_2:Nat) (pe2d_2:Array MapEntry) (pk2d_2:Nat) (pm2t:Nat) (pe2t:Array MapEntry) (pk2t:Nat) (pA2o:Option Addr) (pc2o:Nat) (w:World) (U:PHeap) (hS:St0 w U [.obj pm2t (.map pe2t pk2t)]) (mH:Cl U dZ 0 [jV p0.Record.Deadline,.slice dY p0.Record.Skiers.length d7,.slice bq p0.Record.Decisions.length br,.map (some d8),.map (some d9)]) (qb:Sl U 2 dY d7 p0.Record.Skiers.length (hD wAF p0.Record.Skiers)) (mQ:Sl U 6 bq br p0.Record.Decisions.length (hD wAD p0.Record.Decisions)) (qc:MpF U d8 oZ o5 wEQ wEZ p0.at_) (qd:MpF U d9 o3 o6 wER wEa p0.about) (mR:Cl U pb2a 0 [.map (some pm2t)]) (mS:Cl U pb2b 0 [.func (.func 83) #[.pointer (some ⟨pq2d,0,none⟩)] #[]]) (mT:Cl U pb2c 0 [.pointer (some ⟨pq2d,0,none⟩)]) (mU:Cl U pb2v 0 [.func (.func 85) #[] #[.pointer (some ⟨pb2a,0,none⟩),.pointer (some ⟨pb2b,0,none⟩),.pointer (some ⟨pb2c,0,none⟩),.pointer (some ⟨pb2v,0,none⟩)],.func (.func 87) #[] #[.pointer (some ⟨pb2f,0,none⟩)],.func (.func 88) #[] #[.pointer (some ⟨pb2v,0,none⟩),.pointer (some ⟨pb2g,0,none⟩)],.func (.func 91) #[] #[.pointer (some ⟨pb2v,0,none⟩)],.func (.func 89) #[] #[.pointer (some ⟨pb2f,0,none⟩)]]) (mV:Cl U pb2f 0 [.func (.func 84) #[] #[.pointer (some ⟨pb2c,0,none⟩),.pointer (some ⟨pb2v,0,none⟩)]]) (mI:Cl U pb2g 0 [.slice pA2o p2.2.1.length pc2o]) (mJ:Cl U pq2d 0 [jV p2.1.Record.Deadline,.slice pA2d_0_1 p2.1.Record.Skiers.length pc2d_0_1,.slice pA2d_0_2 p2.1.Record.Decisions.length pc2d_0_2,.map (some pm2d_1),.map (some pm2d_2)]) (mK:Sl U 2 pA2d_0_1 pc2d_0_1 p2.1.Record.Skiers.length (hD wAF p2.1.Record.Skiers)) (mL:Sl U 6 pA2d_0_2 pc2d_0_2 p2.1.Record.Decisions.length (hD wAD p2.1.Record.Decisions)) (mM:MpF U pm2d_1 pe2d_1 pk2d_1 wEQ wEZ p2.1.at_) (mN:MpF U pm2d_2 pe2d_2 pk2d_2 wER wEa p2.1.about) (mO:MpR pe2t wDv wDw p2.2.2) (mP:Sl U 1 pA2o pc2o p2.2.1.length (hD KL.encI p2.2.1)) {r:Int × Bool × (List (Int × Bool))} (hm:wBz p0 p1 p2=some r):Gv Tryz.prog 80 [.pointer (some ⟨dZ,0,none⟩),.agg #[jV p1.Bib,jV p1.Time],.agg #[.func (.func 85) #[] #[.pointer (some ⟨pb2a,0,none⟩),.pointer (some ⟨pb2b,0,none⟩),.pointer (some ⟨pb2c,0,none⟩),.pointer (some ⟨pb2v,0,none⟩)],.func (.func 87) #[] #[.pointer (some ⟨pb2f,0,none⟩)],.func (.func 88) #[] #[.pointer (some ⟨pb2v,0,none⟩),.pointer (some ⟨pb2g,0,none⟩)],.func (.func 91) #[] #[.pointer (some ⟨pb2v,0,none⟩)],.func (.func 89) #[] #[.pointer (some ⟨pb2f,0,none⟩)]]] w (wBu w [.obj pm2t (.map pe2t pk2t)] U (fun U_ L_ v=>∃ (es_0:Array MapEntry) (ck_0:Nat),v=.tuple #[jV r.1,.bool r.2.1]/\L_=[.obj pm2t (.map es_0 ck_0)]/\MpR es_0 wDv wDw r.2.2)):=by
 unfold wBz at hm
 refine Gv.of Tryz.func80 Z Tryz.ntmps80 Tryz.results80 Z (sR (.fx 0 (.fx 1 (.fl 2 (.fl 3 .nil)) .stop) .stop) Z ?_)
 let B0:List Value:=[jV p1.Bib,jV p1.Time]
 refine ZG (cs:=B0) rfl rfl rfl rfl rfl rfl (by rfl) hS ?_
 intro W2 b3 lR
 let B1:List Value:=[.func (.func 85) #[] #[.pointer (some ⟨pb2a,0,none⟩),.pointer (some ⟨pb2b,0,none⟩),.pointer (some ⟨pb2c,0,none⟩),.pointer (some ⟨pb2v,0,none⟩)],.func (.func 87) #[] #[.pointer (some ⟨pb2f,0,none⟩)],.func (.func 88) #[] #[.pointer (some ⟨pb2v,0,none⟩),.pointer (some ⟨pb2g,0,none⟩)],.func (.func 91) #[] #[.pointer (some ⟨pb2v,0,none⟩)],.func (.func 89) #[] #[.pointer (some ⟨pb2f,0,none⟩)]]
 refine ZG (cs:=B1) rfl rfl rfl rfl rfl rfl (by rfl) lR ?_
 intro W6 b7 mF
 refine Zz rfl rfl rfl rfl rfl rfl (Zz rfl rfl rfl rfl rfl rfl (eN (zH (zx zp [3,1,3,3,1,3,3] fL7 (by kernel_rfl) ?_))))
 have bb:=mF.drew
 generalize hw_W11:({ W6 with drawn:=W6.drawn + 1 }:World)=pW at bb ⊢
 refine oR Z (zO Z Z Zb Z zB) (oL Z (bb.ldB (j:=1) Z Z Z zM (v:=jV p1.Time) Z) (oR Z (Zr Z Z Z) (oR Z (zO Z Z Zb Z zB) (oL Z (bb.ldB (j:=1) Z Z Z zM (v:=jV p1.Time) Z) (oA Z Z (oA Z Z (eN (zH (sR fL7 Z (oM Z Z (oR Z (Zn Z Z) (oR Z (zO Z Z Zx Z ZK) (oR Z (zO Z Z zj Z Zi) (oL Z (bb.ldC (f:=2) mH (v:=.slice bq p0.Record.Decisions.length br) Z Z Zq Z) (oR Z (zw Z Z ZC) (oM Z Z (eN (zP ?_))))))))))))))))))
 have q:=bnd hm
 obtain ⟨⟨q6,q7,aZ⟩,mW,dH⟩:=q
 try dsimp only at dH
 have q:=wBY mW
 obtain ⟨bP,mX⟩:=q
 replace bP:=zD bP
 refine CK.forN' (fun aY (bY,dm,az) σ_ w_=>∃ (U_:PHeap) (aX:Array MapEntry) (a8:Nat),σ_ 23=jV (↑aY:Int)/\σ_ 4=.pointer (some ⟨b3,0,none⟩)/\σ_ 5=.pointer (some ⟨b7,0,none⟩)/\σ_ 8=.bool dm/\σ_ 9=jV az/\σ_ 21=.slice bq p0.Record.Decisions.length br/\σ_ 22=jV (↑p0.Record.Decisions.length:Int)/\PHeap.Le U U_/\SW w [.obj pm2t (.map pe2t pk2t)] U U_ [.blk b7 137 B1,.blk b3 40 B0,.obj pm2t (.map aX a8)] w_/\MpR aX wDv wDw bY) mX ?_ ?_ ?_
 exact ⟨U,pe2t,pk2t,Z,Z,Z,Z,Z,Z,Z,(zS _),bb,mO⟩
 rintro aY ⟨bY,dm,az⟩ q5 q8 pY bO ⟨bu,aX,a8,aq,av,am,dq,aA,aw,ax,ap,du,jC⟩ dX
 try dsimp only at dX
 have dp:Hid ((↑aY:Int) < (↑p0.Record.Decisions.length:Int)):=zD (wBh bO)
 replace bO:=zD bO
 have mY:Hid (w64 ((↑aY:Int) + 1)=(↑(aY + 1):Int)):=zD (by have h1:=bP.out;have h2:=dp.out;rw [wAf] <;> omega)
 refine sR fL1 Z (oR Z (zK Z aq ax) (eN (zH (cT Z dp (kN ?_)))))
 have q:=bnd dX
 obtain ⟨⟨ot,eL,pi⟩,oq,dV⟩:=q
 try dsimp only at dV
 refine yH (fun σ_ w_=>∃ (U_:PHeap) (bw:Array MapEntry) (bN:Nat),σ_ 4=.pointer (some ⟨b3,0,none⟩)/\σ_ 5=.pointer (some ⟨b7,0,none⟩)/\σ_ 8=.bool eL/\σ_ 9=jV pi/\σ_ 21=.slice bq p0.Record.Decisions.length br/\σ_ 22=jV (↑p0.Record.Decisions.length:Int)/\σ_ 23=jV (↑aY:Int)/\PHeap.Le bu U_/\SW w [.obj pm2t (.map pe2t pk2t)] U U_ [.obj pm2t (.map bw bN),.blk b7 137 B1,.blk b3 40 B0] w_/\MpR bw wDv wDw ot) ?_ ?_
 refine zP (sR gBl Z (bnK oq fun ab dr oh=>?_))
 have j7:=mQ.le ap
 have q:=j7.el (fun _=>rfl) (wBW dr)
 obtain ⟨p7,qh,lb,lc⟩:=q
 refine oR Z (ZS Z aw lb aq ZC zi (wCw dr)) (oL Z (du.ldCA (f:=0) lc Z Z ZF zi (us:=[jV ab.Number,jV ab.Kind,jV ab.Minute,jV ab.Bib,jV ab.Much,jV ab.About]) Z Z) (ZI (cs:=[jV 0,jV 0,jV 0,jV 0,jV 0,jV 0]) Z Z Z Z Z Zl Z du ?_))
 intro p6 aj mE
 let B2:List Value:=[jV ab.Number,jV ab.Kind,jV ab.Minute,jV ab.Bib,jV ab.Much,jV ab.About]
 refine ZN (j:=0) (vs:=B2) Z Z Z Z mE Z Z Z Z zi (zJ Z) Z Z Z ?_
 intro bA mG
 have bx:SW w [.obj pm2t (.map pe2t pk2t)] U bu [.blk aj 46 B2,.blk b7 137 B1,.blk b3 40 B0,.obj pm2t (.map aX a8)] bA:=mG
 refine eN (sR (wEu (.fx 4 .nil .stop)) Z (oL Z (bx.ldBA (j:=1) Z Z am Tryz.isAgg137 Tryz.sizeOf137 (vs:=B1) Z Z) (oL Z (bx.ldBA (j:=0) Z Z Z ZF zi (vs:=B2) Z Z) (oR Z (zO Z av Zb Z zB) (oL Z (bx.ldB (j:=2) Z Z Z zM (v:=jV p1.Bib) Z) ?_)))))
 have j9:=mR.le ap
 have kx:=mS.le ap
 have aC:=mT.le ap
 have aD:=mU.le ap
 have aF:=mV.le ap
 have ky:=mI.le ap
 have aG:=mJ.le ap
 have aH:=mK.le ap
 have aI:=mL.le ap
 have aJ:=mM.le ap
 have aK:=mN.le ap
 have kz:=mP.le ap
 have q:=bnd oh
 obtain ⟨⟨qZ,q4⟩,k9,dW⟩:=q
 try dsimp only at dW
 have lf:SW w [.obj pm2t (.map pe2t pk2t)] U bu [.obj pm2t (.map aX a8),.blk aj 46 B2,.blk b7 137 B1,.blk b3 40 B0] bA:=bx.pick [3,0,1,2] _ (by decide) rfl
 refine zG 1 Z Z Z Z (zF Z Z Tryz.call136 (zA Z (zA Z (zA Z zL))) Z) lf (fun hs=>wGW (p2.1,p2.2.1,bY) pb2a pb2b pb2c pb2v pb2f pb2g pq2d pA2d_0_1 pc2d_0_1 pA2d_0_2 pc2d_0_2 pm2d_1 pe2d_1 pk2d_1 pm2d_2 pe2d_2 pk2d_2 pm2t aX a8 pA2o pc2o ab p1.Bib bA bu hs j9 kx aC aD aF ky aG aH aI aJ aK jC kz k9) (.inl Z) ?_
 rintro au pj qi an J lg ⟨ae,ac,rfl,rfl,aB⟩
 have ay:SW w [.obj pm2t (.map pe2t pk2t)] U au [.obj pm2t (.map ae ac),.blk aj 46 B2,.blk b7 137 B1,.blk b3 40 B0] an:=lg
 refine eN (ifc dW ?_ ?_)
 intro bB mZ
 refine ZB (congrArg nE bB.out) (sR fL7 Z (oM Z dq (oM Z Z (ifc mZ ?_ ?_))))
 intro aL dw
 refine ZA Z Z Z (zf Z Z (congrArg nE aL.out) Z) (ZA Z Z Z (zf Z Z (congrArg nE aL.out) Z) (ZA Z Z Z (zf Z Z (congrArg nE aL.out) Z) (oR Z (zb Z (congrArg nE aL.out) Z) (oA Z Z (eN ?_)))))
 by_cases bC:ab.Kind=0
 have dx:=dw;rw [if_pos bC] at dx
 refine zx zp [2,3,1,3,3,3,3,1,1,2,2,3] (.fl 1 (.fl 2 (wGv gBn))) (by kernel_rfl) ?_
 have bc:=ay.drew
 generalize hw_W118:({ an with drawn:=an.drawn + 1 }:World)=ed at bc ⊢
 refine oR Z (zO Z Z zW Z ZP) (oL Z (bc.ldB (j:=1) Z Z Z ZR (v:=jV ab.Kind) Z) (oM Z aA (oR Z (zO Z am zy Z Zj) (oL Z (bc.ldB (j:=2) Z Z Z yA (v:=.func (.func 91) #[] #[.pointer (some ⟨pb2v,0,none⟩)]) Z) (oL Z (bc.ldBA (j:=1) Z Z Z ZF zi (vs:=B2) Z Z) ?_)))))
 have q:=bnd dx
 obtain ⟨⟨⟩,eZ,dy⟩:=q
 try dsimp only at dy
 refine zG 0 Z Z Z Z (zF Z Z yM zL Z) bc (fun hs=>wBg ed au hs eZ) (.inr Z) ?_
 rintro bZ pk qj cL aM lh ⟨rfl,rfl⟩
 have li:SW w [.obj pm2t (.map pe2t pk2t)] U bZ [.obj pm2t (.map ae ac),.blk aj 46 B2,.blk b7 137 B1,.blk b3 40 B0] cL:=lh
 refine zT rfl rfl rfl rfl (fun _=>(Runs.ixA (i:=0) rfl rfl (congrArg (jV) bC) ZY ZO (by decide) (by decide) (wDl yE ZO rfl))) (zT rfl rfl rfl rfl (fun _=>Runs.fld rfl rfl Ze rfl (wDG yN (v:=.func (.func 214) #[] #[]) rfl)) ?_)
 have e7:=aD.le J
 have e8:=e7.le aM
 have e9:=aF.le J
 have fb:=e9.le aM
 have fc:=aC.le J
 have fd:=fc.le aM
 have ff:=aG.le J
 have fg:=ff.le aM
 have fh:=aH.le J
 have fj:=fh.le aM
 have fk:=aI.le J
 have fm:=fk.le aM
 have fq:=aJ.le J
 have ft:=fq.le aM
 have fu:=aK.le J
 have fw:=fu.le aM
 refine bnK dy fun o7 fy m0=>zG 0 Z Z Z Z (zF Z Z yQ (zA Z zL) Z) li (fun hs=>wBE ab p2.1 pb2v (.func (.func 85) #[] #[.pointer (some ⟨pb2a,0,none⟩),.pointer (some ⟨pb2b,0,none⟩),.pointer (some ⟨pb2c,0,none⟩),.pointer (some ⟨pb2v,0,none⟩)]) (.func (.func 87) #[] #[.pointer (some ⟨pb2f,0,none⟩)]) (.func (.func 88) #[] #[.pointer (some ⟨pb2v,0,none⟩),.pointer (some ⟨pb2g,0,none⟩)]) pb2f pb2c pq2d pA2d_0_1 pc2d_0_1 pA2d_0_2 pc2d_0_2 pm2d_1 pe2d_1 pk2d_1 pm2d_2 pe2d_2 pk2d_2 pb2v cL bZ hs e8 fb fd fg fj fm ft fw fy) (.inr Z) ?_
 rintro b4 pm qk cM ou lj ⟨rfl,rfl⟩
 have ll:SW w [.obj pm2t (.map pe2t pk2t)] U b4 [.obj pm2t (.map ae ac),.blk aj 46 B2,.blk b7 137 B1,.blk b3 40 B0] cM:=lj
 refine bnK m0 fun qO fz m2=>zG 0 Z Z Z Z (zF Z Z Tryz.call214 (zA Z (zA Z zL)) Z) ll (fun hs=>wDM az o7 cM b4 hs fz) (.inr Z) ?_
 rintro b8 pn ql ee ov lm ⟨rfl,rfl⟩
 have ln:SW w [.obj pm2t (.map pe2t pk2t)] U b8 [.obj pm2t (.map ae ac),.blk aj 46 B2,.blk b7 137 B1,.blk b3 40 B0] ee:=lm
 refine oA Z Z (zY (zd ?_))
 cases m2
 exact zI ⟨rfl,⟨b8,ae,ac,av,am,rfl,rfl,aw,ax,aq,(((J.trans aM).trans ou).trans ov),(ln.pick [0,2,3] _ (by decide) rfl),aB⟩⟩
 have bQ:=dw;rw [if_neg bC] at bQ
 by_cases bD:ab.Kind=1
 have dz:=bQ;rw [if_pos bD] at dz
 refine zx zp [2,3,1,3,3,3,3,1,1,2,2,3] (.fl 1 (.fl 2 (wGv gBn))) (by kernel_rfl) ?_
 have be:=ay.drew
 generalize hw_W173:({ an with drawn:=an.drawn + 1 }:World)=eh at be ⊢
 refine oR Z (zO Z Z zW Z ZP) (oL Z (be.ldB (j:=1) Z Z Z ZR (v:=jV ab.Kind) Z) (oM Z aA (oR Z (zO Z am zy Z Zj) (oL Z (be.ldB (j:=2) Z Z Z yA (v:=.func (.func 91) #[] #[.pointer (some ⟨pb2v,0,none⟩)]) Z) (oL Z (be.ldBA (j:=1) Z Z Z ZF zi (vs:=B2) Z Z) ?_)))))
 have q:=bnd dz
 obtain ⟨⟨⟩,fA,dA⟩:=q
 try dsimp only at dA
 refine zG 0 Z Z Z Z (zF Z Z yM zL Z) be (fun hs=>wBg eh au hs fA) (.inr Z) ?_
 rintro b9 po qm cN aN lp ⟨rfl,rfl⟩
 have lq:SW w [.obj pm2t (.map pe2t pk2t)] U b9 [.obj pm2t (.map ae ac),.blk aj 46 B2,.blk b7 137 B1,.blk b3 40 B0] cN:=lp
 refine zT rfl rfl rfl rfl (fun _=>(Runs.ixA (i:=1) rfl rfl (congrArg (jV) bD) ZY ZO (by decide) (by decide) (wDl yE ZO rfl))) (zT rfl rfl rfl rfl (fun _=>Runs.fld rfl rfl Ze rfl (wDG yN (v:=.func (.func 215) #[] #[]) rfl)) ?_)
 have fB:=aD.le J
 have fC:=fB.le aN
 have fD:=aF.le J
 have fE:=fD.le aN
 have fG:=aC.le J
 have fH:=fG.le aN
 have fI:=aG.le J
 have fJ:=fI.le aN
 have fK:=aH.le J
 have fL:=fK.le aN
 have fM:=aI.le J
 have fN:=fM.le aN
 have fO:=aJ.le J
 have fP:=fO.le aN
 have fQ:=aK.le J
 have fR:=fQ.le aN
 refine bnK dA fun o8 fS m3=>zG 0 Z Z Z Z (zF Z Z yQ (zA Z zL) Z) lq (fun hs=>wBE ab p2.1 pb2v (.func (.func 85) #[] #[.pointer (some ⟨pb2a,0,none⟩),.pointer (some ⟨pb2b,0,none⟩),.pointer (some ⟨pb2c,0,none⟩),.pointer (some ⟨pb2v,0,none⟩)]) (.func (.func 87) #[] #[.pointer (some ⟨pb2f,0,none⟩)]) (.func (.func 88) #[] #[.pointer (some ⟨pb2v,0,none⟩),.pointer (some ⟨pb2g,0,none⟩)]) pb2f pb2c pq2d pA2d_0_1 pc2d_0_1 pA2d_0_2 pc2d_0_2 pm2d_1 pe2d_1 pk2d_1 pm2d_2 pe2d_2 pk2d_2 pb2v cN b9 hs fC fE fH fJ fL fN fP fR fS) (.inr Z) ?_
 rintro ca pp qn cO ox lu ⟨rfl,rfl⟩
 have lv:SW w [.obj pm2t (.map pe2t pk2t)] U ca [.obj pm2t (.map ae ac),.blk aj 46 B2,.blk b7 137 B1,.blk b3 40 B0] cO:=lu
 refine bnK m3 fun qP fT m4=>zG 0 Z Z Z Z (zF Z Z Tryz.call215 (zA Z (zA Z zL)) Z) lv (fun hs=>wEW az o8 cO ca hs fT) (.inr Z) ?_
 rintro cc pq qo ei oy lw ⟨rfl,rfl⟩
 have lx:SW w [.obj pm2t (.map pe2t pk2t)] U cc [.obj pm2t (.map ae ac),.blk aj 46 B2,.blk b7 137 B1,.blk b3 40 B0] ei:=lw
 refine oA Z Z (zY (zd ?_))
 cases m4
 exact zI ⟨rfl,⟨cc,ae,ac,av,am,rfl,rfl,aw,ax,aq,(((J.trans aN).trans ox).trans oy),(lx.pick [0,2,3] _ (by decide) rfl),aB⟩⟩
 have bR:=bQ;rw [if_neg bD] at bR
 by_cases bE:ab.Kind=2
 have dB:=bR;rw [if_pos bE] at dB
 refine zx zp [2,3,1,3,3,3,3,1,1,2,2,3] (.fl 1 (.fl 2 (wGv gBn))) (by kernel_rfl) ?_
 have bg:=ay.drew
 generalize hw_W228:({ an with drawn:=an.drawn + 1 }:World)=ej at bg ⊢
 refine oR Z (zO Z Z zW Z ZP) (oL Z (bg.ldB (j:=1) Z Z Z ZR (v:=jV ab.Kind) Z) (oM Z aA (oR Z (zO Z am zy Z Zj) (oL Z (bg.ldB (j:=2) Z Z Z yA (v:=.func (.func 91) #[] #[.pointer (some ⟨pb2v,0,none⟩)]) Z) (oL Z (bg.ldBA (j:=1) Z Z Z ZF zi (vs:=B2) Z Z) ?_)))))
 have q:=bnd dB
 obtain ⟨⟨⟩,fU,dC⟩:=q
 try dsimp only at dC
 refine zG 0 Z Z Z Z (zF Z Z yM zL Z) bg (fun hs=>wBg ej au hs fU) (.inr Z) ?_
 rintro cd pt qp cP aO ly ⟨rfl,rfl⟩
 have lA:SW w [.obj pm2t (.map pe2t pk2t)] U cd [.obj pm2t (.map ae ac),.blk aj 46 B2,.blk b7 137 B1,.blk b3 40 B0] cP:=ly
 refine zT rfl rfl rfl rfl (fun _=>(Runs.ixA (i:=2) rfl rfl (congrArg (jV) bE) ZY ZO (by decide) (by decide) (wDl yE ZO rfl))) (zT rfl rfl rfl rfl (fun _=>Runs.fld rfl rfl Ze rfl (wDG yN (v:=.func (.func 216) #[] #[]) rfl)) ?_)
 have fV:=aD.le J
 have fW:=fV.le aO
 have fY:=aF.le J
 have fZ:=fY.le aO
 have f4:=aC.le J
 have f5:=f4.le aO
 have f7:=aG.le J
 have f8:=f7.le aO
 have f9:=aH.le J
 have ga:=f9.le aO
 have gb:=aI.le J
 have gc:=gb.le aO
 have ge:=aJ.le J
 have gf:=ge.le aO
 have gg:=aK.le J
 have gh:=gg.le aO
 refine bnK dC fun o9 gi m5=>zG 0 Z Z Z Z (zF Z Z yQ (zA Z zL) Z) lA (fun hs=>wBE ab p2.1 pb2v (.func (.func 85) #[] #[.pointer (some ⟨pb2a,0,none⟩),.pointer (some ⟨pb2b,0,none⟩),.pointer (some ⟨pb2c,0,none⟩),.pointer (some ⟨pb2v,0,none⟩)]) (.func (.func 87) #[] #[.pointer (some ⟨pb2f,0,none⟩)]) (.func (.func 88) #[] #[.pointer (some ⟨pb2v,0,none⟩),.pointer (some ⟨pb2g,0,none⟩)]) pb2f pb2c pq2d pA2d_0_1 pc2d_0_1 pA2d_0_2 pc2d_0_2 pm2d_1 pe2d_1 pk2d_1 pm2d_2 pe2d_2 pk2d_2 pb2v cP cd hs fW fZ f5 f8 ga gc gf gh gi) (.inr Z) ?_
 rintro cg pu qq cQ oz lB ⟨rfl,rfl⟩
 have lC:SW w [.obj pm2t (.map pe2t pk2t)] U cg [.obj pm2t (.map ae ac),.blk aj 46 B2,.blk b7 137 B1,.blk b3 40 B0] cQ:=lB
 refine bnK m5 fun qQ gj m6=>zG 0 Z Z Z Z (zF Z Z Tryz.call216 (zA Z (zA Z zL)) Z) lC (fun hs=>wEX az o9 cQ cg hs gj) (.inr Z) ?_
 rintro ch py qr ek oB lD ⟨rfl,rfl⟩
 have lE:SW w [.obj pm2t (.map pe2t pk2t)] U ch [.obj pm2t (.map ae ac),.blk aj 46 B2,.blk b7 137 B1,.blk b3 40 B0] ek:=lD
 refine oA Z Z (zY (zd ?_))
 cases m6
 exact zI ⟨rfl,⟨ch,ae,ac,av,am,rfl,rfl,aw,ax,aq,(((J.trans aO).trans oz).trans oB),(lE.pick [0,2,3] _ (by decide) rfl),aB⟩⟩
 have bS:=bR;rw [if_neg bE] at bS
 by_cases bF:ab.Kind=3
 have dD:=bS;rw [if_pos bF] at dD
 refine zx zp [2,3,1,3,3,3,3,1,1,2,2,3] (.fl 1 (.fl 2 (wGv gBn))) (by kernel_rfl) ?_
 have bh:=ay.drew
 generalize hw_W283:({ an with drawn:=an.drawn + 1 }:World)=en at bh ⊢
 refine oR Z (zO Z Z zW Z ZP) (oL Z (bh.ldB (j:=1) Z Z Z ZR (v:=jV ab.Kind) Z) (oM Z aA (oR Z (zO Z am zy Z Zj) (oL Z (bh.ldB (j:=2) Z Z Z yA (v:=.func (.func 91) #[] #[.pointer (some ⟨pb2v,0,none⟩)]) Z) (oL Z (bh.ldBA (j:=1) Z Z Z ZF zi (vs:=B2) Z Z) ?_)))))
 have q:=bnd dD
 obtain ⟨⟨⟩,gk,dE⟩:=q
 try dsimp only at dE
 refine zG 0 Z Z Z Z (zF Z Z yM zL Z) bh (fun hs=>wBg en au hs gk) (.inr Z) ?_
 rintro ci pz qs cR aP lF ⟨rfl,rfl⟩
 have lG:SW w [.obj pm2t (.map pe2t pk2t)] U ci [.obj pm2t (.map ae ac),.blk aj 46 B2,.blk b7 137 B1,.blk b3 40 B0] cR:=lF
 refine zT rfl rfl rfl rfl (fun _=>(Runs.ixA (i:=3) rfl rfl (congrArg (jV) bF) ZY ZO (by decide) (by decide) (wDl yE ZO rfl))) (zT rfl rfl rfl rfl (fun _=>Runs.fld rfl rfl Ze rfl (wDG yN (v:=.func (.func 217) #[] #[]) rfl)) ?_)
 have gl:=aD.le J
 have gm:=gl.le aP
 have gq:=aF.le J
 have gr:=gq.le aP
 have gt:=aC.le J
 have gu:=gt.le aP
 have gv:=aG.le J
 have gw:=gv.le aP
 have gz:=aH.le J
 have gA:=gz.le aP
 have gB:=aI.le J
 have gC:=gB.le aP
 have gD:=aJ.le J
 have gE:=gD.le aP
 have gF:=aK.le J
 have gG:=gF.le aP
 refine bnK dE fun pa gH m7=>zG 0 Z Z Z Z (zF Z Z yQ (zA Z zL) Z) lG (fun hs=>wBE ab p2.1 pb2v (.func (.func 85) #[] #[.pointer (some ⟨pb2a,0,none⟩),.pointer (some ⟨pb2b,0,none⟩),.pointer (some ⟨pb2c,0,none⟩),.pointer (some ⟨pb2v,0,none⟩)]) (.func (.func 87) #[] #[.pointer (some ⟨pb2f,0,none⟩)]) (.func (.func 88) #[] #[.pointer (some ⟨pb2v,0,none⟩),.pointer (some ⟨pb2g,0,none⟩)]) pb2f pb2c pq2d pA2d_0_1 pc2d_0_1 pA2d_0_2 pc2d_0_2 pm2d_1 pe2d_1 pk2d_1 pm2d_2 pe2d_2 pk2d_2 pb2v cR ci hs gm gr gu gw gA gC gE gG gH) (.inr Z) ?_
 rintro cj pB qt cS oC lH ⟨rfl,rfl⟩
 have lI:SW w [.obj pm2t (.map pe2t pk2t)] U cj [.obj pm2t (.map ae ac),.blk aj 46 B2,.blk b7 137 B1,.blk b3 40 B0] cS:=lH
 refine bnK m7 fun qR gI m8=>zG 0 Z Z Z Z (zF Z Z Tryz.call217 (zA Z (zA Z zL)) Z) lI (fun hs=>wEY az pa cS cj hs gI) (.inr Z) ?_
 rintro cm pC qu eo oD lJ ⟨rfl,rfl⟩
 have lK:SW w [.obj pm2t (.map pe2t pk2t)] U cm [.obj pm2t (.map ae ac),.blk aj 46 B2,.blk b7 137 B1,.blk b3 40 B0] eo:=lJ
 refine oA Z Z (zY (zd ?_))
 cases m8
 exact zI ⟨rfl,⟨cm,ae,ac,av,am,rfl,rfl,aw,ax,aq,(((J.trans aP).trans oC).trans oD),(lK.pick [0,2,3] _ (by decide) rfl),aB⟩⟩
 have bT:=bS;rw [if_neg bF] at bT
 by_cases bG:ab.Kind=4
 have dF:=bT;rw [if_pos bG] at dF
 refine zx zp [2,3,1,3,3,3,3,1,1,2,2,3] (.fl 1 (.fl 2 (wGv gBn))) (by kernel_rfl) ?_
 have bi:=ay.drew
 generalize hw_W338:({ an with drawn:=an.drawn + 1 }:World)=eu at bi ⊢
 refine oR Z (zO Z Z zW Z ZP) (oL Z (bi.ldB (j:=1) Z Z Z ZR (v:=jV ab.Kind) Z) (oM Z aA (oR Z (zO Z am zy Z Zj) (oL Z (bi.ldB (j:=2) Z Z Z yA (v:=.func (.func 91) #[] #[.pointer (some ⟨pb2v,0,none⟩)]) Z) (oL Z (bi.ldBA (j:=1) Z Z Z ZF zi (vs:=B2) Z Z) ?_)))))
 have q:=bnd dF
 obtain ⟨⟨⟩,gJ,dG⟩:=q
 try dsimp only at dG
 refine zG 0 Z Z Z Z (zF Z Z yM zL Z) bi (fun hs=>wBg eu au hs gJ) (.inr Z) ?_
 rintro cn pD qv cU aQ lL ⟨rfl,rfl⟩
 have lM:SW w [.obj pm2t (.map pe2t pk2t)] U cn [.obj pm2t (.map ae ac),.blk aj 46 B2,.blk b7 137 B1,.blk b3 40 B0] cU:=lL
 refine zT rfl rfl rfl rfl (fun _=>(Runs.ixA (i:=4) rfl rfl (congrArg (jV) bG) ZY ZO (by decide) (by decide) (wDl yE ZO rfl))) (zT rfl rfl rfl rfl (fun _=>Runs.fld rfl rfl Ze rfl (wDG yN (v:=.func (.func 214) #[] #[]) rfl)) ?_)
 have gK:=aD.le J
 have gL:=gK.le aQ
 have gM:=aF.le J
 have gN:=gM.le aQ
 have gO:=aC.le J
 have gP:=gO.le aQ
 have gR:=aG.le J
 have gS:=gR.le aQ
 have gT:=aH.le J
 have gU:=gT.le aQ
 have gV:=aI.le J
 have gW:=gV.le aQ
 have gX:=aJ.le J
 have gY:=gX.le aQ
 have gZ:=aK.le J
 have ib:=gZ.le aQ
 refine bnK dG fun pb ic m9=>zG 0 Z Z Z Z (zF Z Z yQ (zA Z zL) Z) lM (fun hs=>wBE ab p2.1 pb2v (.func (.func 85) #[] #[.pointer (some ⟨pb2a,0,none⟩),.pointer (some ⟨pb2b,0,none⟩),.pointer (some ⟨pb2c,0,none⟩),.pointer (some ⟨pb2v,0,none⟩)]) (.func (.func 87) #[] #[.pointer (some ⟨pb2f,0,none⟩)]) (.func (.func 88) #[] #[.pointer (some ⟨pb2v,0,none⟩),.pointer (some ⟨pb2g,0,none⟩)]) pb2f pb2c pq2d pA2d_0_1 pc2d_0_1 pA2d_0_2 pc2d_0_2 pm2d_1 pe2d_1 pk2d_1 pm2d_2 pe2d_2 pk2d_2 pb2v cU cn hs gL gN gP gS gU gW gY ib ic) (.inr Z) ?_
 rintro co pE qw cV oE lN ⟨rfl,rfl⟩
 have lO:SW w [.obj pm2t (.map pe2t pk2t)] U co [.obj pm2t (.map ae ac),.blk aj 46 B2,.blk b7 137 B1,.blk b3 40 B0] cV:=lN
 refine bnK m9 fun qS ie n2=>zG 0 Z Z Z Z (zF Z Z Tryz.call214 (zA Z (zA Z zL)) Z) lO (fun hs=>wDM az pb cV co hs ie) (.inr Z) ?_
 rintro cp pF qx ez oG lP ⟨rfl,rfl⟩
 have lQ:SW w [.obj pm2t (.map pe2t pk2t)] U cp [.obj pm2t (.map ae ac),.blk aj 46 B2,.blk b7 137 B1,.blk b3 40 B0] ez:=lP
 refine oA Z Z (zY (zd ?_))
 cases n2
 exact zI ⟨rfl,⟨cp,ae,ac,av,am,rfl,rfl,aw,ax,aq,(((J.trans aQ).trans oE).trans oG),(lQ.pick [0,2,3] _ (by decide) rfl),aB⟩⟩
 have dI:=bT;rw [if_neg bG] at dI
 cases dI
 intro aL dJ
 refine zT Z Z Z (zU Z Z (congrArg nE (nH.2 aL.out))) (fun _=>zO Z Z zW Z ZP) (zn Z Z Z (zU Z Z (congrArg nE (nH.2 aL.out))) (ay.ldB (j:=1) Z Z Z ZR (v:=jV ab.Kind) Z) Z (zT Z Z Z (zU Z Z (congrArg nE (nH.2 aL.out))) (fun _=>Zr Z Z Z) (oR Z (zX Z (congrArg nE (nH.2 aL.out)) Z) (oA Z Z (eN ?_)))))
 by_cases bH:ab.Kind=0
 have dK:=dJ;rw [if_pos bH] at dK
 refine zx zp [2,3,1,3,3,3,3,1,1,2,2,3] (.fl 1 (.fl 2 (wGv gBn))) (by kernel_rfl) ?_
 have bj:=ay.drew
 generalize hw_W394:({ an with drawn:=an.drawn + 1 }:World)=eA at bj ⊢
 refine oR Z (zO Z Z zW Z ZP) (oL Z (bj.ldB (j:=1) Z Z Z ZR (v:=jV ab.Kind) Z) (oM Z aA (oR Z (zO Z am zy Z Zj) (oL Z (bj.ldB (j:=2) Z Z Z yA (v:=.func (.func 91) #[] #[.pointer (some ⟨pb2v,0,none⟩)]) Z) (oL Z (bj.ldBA (j:=1) Z Z Z ZF zi (vs:=B2) Z Z) ?_)))))
 have q:=bnd dK
 obtain ⟨⟨⟩,ig,dL⟩:=q
 try dsimp only at dL
 refine zG 0 Z Z Z Z (zF Z Z yM zL Z) bj (fun hs=>wBg eA au hs ig) (.inr Z) ?_
 rintro cq pG qy cW aR lS ⟨rfl,rfl⟩
 have lT:SW w [.obj pm2t (.map pe2t pk2t)] U cq [.obj pm2t (.map ae ac),.blk aj 46 B2,.blk b7 137 B1,.blk b3 40 B0] cW:=lS
 refine zT rfl rfl rfl rfl (fun _=>(Runs.ixA (i:=0) rfl rfl (congrArg (jV) bH) ZY ZO (by decide) (by decide) (wDl yE ZO rfl))) (zT rfl rfl rfl rfl (fun _=>Runs.fld rfl rfl Ze rfl (wDG yN (v:=.func (.func 214) #[] #[]) rfl)) ?_)
 have ii:=aD.le J
 have ij:=ii.le aR
 have ik:=aF.le J
 have il:=ik.le aR
 have im:=aC.le J
 have io:=im.le aR
 have ip:=aG.le J
 have iq:=ip.le aR
 have ir:=aH.le J
 have it:=ir.le aR
 have iu:=aI.le J
 have iv:=iu.le aR
 have iw:=aJ.le J
 have iz:=iw.le aR
 have iA:=aK.le J
 have iB:=iA.le aR
 refine bnK dL fun pd iC n3=>zG 0 Z Z Z Z (zF Z Z yQ (zA Z zL) Z) lT (fun hs=>wBE ab p2.1 pb2v (.func (.func 85) #[] #[.pointer (some ⟨pb2a,0,none⟩),.pointer (some ⟨pb2b,0,none⟩),.pointer (some ⟨pb2c,0,none⟩),.pointer (some ⟨pb2v,0,none⟩)]) (.func (.func 87) #[] #[.pointer (some ⟨pb2f,0,none⟩)]) (.func (.func 88) #[] #[.pointer (some ⟨pb2v,0,none⟩),.pointer (some ⟨pb2g,0,none⟩)]) pb2f pb2c pq2d pA2d_0_1 pc2d_0_1 pA2d_0_2 pc2d_0_2 pm2d_1 pe2d_1 pk2d_1 pm2d_2 pe2d_2 pk2d_2 pb2v cW cq hs ij il io iq it iv iz iB iC) (.inr Z) ?_
 rintro cr pH qz cX oH lU ⟨rfl,rfl⟩
 have lV:SW w [.obj pm2t (.map pe2t pk2t)] U cr [.obj pm2t (.map ae ac),.blk aj 46 B2,.blk b7 137 B1,.blk b3 40 B0] cX:=lU
 refine bnK n3 fun qT iD n4=>zG 0 Z Z Z Z (zF Z Z Tryz.call214 (zA Z (zA Z zL)) Z) lV (fun hs=>wDM az pd cX cr hs iD) (.inr Z) ?_
 rintro ct pI qA eB oI lW ⟨rfl,rfl⟩
 have lX:SW w [.obj pm2t (.map pe2t pk2t)] U ct [.obj pm2t (.map ae ac),.blk aj 46 B2,.blk b7 137 B1,.blk b3 40 B0] eB:=lW
 refine oA Z Z (zY (zd ?_))
 cases n4
 exact zI ⟨rfl,⟨ct,ae,ac,av,am,rfl,rfl,aw,ax,aq,(((J.trans aR).trans oH).trans oI),(lX.pick [0,2,3] _ (by decide) rfl),aB⟩⟩
 have bU:=dJ;rw [if_neg bH] at bU
 by_cases bI:ab.Kind=1
 have dM:=bU;rw [if_pos bI] at dM
 refine zx zp [2,3,1,3,3,3,3,1,1,2,2,3] (.fl 1 (.fl 2 (wGv gBn))) (by kernel_rfl) ?_
 have bk:=ay.drew
 generalize hw_W449:({ an with drawn:=an.drawn + 1 }:World)=eC at bk ⊢
 refine oR Z (zO Z Z zW Z ZP) (oL Z (bk.ldB (j:=1) Z Z Z ZR (v:=jV ab.Kind) Z) (oM Z aA (oR Z (zO Z am zy Z Zj) (oL Z (bk.ldB (j:=2) Z Z Z yA (v:=.func (.func 91) #[] #[.pointer (some ⟨pb2v,0,none⟩)]) Z) (oL Z (bk.ldBA (j:=1) Z Z Z ZF zi (vs:=B2) Z Z) ?_)))))
 have q:=bnd dM
 obtain ⟨⟨⟩,iE,dN⟩:=q
 try dsimp only at dN
 refine zG 0 Z Z Z Z (zF Z Z yM zL Z) bk (fun hs=>wBg eC au hs iE) (.inr Z) ?_
 rintro cu pJ qB cY aS lY ⟨rfl,rfl⟩
 have lZ:SW w [.obj pm2t (.map pe2t pk2t)] U cu [.obj pm2t (.map ae ac),.blk aj 46 B2,.blk b7 137 B1,.blk b3 40 B0] cY:=lY
 refine zT rfl rfl rfl rfl (fun _=>(Runs.ixA (i:=1) rfl rfl (congrArg (jV) bI) ZY ZO (by decide) (by decide) (wDl yE ZO rfl))) (zT rfl rfl rfl rfl (fun _=>Runs.fld rfl rfl Ze rfl (wDG yN (v:=.func (.func 215) #[] #[]) rfl)) ?_)
 have iF:=aD.le J
 have iG:=iF.le aS
 have iH:=aF.le J
 have iI:=iH.le aS
 have iJ:=aC.le J
 have iK:=iJ.le aS
 have iL:=aG.le J
 have iM:=iL.le aS
 have iN:=aH.le J
 have iO:=iN.le aS
 have iP:=aI.le J
 have iQ:=iP.le aS
 have iR:=aJ.le J
 have iS:=iR.le aS
 have iT:=aK.le J
 have iU:=iT.le aS
 refine bnK dN fun pe iV n5=>zG 0 Z Z Z Z (zF Z Z yQ (zA Z zL) Z) lZ (fun hs=>wBE ab p2.1 pb2v (.func (.func 85) #[] #[.pointer (some ⟨pb2a,0,none⟩),.pointer (some ⟨pb2b,0,none⟩),.pointer (some ⟨pb2c,0,none⟩),.pointer (some ⟨pb2v,0,none⟩)]) (.func (.func 87) #[] #[.pointer (some ⟨pb2f,0,none⟩)]) (.func (.func 88) #[] #[.pointer (some ⟨pb2v,0,none⟩),.pointer (some ⟨pb2g,0,none⟩)]) pb2f pb2c pq2d pA2d_0_1 pc2d_0_1 pA2d_0_2 pc2d_0_2 pm2d_1 pe2d_1 pk2d_1 pm2d_2 pe2d_2 pk2d_2 pb2v cY cu hs iG iI iK iM iO iQ iS iU iV) (.inr Z) ?_
 rintro cw pK qC cZ oJ l0 ⟨rfl,rfl⟩
 have l4:SW w [.obj pm2t (.map pe2t pk2t)] U cw [.obj pm2t (.map ae ac),.blk aj 46 B2,.blk b7 137 B1,.blk b3 40 B0] cZ:=l0
 refine bnK n5 fun qU iW n7=>zG 0 Z Z Z Z (zF Z Z Tryz.call215 (zA Z (zA Z zL)) Z) l4 (fun hs=>wEW az pe cZ cw hs iW) (.inr Z) ?_
 rintro cx pL qD eD oK l5 ⟨rfl,rfl⟩
 have l6:SW w [.obj pm2t (.map pe2t pk2t)] U cx [.obj pm2t (.map ae ac),.blk aj 46 B2,.blk b7 137 B1,.blk b3 40 B0] eD:=l5
 refine oA Z Z (zY (zd ?_))
 cases n7
 exact zI ⟨rfl,⟨cx,ae,ac,av,am,rfl,rfl,aw,ax,aq,(((J.trans aS).trans oJ).trans oK),(l6.pick [0,2,3] _ (by decide) rfl),aB⟩⟩
 have bV:=bU;rw [if_neg bI] at bV
 by_cases bJ:ab.Kind=2
 have dO:=bV;rw [if_pos bJ] at dO
 refine zx zp [2,3,1,3,3,3,3,1,1,2,2,3] (.fl 1 (.fl 2 (wGv gBn))) (by kernel_rfl) ?_
 have bm:=ay.drew
 generalize hw_W504:({ an with drawn:=an.drawn + 1 }:World)=eE at bm ⊢
 refine oR Z (zO Z Z zW Z ZP) (oL Z (bm.ldB (j:=1) Z Z Z ZR (v:=jV ab.Kind) Z) (oM Z aA (oR Z (zO Z am zy Z Zj) (oL Z (bm.ldB (j:=2) Z Z Z yA (v:=.func (.func 91) #[] #[.pointer (some ⟨pb2v,0,none⟩)]) Z) (oL Z (bm.ldBA (j:=1) Z Z Z ZF zi (vs:=B2) Z Z) ?_)))))
 have q:=bnd dO
 obtain ⟨⟨⟩,iX,dP⟩:=q
 try dsimp only at dP
 refine zG 0 Z Z Z Z (zF Z Z yM zL Z) bm (fun hs=>wBg eE au hs iX) (.inr Z) ?_
 rintro cy pM qE c7 aT l9 ⟨rfl,rfl⟩
 have ma:SW w [.obj pm2t (.map pe2t pk2t)] U cy [.obj pm2t (.map ae ac),.blk aj 46 B2,.blk b7 137 B1,.blk b3 40 B0] c7:=l9
 refine zT rfl rfl rfl rfl (fun _=>(Runs.ixA (i:=2) rfl rfl (congrArg (jV) bJ) ZY ZO (by decide) (by decide) (wDl yE ZO rfl))) (zT rfl rfl rfl rfl (fun _=>Runs.fld rfl rfl Ze rfl (wDG yN (v:=.func (.func 216) #[] #[]) rfl)) ?_)
 have iY:=aD.le J
 have iZ:=iY.le aT
 have i8:=aF.le J
 have i9:=i8.le aT
 have ja:=aC.le J
 have jb:=ja.le aT
 have jc:=aG.le J
 have jd:=jc.le aT
 have je:=aH.le J
 have jf:=je.le aT
 have jg:=aI.le J
 have jh:=jg.le aT
 have ji:=aJ.le J
 have jj:=ji.le aT
 have jk:=aK.le J
 have jl:=jk.le aT
 refine bnK dP fun pf jm n8=>zG 0 Z Z Z Z (zF Z Z yQ (zA Z zL) Z) ma (fun hs=>wBE ab p2.1 pb2v (.func (.func 85) #[] #[.pointer (some ⟨pb2a,0,none⟩),.pointer (some ⟨pb2b,0,none⟩),.pointer (some ⟨pb2c,0,none⟩),.pointer (some ⟨pb2v,0,none⟩)]) (.func (.func 87) #[] #[.pointer (some ⟨pb2f,0,none⟩)]) (.func (.func 88) #[] #[.pointer (some ⟨pb2v,0,none⟩),.pointer (some ⟨pb2g,0,none⟩)]) pb2f pb2c pq2d pA2d_0_1 pc2d_0_1 pA2d_0_2 pc2d_0_2 pm2d_1 pe2d_1 pk2d_1 pm2d_2 pe2d_2 pk2d_2 pb2v c7 cy hs iZ i9 jb jd jf jh jj jl jm) (.inr Z) ?_
 rintro cz pN qF c8 oO mb ⟨rfl,rfl⟩
 have mc:SW w [.obj pm2t (.map pe2t pk2t)] U cz [.obj pm2t (.map ae ac),.blk aj 46 B2,.blk b7 137 B1,.blk b3 40 B0] c8:=mb
 refine bnK n8 fun qV jo n9=>zG 0 Z Z Z Z (zF Z Z Tryz.call216 (zA Z (zA Z zL)) Z) mc (fun hs=>wEX az pf c8 cz hs jo) (.inr Z) ?_
 rintro cA pO qG eF oP md ⟨rfl,rfl⟩
 have me:SW w [.obj pm2t (.map pe2t pk2t)] U cA [.obj pm2t (.map ae ac),.blk aj 46 B2,.blk b7 137 B1,.blk b3 40 B0] eF:=md
 refine oA Z Z (zY (zd ?_))
 cases n9
 exact zI ⟨rfl,⟨cA,ae,ac,av,am,rfl,rfl,aw,ax,aq,(((J.trans aT).trans oO).trans oP),(me.pick [0,2,3] _ (by decide) rfl),aB⟩⟩
 have bW:=bV;rw [if_neg bJ] at bW
 by_cases bK:ab.Kind=3
 have dQ:=bW;rw [if_pos bK] at dQ
 refine zx zp [2,3,1,3,3,3,3,1,1,2,2,3] (.fl 1 (.fl 2 (wGv gBn))) (by kernel_rfl) ?_
 have bn:=ay.drew
 generalize hw_W559:({ an with drawn:=an.drawn + 1 }:World)=eG at bn ⊢
 refine oR Z (zO Z Z zW Z ZP) (oL Z (bn.ldB (j:=1) Z Z Z ZR (v:=jV ab.Kind) Z) (oM Z aA (oR Z (zO Z am zy Z Zj) (oL Z (bn.ldB (j:=2) Z Z Z yA (v:=.func (.func 91) #[] #[.pointer (some ⟨pb2v,0,none⟩)]) Z) (oL Z (bn.ldBA (j:=1) Z Z Z ZF zi (vs:=B2) Z Z) ?_)))))
 have q:=bnd dQ
 obtain ⟨⟨⟩,jp,dR⟩:=q
 try dsimp only at dR
 refine zG 0 Z Z Z Z (zF Z Z yM zL Z) bn (fun hs=>wBg eG au hs jp) (.inr Z) ?_
 rintro cB pP qH dd aU mf ⟨rfl,rfl⟩
 have mg:SW w [.obj pm2t (.map pe2t pk2t)] U cB [.obj pm2t (.map ae ac),.blk aj 46 B2,.blk b7 137 B1,.blk b3 40 B0] dd:=mf
 refine zT rfl rfl rfl rfl (fun _=>(Runs.ixA (i:=3) rfl rfl (congrArg (jV) bK) ZY ZO (by decide) (by decide) (wDl yE ZO rfl))) (zT rfl rfl rfl rfl (fun _=>Runs.fld rfl rfl Ze rfl (wDG yN (v:=.func (.func 217) #[] #[]) rfl)) ?_)
 have jq:=aD.le J
 have jr:=jq.le aU
 have jt:=aF.le J
 have ju:=jt.le aU
 have jv:=aC.le J
 have jw:=jv.le aU
 have jx:=aG.le J
 have jy:=jx.le aU
 have jz:=aH.le J
 have jA:=jz.le aU
 have jB:=aI.le J
 have jD:=jB.le aU
 have jE:=aJ.le J
 have jF:=jE.le aU
 have jG:=aK.le J
 have jH:=jG.le aU
 refine bnK dR fun pg jI oa=>zG 0 Z Z Z Z (zF Z Z yQ (zA Z zL) Z) mg (fun hs=>wBE ab p2.1 pb2v (.func (.func 85) #[] #[.pointer (some ⟨pb2a,0,none⟩),.pointer (some ⟨pb2b,0,none⟩),.pointer (some ⟨pb2c,0,none⟩),.pointer (some ⟨pb2v,0,none⟩)]) (.func (.func 87) #[] #[.pointer (some ⟨pb2f,0,none⟩)]) (.func (.func 88) #[] #[.pointer (some ⟨pb2v,0,none⟩),.pointer (some ⟨pb2g,0,none⟩)]) pb2f pb2c pq2d pA2d_0_1 pc2d_0_1 pA2d_0_2 pc2d_0_2 pm2d_1 pe2d_1 pk2d_1 pm2d_2 pe2d_2 pk2d_2 pb2v dd cB hs jr ju jw jy jA jD jF jH jI) (.inr Z) ?_
 rintro cC pQ qI de oQ mh ⟨rfl,rfl⟩
 have mi:SW w [.obj pm2t (.map pe2t pk2t)] U cC [.obj pm2t (.map ae ac),.blk aj 46 B2,.blk b7 137 B1,.blk b3 40 B0] de:=mh
 refine bnK oa fun qW jJ oc=>zG 0 Z Z Z Z (zF Z Z Tryz.call217 (zA Z (zA Z zL)) Z) mi (fun hs=>wEY az pg de cC hs jJ) (.inr Z) ?_
 rintro cD pR qJ eH oS mj ⟨rfl,rfl⟩
 have mm:SW w [.obj pm2t (.map pe2t pk2t)] U cD [.obj pm2t (.map ae ac),.blk aj 46 B2,.blk b7 137 B1,.blk b3 40 B0] eH:=mj
 refine oA Z Z (zY (zd ?_))
 cases oc
 exact zI ⟨rfl,⟨cD,ae,ac,av,am,rfl,rfl,aw,ax,aq,(((J.trans aU).trans oQ).trans oS),(mm.pick [0,2,3] _ (by decide) rfl),aB⟩⟩
 have bX:=bW;rw [if_neg bK] at bX
 by_cases bL:ab.Kind=4
 have dS:=bX;rw [if_pos bL] at dS
 refine zx zp [2,3,1,3,3,3,3,1,1,2,2,3] (.fl 1 (.fl 2 (wGv gBn))) (by kernel_rfl) ?_
 have bp:=ay.drew
 generalize hw_W614:({ an with drawn:=an.drawn + 1 }:World)=eI at bp ⊢
 refine oR Z (zO Z Z zW Z ZP) (oL Z (bp.ldB (j:=1) Z Z Z ZR (v:=jV ab.Kind) Z) (oM Z aA (oR Z (zO Z am zy Z Zj) (oL Z (bp.ldB (j:=2) Z Z Z yA (v:=.func (.func 91) #[] #[.pointer (some ⟨pb2v,0,none⟩)]) Z) (oL Z (bp.ldBA (j:=1) Z Z Z ZF zi (vs:=B2) Z Z) ?_)))))
 have q:=bnd dS
 obtain ⟨⟨⟩,jK,dT⟩:=q
 try dsimp only at dT
 refine zG 0 Z Z Z Z (zF Z Z yM zL Z) bp (fun hs=>wBg eI au hs jK) (.inr Z) ?_
 rintro cE pS qK dh aV mn ⟨rfl,rfl⟩
 have mo:SW w [.obj pm2t (.map pe2t pk2t)] U cE [.obj pm2t (.map ae ac),.blk aj 46 B2,.blk b7 137 B1,.blk b3 40 B0] dh:=mn
 refine zT rfl rfl rfl rfl (fun _=>(Runs.ixA (i:=4) rfl rfl (congrArg (jV) bL) ZY ZO (by decide) (by decide) (wDl yE ZO rfl))) (zT rfl rfl rfl rfl (fun _=>Runs.fld rfl rfl Ze rfl (wDG yN (v:=.func (.func 214) #[] #[]) rfl)) ?_)
 have jL:=aD.le J
 have jM:=jL.le aV
 have jN:=aF.le J
 have jO:=jN.le aV
 have jP:=aC.le J
 have jQ:=jP.le aV
 have jR:=aG.le J
 have jS:=jR.le aV
 have jT:=aH.le J
 have jU:=jT.le aV
 have jW:=aI.le J
 have jX:=jW.le aV
 have jY:=aJ.le J
 have jZ:=jY.le aV
 have j0:=aK.le J
 have j3:=j0.le aV
 refine bnK dT fun ph j4 od=>zG 0 Z Z Z Z (zF Z Z yQ (zA Z zL) Z) mo (fun hs=>wBE ab p2.1 pb2v (.func (.func 85) #[] #[.pointer (some ⟨pb2a,0,none⟩),.pointer (some ⟨pb2b,0,none⟩),.pointer (some ⟨pb2c,0,none⟩),.pointer (some ⟨pb2v,0,none⟩)]) (.func (.func 87) #[] #[.pointer (some ⟨pb2f,0,none⟩)]) (.func (.func 88) #[] #[.pointer (some ⟨pb2v,0,none⟩),.pointer (some ⟨pb2g,0,none⟩)]) pb2f pb2c pq2d pA2d_0_1 pc2d_0_1 pA2d_0_2 pc2d_0_2 pm2d_1 pe2d_1 pk2d_1 pm2d_2 pe2d_2 pk2d_2 pb2v dh cE hs jM jO jQ jS jU jX jZ j3 j4) (.inr Z) ?_
 rintro cG pT qL di oU mp ⟨rfl,rfl⟩
 have mr:SW w [.obj pm2t (.map pe2t pk2t)] U cG [.obj pm2t (.map ae ac),.blk aj 46 B2,.blk b7 137 B1,.blk b3 40 B0] di:=mp
 refine bnK od fun qX j5 oe=>zG 0 Z Z Z Z (zF Z Z Tryz.call214 (zA Z (zA Z zL)) Z) mr (fun hs=>wDM az ph di cG hs j5) (.inr Z) ?_
 rintro cH pU qM eJ oV ms ⟨rfl,rfl⟩
 have mu:SW w [.obj pm2t (.map pe2t pk2t)] U cH [.obj pm2t (.map ae ac),.blk aj 46 B2,.blk b7 137 B1,.blk b3 40 B0] eJ:=ms
 refine oA Z Z (zY (zd ?_))
 cases oe
 exact zI ⟨rfl,⟨cH,ae,ac,av,am,rfl,rfl,aw,ax,aq,(((J.trans aV).trans oU).trans oV),(mu.pick [0,2,3] _ (by decide) rfl),aB⟩⟩
 have dU:=bX;rw [if_neg bL] at dU
 cases dU
 intro bB og
 refine ze (congrArg nE (nH.2 bB.out)) (zo (zd ?_))
 cases og
 exact zI ⟨rfl,⟨au,ae,ac,av,am,dq,aA,aw,ax,aq,J,(ay.pick [0,2,3] _ (by decide) rfl),aB⟩⟩
 rintro q9 pZ ⟨ec,bw,bN,eO,eP,eQ,eR,eS,eT,eU,oW,mw,j6⟩
 refine rR fL2 Z (oR Z (ZE (zQ Z eU Z) (congrArg (jV) mY.out)) (oM Z Z (zY ?_)))
 cases dV
 exact zI ⟨rfl,⟨ec,bw,bN,rfl,eO,eP,eQ,eR,eS,eT,(ap.trans oW),(mw.pick [1,2,0] _ (by decide) rfl),j6⟩⟩
 rintro rc p5 ⟨cI,ba,a7,eY,p8,p9,eV,eW,qa,eX,qe,dv,dt⟩
 have eM:Hid (¬ ((↑(((↑p0.Record.Decisions.length:Int):Int) - 0).toNat:Int) < (↑p0.Record.Decisions.length:Int))):=zD (wBG)
 refine sR fL1 Z (oR Z (zK Z eY eX) (eN (zH (cF Z eM (zr (zV (zV (zk (zI (zH (sR fL1 Z (oM Z eV (eN (ifc dH ?_ ?_))))))))))))))
 intro bM oi
 refine ZB (congrArg nE bM.out) (sR fL2 Z (oA Z Z (oA Z Z (eN (zR (zc ?_))))))
 cases oi
 exact ⟨rfl,_,(wHg rfl rfl),cI,_,(dv.pick [2] _ (by decide) rfl),ba,a7,rfl,rfl,dt⟩
 intro bM oj
 refine ze (congrArg nE (nH.2 bM.out)) (kN (sR (.fl 0 (.fx 1 (.fx 2 (.fl 3 (.fl 4 .nil)) .stop) .stop)) Z (oM Z eW (ZM (pv:=[(0,jV aZ)]) (zs:=[jV 0]) (cs:=[jV aZ]) Z Z Z Z Z (wAI Z wAd) zN zB Zw Z Z Z Z Z dv ?_))))
 intro bz dn my
 have mz:SW w [.obj pm2t (.map pe2t pk2t)] U cI [.row (some ⟨dn,0,none⟩) 1 3 1 (hD KL.encI [aZ]),.blk b7 137 B1,.blk b3 40 B0,.obj pm2t (.map ba a7)] bz:=my
 have q:=mz.freezeR (k:=0) (n:=[aZ].length) rfl (wAG (f:=KL.encI) (sz:=1) (fun _=>rfl) [aZ]) (by decide)
 obtain ⟨cJ,qf,oo,mA⟩:=q
 have mB:SW w [.obj pm2t (.map pe2t pk2t)] U cJ [.blk b7 137 B1,.blk b3 40 B0,.obj pm2t (.map ba a7)] bz:=mA
 refine bnK oj fun qY j8 om=>zG 0 Z Z Z Z (zF Z Z Tryz.call138 (zA Z (zA Z zL)) Z) mB (fun hs=>wGX 0 [aZ] (some ⟨dn,0,none⟩) 1 bz cJ hs oo j8) (.inr Z) ?_
 rintro cK pV qN eK qg mC ⟨rfl,rfl⟩
 have mD:SW w [.obj pm2t (.map pe2t pk2t)] U cK [.blk b7 137 B1,.blk b3 40 B0,.obj pm2t (.map ba a7)] eK:=mC
 refine oA Z Z (oA Z Z (eN (zR ?_)))
 cases om
 exact ⟨rfl,_,(wHg rfl rfl),cK,_,(mD.pick [2] _ (by decide) rfl),ba,a7,rfl,rfl,dt⟩
end Go.Proofs.YtlmekamhphnmjaaGreat
namespace Go.Proofs.YtlmekamhphnmjaaGreat
open Go.KL
set_option maxHeartbeats 4000000
theorem wBq (p0:List wAA) (ac:Option Addr) (ae:Nat) (p1:Int) (p2:Int) (p3:((wAA × wAA)->Option Int)) (aB:Value) (w:World) (U:PHeap) (hS:St0 w U [.row ac ae 52 3 (hD wAB p0)]) (bA:FnOK Tryz.prog U aB wIZ wIa p3) {r:(List wAA)} (hm:wAc p0 p1 p2 p3=some r):Gv Tryz.prog 218 [.slice ac p0.length ae,jV p1,jV p2,aB] w (wBu w [.row ac ae 52 3 (hD wAB p0)] U (fun U_ L_ v=>v=.tuple #[]/\L_=[.row ac ae 52 3 (hD wAB r)]/\r.length=p0.length)):=by
 unfold wAc at hm
 refine Gv.of Tryz.func218 Z Tryz.ntmps218 Tryz.results218 Z (sR fL3 Z (oM Z Z (oR Z (zQ Z Z Z) (oA Z Z (eN (zP ?_))))))
 let B0:Res:=.row ac ae 52 3 (hD wAB p0)
 refine Zm (fun (l8,x9) σ_ w_=>∃ (U_:PHeap),σ_ 0=.slice ac l8.length ae/\σ_ 1=jV p1/\σ_ 2=jV p2/\σ_ 3=aB/\σ_ 8=jV x9/\PHeap.Le U U_/\SW w [B0] U U_ [.row ac ae 52 3 (hD wAB l8)] w_/\l8.length=p0.length) hm ?_ ?_
 exact ⟨U,Z,Z,Z,Z,Z,(zS _),hS,Z⟩
 rintro ⟨l8,x9⟩ b8 ca bV ⟨aG,bi,bj,aR,bk,aJ,aP,aT,aS⟩ aN bB
 try dsimp only at aN
 refine zH (sR fL3 Z (oM Z aJ (oM Z aR (oR Z (zK Z Z Z) (eN ?_)))))
 by_cases ai:x9 < p2
 have aY:=aN;rw [if_pos ai] at aY;replace ai:=zD ai
 refine cT Z ai (kN (zH (zP (sR fL2 Z (oM Z aJ (oA Z Z (eN (zP (Zm (fun (J,aa) σ_ w_=>∃ (U_:PHeap),σ_ 0=.slice ac J.length ae/\σ_ 1=jV p1/\σ_ 2=jV p2/\σ_ 3=aB/\σ_ 8=jV x9/\σ_ 9=jV aa/\PHeap.Le aG U_/\SW w [B0] U U_ [.row ac ae 52 3 (hD wAB J)] w_/\J.length=p0.length) aY ?_ ?_)))))))))
 exact ⟨aG,bi,bj,aR,bk,aJ,Z,(zS _),aT,aS⟩
 rintro ⟨J,aa⟩ b9 cc aQ ⟨ba,ah,aw,aK,ax,aL,aj,aA,bq,aM⟩ aO aV
 try dsimp only at aO
 refine zH (zH (zx zp [3,3,3,3,3,3,3,3,1,3,3,3,3,1,2,3,3] (wLi (.fx 14 (.fl 15 (.fl 16 .nil)) .stop)) (by kernel_rfl) ?_))
 have an:=bq.drew
 generalize hw_W54:({ aQ with drawn:=aQ.drawn + 1 }:World)=bW at an ⊢
 refine oM Z aj (oM Z aw (oR Z (Zy Z Z Z) (oM Z Z ?_)))
 by_cases ab:p1 < aa
 have aZ:=aO;rw [if_pos ab] at aZ;replace ab:=zD ab
 refine zC Z Z Z (wT Z ab) Z ax (zC Z Z Z (wT Z ab) Z ah (zC Z Z Z (wT Z ab) Z aj (bnK aZ fun _ ag bK=>?_)))
 obtain ⟨bY,af⟩:=an.rowSome (j:=0) rfl (by rw [wAG (f:=wAB) (sz:=3) (fun _=>rfl) J];have hz:=wAK ag;omega)
 refine rU Z (wT Z ab) (zm Z Z af Z za zZ (wAh ag) (wAi ag)) ?_
 have bC:=wAv (xs:=J) (wAK ag)
 let B1:List Value:=[jV ((gd J aa.toNat).Bib),jV ((gd J aa.toNat).Place),jV ((gd J aa.toNat).Total)]
 refine zn rfl rfl rfl (zU rfl rfl (ZJ ab.out)) (an.ldRA (j:=0) rfl af rfl rfl ZZ zZ (vs:=B1) (wAy (sz:=3) (fun _=>rfl) _ _ _ bC (by first | omega | rfl | simp) rfl) rfl) rfl (zC rfl rfl rfl (zU rfl rfl (ZJ ab.out)) rfl ah (zC rfl rfl rfl (zU rfl rfl (ZJ ab.out)) rfl aj (zT rfl rfl rfl (zU rfl rfl (ZJ ab.out)) (fun _=>zg rfl rfl rfl) (bnK bK fun _ am bL=>zT rfl rfl rfl (zU rfl rfl (ZJ ab.out)) (fun _=>zm rfl rfl af rfl za zZ (wAh am) (wAi am)) ?_))))
 have bD:=wAv (xs:=J) (wAK am)
 let B2:List Value:=[jV ((gd J (w64 (aa - 1)).toNat).Bib),jV ((gd J (w64 (aa - 1)).toNat).Place),jV ((gd J (w64 (aa - 1)).toNat).Total)]
 refine zn rfl rfl rfl (zU rfl rfl (ZJ ab.out)) (an.ldRA (j:=0) rfl af rfl rfl ZZ zZ (vs:=B2) (wAy (sz:=3) (fun _=>rfl) _ _ _ bD (by first | omega | rfl | simp) rfl) rfl) rfl (bnK bL fun b4 bm bM=>?_)
 have bn:=bA.le aP
 have bp:=bn.le aA
 refine Zk (a:=((gd J aa.toNat),(gd J (w64 (aa - 1)).toNat))) Z Z Z (wT Z ab) Z Z (zA Z (zA Z zL)) an bp Z bm ?_
 rintro ap bU bZ aH a7 br ⟨rfl,rfl⟩
 have aU:SW w [B0] U ap [.row ac ae 52 3 (hD wAB J)] aH:=br
 refine rU Z (wT Z ab) (zK Z Z Z) (oR Z (zb Z (ZJ ab.out) Z) (eN (ifc bM ?_ ?_)))
 intro aI bN
 refine cT Z aI (kN (zH (zP (zx zp [3,3,3,3,3,3,3,3,3,1,3,3,3,1,3,0,3,0] (wGl gBi) (by kernel_rfl) ?_))))
 have ay:=aU.drew
 generalize hw_W80:({ aH with drawn:=aH.drawn + 1 }:World)=bX at ay ⊢
 refine oM Z ah (oM Z aj (oM Z ah (oM Z aj (oR Z (zg Z Z Z) (oM Z ah (oM Z aj (oR Z (zg Z Z Z) (oR Z (zm Z Z af Z za zZ (wAh am) (wAi am)) ?_))))))))
 have bE:=wAv (xs:=J) (wAK am)
 refine zn rfl rfl rfl rfl (ay.ldRA (j:=0) rfl af rfl rfl ZZ zZ (vs:=B2) (wAy (sz:=3) (fun _=>rfl) _ _ _ bE (by first | omega | rfl | simp) rfl) rfl) rfl (zC rfl rfl rfl rfl rfl ah (zC rfl rfl rfl rfl rfl aj (zT rfl rfl rfl rfl (fun _=>zm rfl rfl af rfl za zZ (wAh ag) (wAi ag)) ?_)))
 have bF:=wAv (xs:=J) (wAK ag)
 refine zn rfl rfl rfl rfl (ay.ldRA (j:=0) rfl af rfl rfl ZZ zZ (vs:=B1) (wAy (sz:=3) (fun _=>rfl) _ _ _ bF (by first | omega | rfl | simp) rfl) rfl) rfl (zT rfl rfl rfl rfl (fun _=>zm rfl rfl af rfl za zZ (wAh ag) (wAi ag)) ?_)
 have bG:=wAv (xs:=J) (wAK ag)
 refine yJ (j:=0) (vs:=B2) (cs':=hD wAB (nA J aa.toNat (gd J (w64 (aa - 1)).toNat))) rfl rfl rfl rfl ay rfl af rfl rfl rfl zZ (by rw [wAG (f:=wAB) (sz:=3) (fun _=>rfl)];have hz:=wAK ag;show _ + 3 <= _;first | omega | (simp only [nI];omega) | (simp only [nG,nB,nD];omega)) rfl (wCN (sz:=3) (fo:=0) (fun _=>rfl) _ _ _ _ bG (by first | omega | (simp only [nI];omega) | (simp only [nG,nB,nD];omega)) (zJ rfl) rfl) rfl ?_
 intro bb bu
 have bw:SW w [B0] U ap [.row ac ae 52 3 (hD wAB (nA J aa.toNat (gd J (w64 (aa - 1)).toNat)))] bb:=bu
 refine bnK bN fun _ aq bO=>zT rfl rfl rfl rfl (fun _=>zm rfl (nJ (b:=(.slice ac J.length ae:Value)) (c:=(.slice ac ((nA J aa.toNat (gd J (w64 (aa - 1)).toNat)).length) ae:Value)) rfl (by simp only [hM])) af rfl za zZ (wAh aq) (wAi aq)) ?_
 have bH:=wAv (xs:=(nA J aa.toNat (gd J (w64 (aa - 1)).toNat))) (by first | exact wAK aq | (have hz:=wAK aq;simpa only [hM] using hz))
 refine yJ (j:=0) (vs:=B1) (cs':=hD wAB (nA (nA J aa.toNat (gd J (w64 (aa - 1)).toNat)) (w64 (aa - 1)).toNat (gd J aa.toNat))) rfl rfl rfl rfl bw rfl af rfl rfl rfl zZ (by rw [wAG (f:=wAB) (sz:=3) (fun _=>rfl)];have hz:=wAK aq;show _ + 3 <= _;first | omega | (simp only [hM];omega) | (simp only [nG,nB,nD,hM];omega) | (simp only [nI];omega) | (simp only [nG,nB,nD];omega)) rfl (wCN (sz:=3) (fo:=0) (fun _=>rfl) _ _ _ _ bH (by first | omega | (simp only [nI];omega) | (simp only [nG,nB,nD];omega)) (zJ rfl) rfl) rfl ?_
 intro bc bx
 have bz:SW w [B0] U ap [.row ac ae 52 3 (hD wAB (nA (nA J aa.toNat (gd J (w64 (aa - 1)).toNat)) (w64 (aa - 1)).toNat (gd J aa.toNat)))] bc:=bx
 refine zY (zd (zI (rR fL3 Z (oM Z aj (oR Z (zg Z Z Z) (oA Z Z (zY ?_)))))))
 have q:=hJ bO
 obtain rfl:=q
 exact zI ⟨rfl,_,rfl,⟨ap,(nJ (b:=(.slice ac ((nA J aa.toNat (gd J (w64 (aa - 1)).toNat)).length) ae:Value)) (c:=(.slice ac ((nA (nA J aa.toNat (gd J (w64 (aa - 1)).toNat)) (w64 (aa - 1)).toNat (gd J aa.toNat)).length) ae:Value)) (nJ (b:=(.slice ac J.length ae:Value)) (c:=(.slice ac ((nA J aa.toNat (gd J (w64 (aa - 1)).toNat)).length) ae:Value)) ah (by simp only [hM])) (by simp only [hM])),aw,aK,ax,aL,rfl,(aA.trans a7),bz,((hM.trans hM).trans aM)⟩⟩
 intro aI bP
 refine cF Z aI (zr (zV ?_))
 have q:=wAe bP
 obtain ⟨bT,bQ,bh⟩:=q
 have q:=aV bT bh
 obtain rfl:=q
 refine zV (zk (zd (zI (rR fL3 Z (oM Z aL (oR Z (zQ Z Z Z) (oA Z Z (zY ?_))))))))
 have q:=hJ bQ
 obtain rfl:=q
 exact zI ⟨Z,_,Z,⟨ap,ah,aw,aK,ax,Z,((aP.trans aA).trans a7),aU,aM⟩⟩
 have aW:=aO;rw [if_neg ab] at aW;replace ab:=zD ab
 refine oF Z ab (oF Z ab (oF Z ab (oF Z ab (oF Z ab (oF Z ab (oF Z ab (oF Z ab (oF Z ab (oF Z ab (Zg Z Z Z (zf Z Z (zt ab.out) Z) (oF Z ab (oR Z (zX Z (zt ab.out) Z) (eN (ze Z (zr (zV ?_))))))))))))))))
 have q:=wAe aW
 obtain ⟨bR,bI,be⟩:=q
 have q:=aV bR be
 obtain rfl:=q
 refine zV (zk (zd (zI (rR fL3 Z (oM Z aL (oR Z (zQ Z Z Z) (oA Z Z (zY ?_))))))))
 have q:=hJ bI
 obtain rfl:=q
 exact zI ⟨Z,_,Z,⟨ba,ah,aw,aK,ax,Z,(aP.trans aA),an,aM⟩⟩
 have aX:=aN;rw [if_neg ai] at aX;replace ai:=zD ai
 refine cF Z ai (zr (zV ?_))
 have q:=wAe aX
 obtain ⟨bS,bJ,bg⟩:=q
 have q:=bB bS bg
 obtain rfl:=q
 refine zV (zk ?_)
 have hE:=hJ bJ;first | subst r | cases hE
 exact ⟨Z,_,(wCM),aG,_,aT,Z,Z,aS⟩
theorem wBb (p0:List wAA) (ae:Option Addr) (af:Nat) (p1:Int) (p2:Int) (p3:Int) (p4:((wAA × wAA)->Option Int)) (aG:Value) (w:World) (U:PHeap) (hS:St0 w U [.row ae af 52 3 (hD wAB p0)]) (bq:FnOK Tryz.prog U aG wIZ wIa p4) {r:(List wAA)} (hm:wAo p0 p1 p2 p3 p4=some r):Gv Tryz.prog 323 [.slice ae p0.length af,jV p1,jV p2,jV p3,aG] w (wBu w [.row ae af 52 3 (hD wAB p0)] U (fun U_ L_ v=>v=.tuple #[]/\L_=[.row ae af 52 3 (hD wAB r)]/\r.length=p0.length)):=by
 unfold wAo at hm
 refine Gv.of Tryz.func323 Z Tryz.ntmps323 Tryz.results323 Z (sR fL1 Z (oA Z Z (eN (zP (bnK hm fun bw aV be=>?_)))))
 have q:=wBY aV
 obtain ⟨ay,aW⟩:=q
 replace ay:=zD ay
 let B0:Res:=.row ae af 52 3 (hD wAB p0)
 refine CK.forN' (fun k8 J σ_ w_=>∃ (U_:PHeap),σ_ 10=jV (↑k8:Int)/\σ_ 0=.slice ae J.length af/\σ_ 1=jV p1/\σ_ 2=jV p2/\σ_ 3=jV p3/\PHeap.Le U U_/\SW w [B0] U U_ [.row ae af 52 3 (hD wAB J)] w_/\J.length=p0.length) aW ?_ ?_ ?_
 exact ⟨U,Z,Z,Z,Z,Z,(zS _),hS,Z⟩
 rintro k8 J bu bx aB ax ⟨au,aj,am,av,aw,aD,bh,aP,aN⟩ bg
 have aC:Hid ((↑k8:Int) < p3):=zD (wBh ax)
 replace ax:=zD ax
 have a8:Hid (w64 ((↑k8:Int) + 1)=(↑(k8 + 1):Int)):=zD (by have h1:=ay.out;have h2:=aC.out;rw [wAf] <;> omega)
 refine zH (sR fL3 rfl (zC rfl rfl rfl rfl rfl aj (zC rfl rfl rfl rfl rfl aD (zT rfl rfl rfl rfl (fun _=>zK rfl rfl rfl) (eN (cT Z aC (kN (zH (zP (zx zp [3,3,3,3,3,3,3,3,3,3,3,3,3,1,3,3,3,3,3,1,3,0,3,0] (wKd (.fx 21 (.fl 22 (.fx 23 .nil .stop)) .stop)) (by kernel_rfl) ?_))))))))))
 have ao:=aP.drew
 generalize hw_W32:({ aB with drawn:=aB.drawn + 1 }:World)=bi at ao ⊢
 refine oM Z am (oM Z av (oM Z aj (oR Z (zQ Z Z Z) (oM Z am (oM Z aw (oM Z aj (oR Z (zQ Z Z Z) (oM Z am (oM Z aw (oM Z aj (oR Z (zQ Z Z Z) (bnK bg fun _ ap ba=>?_))))))))))))
 obtain ⟨bk,ag⟩:=ao.rowSome (j:=0) rfl (by rw [wAG (f:=wAB) (sz:=3) (fun _=>rfl) J];have hz:=wAK ap;omega)
 refine oR Z (zm Z Z ag Z za zZ (wAh ap) (wAi ap)) ?_
 have aX:=wAv (xs:=J) (wAK ap)
 let B1:List Value:=[jV ((gd J (w64 (p2 + (↑k8:Int))).toNat).Bib),jV ((gd J (w64 (p2 + (↑k8:Int))).toNat).Place),jV ((gd J (w64 (p2 + (↑k8:Int))).toNat).Total)]
 refine zn rfl rfl rfl rfl (ao.ldRA (j:=0) rfl ag rfl rfl ZZ zZ (vs:=B1) (wAy (sz:=3) (fun _=>rfl) _ _ _ aX (by first | omega | rfl | simp) rfl) rfl) rfl (zC rfl rfl rfl rfl rfl am (zC rfl rfl rfl rfl rfl av (zC rfl rfl rfl rfl rfl aj (zT rfl rfl rfl rfl (fun _=>zQ rfl rfl rfl) (bnK ba fun _ ah bb=>zT rfl rfl rfl rfl (fun _=>zm rfl rfl ag rfl za zZ (wAh ah) (wAi ah)) ?_)))))
 have aY:=wAv (xs:=J) (wAK ah)
 let B2:List Value:=[jV ((gd J (w64 (p1 + (↑k8:Int))).toNat).Bib),jV ((gd J (w64 (p1 + (↑k8:Int))).toNat).Place),jV ((gd J (w64 (p1 + (↑k8:Int))).toNat).Total)]
 refine zn rfl rfl rfl rfl (ao.ldRA (j:=0) rfl ag rfl rfl ZZ zZ (vs:=B2) (wAy (sz:=3) (fun _=>rfl) _ _ _ aY (by first | omega | rfl | simp) rfl) rfl) rfl (zT rfl rfl rfl rfl (fun _=>zm rfl rfl ag rfl za zZ (wAh ah) (wAi ah)) ?_)
 have aZ:=wAv (xs:=J) (wAK ah)
 refine yJ (j:=0) (vs:=B1) (cs':=hD wAB (nA J (w64 (p1 + (↑k8:Int))).toNat (gd J (w64 (p2 + (↑k8:Int))).toNat))) rfl rfl rfl rfl ao rfl ag rfl rfl rfl zZ (by rw [wAG (f:=wAB) (sz:=3) (fun _=>rfl)];have hz:=wAK ah;show _ + 3 <= _;first | omega | (simp only [nI];omega) | (simp only [nG,nB,nD];omega)) rfl (wCN (sz:=3) (fo:=0) (fun _=>rfl) _ _ _ _ aZ (by first | omega | (simp only [nI];omega) | (simp only [nG,nB,nD];omega)) (zJ rfl) rfl) rfl ?_
 intro aI aQ
 have aR:SW w [B0] U au [.row ae af 52 3 (hD wAB (nA J (w64 (p1 + (↑k8:Int))).toNat (gd J (w64 (p2 + (↑k8:Int))).toNat)))] aI:=aQ
 refine bnK bb fun _ an bc=>zT rfl rfl rfl rfl (fun _=>zm rfl (nJ (b:=(.slice ae J.length af:Value)) (c:=(.slice ae ((nA J (w64 (p1 + (↑k8:Int))).toNat (gd J (w64 (p2 + (↑k8:Int))).toNat)).length) af:Value)) rfl (by simp only [hM])) ag rfl za zZ (wAh an) (wAi an)) ?_
 have a7:=wAv (xs:=(nA J (w64 (p1 + (↑k8:Int))).toNat (gd J (w64 (p2 + (↑k8:Int))).toNat))) (by first | exact wAK an | (have hz:=wAK an;simpa only [hM] using hz))
 refine yJ (j:=0) (vs:=B2) (cs':=hD wAB (nA (nA J (w64 (p1 + (↑k8:Int))).toNat (gd J (w64 (p2 + (↑k8:Int))).toNat)) (w64 (p2 + (↑k8:Int))).toNat (gd J (w64 (p1 + (↑k8:Int))).toNat))) rfl rfl rfl rfl aR rfl ag rfl rfl rfl zZ (by rw [wAG (f:=wAB) (sz:=3) (fun _=>rfl)];have hz:=wAK an;show _ + 3 <= _;first | omega | (simp only [hM];omega) | (simp only [nG,nB,nD,hM];omega) | (simp only [nI];omega) | (simp only [nG,nB,nD];omega)) rfl (wCN (sz:=3) (fo:=0) (fun _=>rfl) _ _ _ _ a7 (by first | omega | (simp only [nI];omega) | (simp only [nG,nB,nD];omega)) (zJ rfl) rfl) rfl ?_
 intro aJ aS
 have aT:SW w [B0] U au [.row ae af 52 3 (hD wAB (nA (nA J (w64 (p1 + (↑k8:Int))).toNat (gd J (w64 (p2 + (↑k8:Int))).toNat)) (w64 (p2 + (↑k8:Int))).toNat (gd J (w64 (p1 + (↑k8:Int))).toNat)))] aJ:=aS
 refine zY (zd (zI (rR fL3 Z (oM Z aj (oR Z (ZE (zQ Z Z Z) (congrArg (jV) a8.out)) (oA Z Z (zY ?_)))))))
 cases bc
 exact zI ⟨rfl,⟨au,rfl,(nJ (b:=(.slice ae ((nA J (w64 (p1 + (↑k8:Int))).toNat (gd J (w64 (p2 + (↑k8:Int))).toNat)).length) af:Value)) (c:=(.slice ae ((nA (nA J (w64 (p1 + (↑k8:Int))).toNat (gd J (w64 (p2 + (↑k8:Int))).toNat)) (w64 (p2 + (↑k8:Int))).toNat (gd J (w64 (p1 + (↑k8:Int))).toNat)).length) af:Value)) (nJ (b:=(.slice ae J.length af:Value)) (c:=(.slice ae ((nA J (w64 (p1 + (↑k8:Int))).toNat (gd J (w64 (p2 + (↑k8:Int))).toNat)).length) af:Value)) am (by simp only [hM])) (by simp only [hM])),av,aw,aD,bh,aT,((hM.trans hM).trans aN)⟩⟩
 rintro bz bj ⟨aH,aM,bm,bn,bp,aL,br,aU,aO⟩
 have aK:Hid (¬ ((↑((p3:Int) - 0).toNat:Int) < p3)):=zD (wBG)
 refine zH (sR fL3 Z (oM Z aM (oM Z aL (oR Z (zK Z Z Z) (eN (cF Z aK (zr (zV (zV (zk ?_))))))))))
 have hE:=hJ be;first | subst r | cases hE
 exact ⟨Z,_,(wCM),aH,_,aU,Z,Z,aO⟩
theorem wCQ (p0:List wAA) (J:Option Addr) (aa:Nat) (p1:Int) (p2:Int) (p3:Int) (p4:((wAA × wAA)->Option Int)) (aj:Value) (w:World) (U:PHeap) (hS:St0 w U [.row J aa 52 3 (hD wAB p0)]) (aA:FnOK Tryz.prog U aj wIZ wIa p4) {r:(List wAA)} (hm:wBQ p0 p1 p2 p3 p4=some r):Gv Tryz.prog 268 [.slice J p0.length aa,jV p1,jV p2,jV p3,aj] w (wBu w [.row J aa 52 3 (hD wAB p0)] U (fun U_ L_ v=>v=.tuple #[]/\L_=[.row J aa 52 3 (hD wAB r)]/\r.length=p0.length)):=by
 unfold wBQ at hm
 refine Gv.of Tryz.func268 Z Tryz.ntmps268 Tryz.results268 Z (sR fL4 Z (oM Z Z (oM Z Z (oR Z (zg Z Z Z) (oA Z Z (eN (sR fL4 Z (oM Z Z (oM Z Z (oR Z (zg Z Z Z) (oA Z Z (eN ?_))))))))))))
 have q:=bnd hm
 obtain ⟨⟨l2,x3⟩,bD,aO⟩:=q
 try dsimp only at aO
 let B0:Res:=.row J aa 52 3 (hD wAB p0)
 refine yH (fun σ_ w_=>∃ (U_:PHeap),σ_ 0=.slice J l2.length aa/\σ_ 2=jV p2/\σ_ 4=aj/\σ_ 10=jV x3/\PHeap.Le U U_/\SW w [B0] U U_ [.row J aa 52 3 (hD wAB l2)] w_/\l2.length=p0.length) ?_ ?_
 refine zP (Zm (fun (af,ak,au) σ_ w_=>∃ (U_:PHeap),σ_ 0=.slice J af.length aa/\σ_ 2=jV p2/\σ_ 4=aj/\σ_ 10=jV ak/\σ_ 11=jV au/\PHeap.Le U U_/\SW w [B0] U U_ [.row J aa 52 3 (hD wAB af)] w_/\af.length=p0.length) bD ?_ ?_)
 exact ⟨U,Z,Z,Z,Z,Z,(zS _),hS,Z⟩
 rintro ⟨af,ak,au⟩ bQ bR aH ⟨aw,an,ah,ao,ab,ai,ap,az,ay⟩ aB bu
 try dsimp only at aB
 refine zH (sR fL3 Z (oM Z ab (oM Z ai (oR Z (Zf Z Z Z) (eN ?_)))))
 by_cases ae:ak=au
 have aM:=aB;rw [if_pos ae] at aM;replace ae:=zD ae
 refine ze (zt (fun h=>h ae.out)) (zr (zV ?_))
 have q:=wAe aM
 obtain ⟨bH,bw,aY⟩:=q
 have q:=bu bH aY
 obtain rfl:=q
 refine zV (zk ?_)
 cases bw
 exact zI ⟨Z,⟨aw,an,ah,ao,ab,ap,az,ay⟩⟩
 have aN:=aB;rw [if_neg ae] at aN;replace ae:=zD ae
 refine cT Z ae (kN (zP (sR fL3 Z (oM Z ab (oM Z ai (oR Z (Zy Z Z Z) (eN (ifc aN ?_ ?_))))))))
 intro ax bx
 refine cT Z ax (sR (wHc (.fx 7 .nil .stop)) Z (oM Z an (oM Z ah (oM Z ab (oR Z (zg Z Z Z) (oM Z ah (oM Z ai (oM Z ao ?_))))))))
 have a8:=aA.le ap
 refine bnK bx fun aR ba bz=>zG 1 Z Z Z Z (zF Z Z Tryz.call323 (zA Z (zA Z (zA Z (zA Z (zA Z zL))))) Z) az (fun hs=>wBb af J aa (w64 (p2 - ak)) p2 au p4 aj aH aw hs a8 ba) (.inl Z) ?_
 rintro aD bJ bN aU bE bj ⟨rfl,rfl,aK⟩
 have bk:SW w [B0] U aD [.row J aa 52 3 (hD wAB aR)] aU:=bj
 refine eN (rR fL4 Z (oM Z ab (oM Z ai (oR Z (zg Z Z Z) (oA Z Z (zY (zd ?_)))))))
 have q:=hJ bz
 obtain rfl:=q
 exact zI ⟨rfl,_,rfl,⟨aD,(nJ (b:=(.slice J af.length aa:Value)) (c:=(.slice J aR.length aa:Value)) an (by rw [aK])),ah,ao,rfl,ai,(ap.trans bE),bk,(aK.trans ay)⟩⟩
 intro ax bA
 refine cF Z ax (sR (wGk (.fx 11 .nil .stop)) Z (oM Z an (oM Z ah (oM Z ab (oR Z (zg Z Z Z) (oM Z ah (oM Z ai (oR Z (zQ Z Z Z) (oM Z ab (oR Z (zg Z Z Z) (oM Z ab (oM Z ao ?_))))))))))))
 have bb:=aA.le ap
 refine bnK bA fun aS bc bB=>zG 1 Z Z Z Z (zF Z Z Tryz.call323 (zA Z (zA Z (zA Z (zA Z (zA Z zL))))) Z) az (fun hs=>wBb af J aa (w64 (p2 - ak)) (w64 ((w64 (p2 + au)) - ak)) ak p4 aj aH aw hs bb bc) (.inl Z) ?_
 rintro aF bK bO aV bF bm ⟨rfl,rfl,aL⟩
 have bn:SW w [B0] U aF [.row J aa 52 3 (hD wAB aS)] aV:=bm
 refine eN (rR fL4 Z (oM Z ai (oM Z ab (oR Z (zg Z Z Z) (oA Z Z (zY (zd ?_)))))))
 have q:=hJ bB
 obtain rfl:=q
 exact zI ⟨rfl,_,rfl,⟨aF,(nJ (b:=(.slice J af.length aa:Value)) (c:=(.slice J aS.length aa:Value)) an (by rw [aL])),ah,ao,ab,rfl,(ap.trans bF),bn,(aL.trans ay)⟩⟩
 rintro bS aW ⟨aT,aZ,aI,a7,aJ,bG,bp,be⟩
 refine rR (wHc (.fx 7 .nil .stop)) Z (oM Z aZ (oM Z aI (oM Z aJ (oR Z (zg Z Z Z) (oM Z aI (oM Z aJ (oM Z a7 ?_)))))))
 have bg:=aA.le bG
 refine bnK aO fun bI bh bC=>zG 1 Z Z Z Z (zF Z Z Tryz.call323 (zA Z (zA Z (zA Z (zA Z (zA Z zL))))) Z) bp (fun hs=>wBb l2 J aa (w64 (p2 - x3)) p2 x3 p4 aj aW aT hs bg bh) (.inl Z) ?_
 rintro aG bL bP aX bM bq ⟨rfl,rfl,bi⟩
 have br:SW w [B0] U aG [.row J aa 52 3 (hD wAB bI)] aX:=bq
 refine zY ?_
 have hE:=hJ bC;first | subst r | cases hE
 exact ⟨Z,_,(wCM),aG,_,br,Z,Z,(bi.trans be)⟩
theorem wCD (n_:Nat):∀ (p0:List wAA) (J:Option Addr) (aa:Nat) (p1:Int) (p2:Int) (p3:Int) (p4:((wAA × wAA)->Option Int)) (ak:Value) (w:World) (U:PHeap) (hS:St0 w U [.row J aa 52 3 (hD wAB p0)]) (aC:FnOK Tryz.prog U ak wIZ wIa p4) {r:(List wAA)} (hm:wAq n_ p0 p1 p2 p3 p4=some r),Gv Tryz.prog 219 [.slice J p0.length aa,jV p1,jV p2,jV p3,ak] w (wBu w [.row J aa 52 3 (hD wAB p0)] U (fun U_ L_ v=>v=.tuple #[]/\L_=[.row J aa 52 3 (hD wAB r)]/\r.length=p0.length)):=by
 induction n_ with
 | zero =>
  intros
  rename_i hm
  have l0:(none:Option ((List wAA)))=some _:=hm
  cases l0
 | succ n_ ih =>
  intro p0 J aa p1 p2 p3 p4 ak w U hS aC r hm
  have hm:wBX (wAq n_) p0 p1 p2 p3 p4=some r:=hm
  unfold wBX at hm
  refine Gv.of Tryz.func219 Z Tryz.ntmps219 Tryz.results219 Z (zH (sR fL4 Z (oM Z Z (oM Z Z (oR Z (zg Z Z Z) (oR Z (Zr Z Z Z) (eN ?_)))))))
  by_cases c2:(w64 (p2 - p1))=1
  ·have gm:=hm;rw [if_pos c2] at gm;replace c2:=zD c2
   refine cT Z c2 (sR fL2 Z (oM Z Z (oA Z Z (eN (sR fL2 Z (oM Z Z (oA Z Z (eN (bnK gm fun x4 pH o8=>?_)))))))))
   let B0:Res:=.row J aa 52 3 (hD wAB p0)
   refine yH (fun σ_ w_=>∃ (U_:PHeap),σ_ 0=.slice J p0.length aa/\σ_ 1=jV p1/\σ_ 10=jV x4/\PHeap.Le U U_/\SW w [B0] U U_ [B0] w_) ?_ ?_
   ·refine zP (Zm (fun (bL,bM) σ_ w_=>∃ (U_:PHeap),σ_ 0=.slice J p0.length aa/\σ_ 1=jV p1/\σ_ 4=ak/\σ_ 10=jV bL/\σ_ 11=jV bM/\PHeap.Le U U_/\SW w [B0] U U_ [B0] w_) pH ?_ ?_)
    ·exact ⟨U,Z,Z,Z,Z,Z,(zS _),hS⟩
    ·rintro ⟨bL,bM⟩ rC rI fk ⟨gK,bR,cr,dX,cw,d7,cY,f4⟩ eD lF
     try dsimp only at eD
     refine zH (sR fL3 Z (oM Z cw (oM Z d7 (oR Z (zK Z Z Z) (eN ?_)))))
     by_cases bu:bL < bM
     ·have gr:=eD;rw [if_pos bu] at gr;replace bu:=zD bu
      refine cT Z bu (kN (zP (sR fL7 rfl (zC rfl rfl rfl rfl rfl cw (zC rfl rfl rfl rfl rfl d7 (zT rfl rfl rfl rfl (fun _=>zQ rfl rfl rfl) (zT rfl rfl rfl rfl (fun _=>yb rfl rfl zu zz rfl rfl) (zT rfl rfl rfl rfl (fun _=>yc rfl rfl rfl) (zT rfl rfl rfl rfl (fun _=>yU rfl rfl zz zu rfl rfl) (Zz rfl rfl rfl rfl rfl rfl (eN (zH (zx zp [3,3,3,3,1,3,3,3,1,2,3] (wKc (.fx 9 (.fl 10 .nil) .stop)) (by kernel_rfl) ?_)))))))))))))
      have b4:=f4.drew
      generalize hw_W34:({ fk with drawn:=fk.drawn + 1 }:World)=qC at b4 ⊢
      refine oM Z dX (oM Z bR (oM Z Z (bnK gr fun _ cK mE=>?_)))
      obtain ⟨qL,cV⟩:=b4.rowSome (j:=0) rfl (by rw [wAG (f:=wAB) (sz:=3) (fun _=>rfl) p0];have hz:=wAK cK;omega)
      refine oR Z (zm Z Z cV Z za zZ (wAh cK) (wAi cK)) ?_
      have lW:=wAv (xs:=p0) (wAK cK)
      refine zn rfl rfl rfl rfl (b4.ldRA (j:=0) rfl cV rfl rfl ZZ zZ (vs:=[jV ((gd p0 (w64 ((wAP (w64 (bL + bM))) / 2)).toNat).Bib),jV ((gd p0 (w64 ((wAP (w64 (bL + bM))) / 2)).toNat).Place),jV ((gd p0 (w64 ((wAP (w64 (bL + bM))) / 2)).toNat).Total)]) (wAy (sz:=3) (fun _=>rfl) _ _ _ lW (by first | omega | rfl | simp) rfl) rfl) rfl (zC rfl rfl rfl rfl rfl bR (zC rfl rfl rfl rfl rfl cr (bnK mE fun _ en mQ=>zT rfl rfl rfl rfl (fun _=>zm rfl rfl cV rfl za zZ (wAh en) (wAi en)) ?_)))
      have lX:=wAv (xs:=p0) (wAK en)
      refine zn rfl rfl rfl rfl (b4.ldRA (j:=0) rfl cV rfl rfl ZZ zZ (vs:=[jV ((gd p0 p1.toNat).Bib),jV ((gd p0 p1.toNat).Place),jV ((gd p0 p1.toNat).Total)]) (wAy (sz:=3) (fun _=>rfl) _ _ _ lX (by first | omega | rfl | simp) rfl) rfl) rfl (bnK mQ fun rz iY m5=>?_)
      have jk:=aC.le cY
      refine Zk (a:=((gd p0 (w64 ((wAP (w64 (bL + bM))) / 2)).toNat),(gd p0 p1.toNat))) Z Z Z Z Z Z (zA Z (zA Z zL)) b4 jk Z iY ?_
      rintro dn qk rg gZ gH lc ⟨rfl,rfl⟩
      have f9:SW w [B0] U dn [B0] gZ:=lc
      refine oR Z (zK Z Z Z) (eN (ifc m5 ?_ ?_))
      ·intro dF om
       refine cT Z dF (rR fL3 Z (oM Z Z (oR Z (zQ Z Z Z) (oA Z Z (zY (zd ?_))))))
       have q:=hJ om
       obtain rfl:=q
       exact zI ⟨Z,_,Z,⟨dn,bR,cr,dX,Z,d7,(cY.trans gH),f9⟩⟩
      ·intro dF ox
       refine cF Z dF (rR fL2 Z (oM Z Z (oA Z Z (zY (zd ?_)))))
       have q:=hJ ox
       obtain rfl:=q
       exact zI ⟨Z,_,Z,⟨dn,bR,cr,dX,cw,Z,(cY.trans gH),f9⟩⟩
     ·have gB:=eD;rw [if_neg bu] at gB;replace bu:=zD bu
      refine cF Z bu (zr (zV ?_))
      have q:=wAe gB
      obtain ⟨pT,oD,iv⟩:=q
      have q:=lF pT iv
      obtain rfl:=q
      refine zV (zk ?_)
      cases oD
      exact zI ⟨Z,⟨gK,bR,cr,cw,cY,f4⟩⟩
   ·rintro rS qF ⟨fc,iF,iG,iH,qW,lq⟩
    refine zH (sR fL2 Z (oM Z iG (oA Z Z (eN (zP (Zm (fun (ah,aj) σ_ w_=>∃ (U_:PHeap),σ_ 0=.slice J ah.length aa/\σ_ 10=jV x4/\σ_ 13=jV aj/\PHeap.Le fc U_/\SW w [B0] U U_ [.row J aa 52 3 (hD wAB ah)] w_/\ah.length=p0.length) o8 ?_ ?_))))))
    ·exact ⟨fc,iF,iH,Z,(zS _),lq,Z⟩
    ·rintro ⟨ah,aj⟩ rG rT fA ⟨ci,bU,fP,bO,pN,ge,fV⟩ eH lJ
     try dsimp only at eH
     refine zH (sR fL4 Z (oM Z bO (oM Z fP (oR Z (zg Z Z Z) (oR Z (zK Z Z Z) (eN ?_))))))
     by_cases bx:aj < (w64 (x4 - 1))
     ·have gC:=eH;rw [if_pos bx] at gC;replace bx:=zD bx
      refine cT Z bx (kN (zH (zP (zx zp [3,3,3,3,3,3,3,3,3,1,3,3,3,1,3,0,3,0] (wGl gBi) (by kernel_rfl) ?_))))
      have b9:=ge.drew
      generalize hw_W99:({ fA with drawn:=fA.drawn + 1 }:World)=qG at b9 ⊢
      refine oM Z bU (oM Z bO (oM Z bU (oM Z bO (oR Z (zQ Z Z Z) (oM Z bU (oM Z bO (oR Z (zQ Z Z Z) (bnK gC fun _ cG l4=>?_))))))))
      obtain ⟨qH,bz⟩:=b9.rowSome (j:=0) rfl (by rw [wAG (f:=wAB) (sz:=3) (fun _=>rfl) ah];have hz:=wAK cG;omega)
      refine oR Z (zm Z Z bz Z za zZ (wAh cG) (wAi cG)) ?_
      have lK:=wAv (xs:=ah) (wAK cG)
      let B1:List Value:=[jV ((gd ah (w64 (aj + 1)).toNat).Bib),jV ((gd ah (w64 (aj + 1)).toNat).Place),jV ((gd ah (w64 (aj + 1)).toNat).Total)]
      refine zn rfl rfl rfl rfl (b9.ldRA (j:=0) rfl bz rfl rfl ZZ zZ (vs:=B1) (wAy (sz:=3) (fun _=>rfl) _ _ _ lK (by first | omega | rfl | simp) rfl) rfl) rfl (zC rfl rfl rfl rfl rfl bU (zC rfl rfl rfl rfl rfl bO (bnK l4 fun _ bF l5=>zT rfl rfl rfl rfl (fun _=>zm rfl rfl bz rfl za zZ (wAh bF) (wAi bF)) ?_)))
      have lL:=wAv (xs:=ah) (wAK bF)
      let B2:List Value:=[jV ((gd ah aj.toNat).Bib),jV ((gd ah aj.toNat).Place),jV ((gd ah aj.toNat).Total)]
      refine zn rfl rfl rfl rfl (b9.ldRA (j:=0) rfl bz rfl rfl ZZ zZ (vs:=B2) (wAy (sz:=3) (fun _=>rfl) _ _ _ lL (by first | omega | rfl | simp) rfl) rfl) rfl (zT rfl rfl rfl rfl (fun _=>zm rfl rfl bz rfl za zZ (wAh bF) (wAi bF)) ?_)
      have lM:=wAv (xs:=ah) (wAK bF)
      refine yJ (j:=0) (vs:=B1) (cs':=hD wAB (nA ah aj.toNat (gd ah (w64 (aj + 1)).toNat))) rfl rfl rfl rfl b9 rfl bz rfl rfl rfl zZ (by rw [wAG (f:=wAB) (sz:=3) (fun _=>rfl)];have hz:=wAK bF;show _ + 3 <= _;first | omega | (simp only [nI];omega) | (simp only [nG,nB,nD];omega)) rfl (wCN (sz:=3) (fo:=0) (fun _=>rfl) _ _ _ _ lM (by first | omega | (simp only [nI];omega) | (simp only [nG,nB,nD];omega)) (zJ rfl) rfl) rfl ?_
      intro gN jO
      have jP:SW w [B0] U ci [.row J aa 52 3 (hD wAB (nA ah aj.toNat (gd ah (w64 (aj + 1)).toNat)))] gN:=jO
      refine bnK l5 fun _ bV l6=>zT rfl rfl rfl rfl (fun _=>zm rfl (nJ (b:=(.slice J ah.length aa:Value)) (c:=(.slice J ((nA ah aj.toNat (gd ah (w64 (aj + 1)).toNat)).length) aa:Value)) rfl (by simp only [hM])) bz rfl za zZ (wAh bV) (wAi bV)) ?_
      have lN:=wAv (xs:=(nA ah aj.toNat (gd ah (w64 (aj + 1)).toNat))) (by first | exact wAK bV | (have hz:=wAK bV;simpa only [hM] using hz))
      refine yJ (j:=0) (vs:=B2) (cs':=hD wAB (nA (nA ah aj.toNat (gd ah (w64 (aj + 1)).toNat)) (w64 (aj + 1)).toNat (gd ah aj.toNat))) rfl rfl rfl rfl jP rfl bz rfl rfl rfl zZ (by rw [wAG (f:=wAB) (sz:=3) (fun _=>rfl)];have hz:=wAK bV;show _ + 3 <= _;first | omega | (simp only [hM];omega) | (simp only [nG,nB,nD,hM];omega) | (simp only [nI];omega) | (simp only [nG,nB,nD];omega)) rfl (wCN (sz:=3) (fo:=0) (fun _=>rfl) _ _ _ _ lN (by first | omega | (simp only [nI];omega) | (simp only [nG,nB,nD];omega)) (zJ rfl) rfl) rfl ?_
      intro gO jQ
      have jR:SW w [B0] U ci [.row J aa 52 3 (hD wAB (nA (nA ah aj.toNat (gd ah (w64 (aj + 1)).toNat)) (w64 (aj + 1)).toNat (gd ah aj.toNat)))] gO:=jQ
      refine zY (zd (zI (rR fL3 Z (oM Z bO (oR Z (zQ Z Z Z) (oA Z Z (zY ?_)))))))
      have q:=hJ l6
      obtain rfl:=q
      exact zI ⟨rfl,_,rfl,⟨ci,(nJ (b:=(.slice J ((nA ah aj.toNat (gd ah (w64 (aj + 1)).toNat)).length) aa:Value)) (c:=(.slice J ((nA (nA ah aj.toNat (gd ah (w64 (aj + 1)).toNat)) (w64 (aj + 1)).toNat (gd ah aj.toNat)).length) aa:Value)) (nJ (b:=(.slice J ah.length aa:Value)) (c:=(.slice J ((nA ah aj.toNat (gd ah (w64 (aj + 1)).toNat)).length) aa:Value)) bU (by simp only [hM])) (by simp only [hM])),fP,rfl,pN,jR,((hM.trans hM).trans fV)⟩⟩
     ·have gf:=eH;rw [if_neg bx] at gf;replace bx:=zD bx
      refine cF Z bx (zr (zV ?_))
      have q:=wAe gf
      obtain ⟨pO,l9,ip⟩:=q
      have q:=lJ pO ip
      obtain rfl:=q
      refine zV (zk (zI (zR (zc ?_))))
      have hE:=hJ l9;first | subst r | cases hE
      exact ⟨Z,_,(wCM),ci,_,ge,Z,Z,fV⟩
  ·have gg:=hm;rw [if_neg c2] at gg;replace c2:=zD c2
   refine cF Z c2 (kN (zH (sR fL4 Z (oM Z Z (oM Z Z (oR Z (zg Z Z Z) (oR Z (Zr Z Z Z) (eN (ifc gg ?_ ?_)))))))))
   ·intro dr ma
    refine cT Z dr (sR fL2 Z (oM Z Z (oA Z Z (eN (sR fL2 Z (oM Z Z (oA Z Z (eN (bnK ma fun eK pE mb=>?_)))))))))
    let B3:Res:=.row J aa 52 3 (hD wAB p0)
    refine yH (fun σ_ w_=>∃ (U_:PHeap),σ_ 0=.slice J p0.length aa/\σ_ 2=jV p2/\σ_ 14=jV eK/\PHeap.Le U U_/\SW w [B3] U U_ [B3] w_) ?_ ?_
    ·refine zP (Zm (fun (bJ,bK) σ_ w_=>∃ (U_:PHeap),σ_ 0=.slice J p0.length aa/\σ_ 2=jV p2/\σ_ 4=ak/\σ_ 14=jV bJ/\σ_ 15=jV bK/\PHeap.Le U U_/\SW w [B3] U U_ [B3] w_) pE ?_ ?_)
     ·exact ⟨U,Z,Z,Z,Z,Z,(zS _),hS⟩
     ·rintro ⟨bJ,bK⟩ rB rH fj ⟨gJ,bP,cp,dQ,cq,dR,cX,fW⟩ eC lE
      try dsimp only at eC
      refine zH (sR fL3 Z (oM Z cq (oM Z dR (oR Z (zK Z Z Z) (eN ?_)))))
      by_cases bn:bJ < bK
      ·have gh:=eC;rw [if_pos bn] at gh;replace bn:=zD bn
       refine cT Z bn (kN (zP (sR fL7 rfl (zC rfl rfl rfl rfl rfl cq (zC rfl rfl rfl rfl rfl dR (zT rfl rfl rfl rfl (fun _=>zQ rfl rfl rfl) (zT rfl rfl rfl rfl (fun _=>yb rfl rfl zu zz rfl rfl) (zT rfl rfl rfl rfl (fun _=>yc rfl rfl rfl) (zT rfl rfl rfl rfl (fun _=>yU rfl rfl zz zu rfl rfl) (Zz rfl rfl rfl rfl rfl rfl (eN (zH (zx zp [3,3,3,3,1,3,3,3,1,2,3,3] (wKc (.fx 9 (.fl 10 (.fl 11 .nil)) .stop)) (by kernel_rfl) ?_)))))))))))))
       have bX:=fW.drew
       generalize hw_W157:({ fj with drawn:=fj.drawn + 1 }:World)=qx at bX ⊢
       refine oM Z dQ (oM Z bP (oM Z cp (bnK gh fun _ cH mc=>?_)))
       obtain ⟨qI,cS⟩:=bX.rowSome (j:=0) rfl (by rw [wAG (f:=wAB) (sz:=3) (fun _=>rfl) p0];have hz:=wAK cH;omega)
       refine oR Z (zm Z Z cS Z za zZ (wAh cH) (wAi cH)) ?_
       have lO:=wAv (xs:=p0) (wAK cH)
       refine zn rfl rfl rfl rfl (bX.ldRA (j:=0) rfl cS rfl rfl ZZ zZ (vs:=[jV ((gd p0 p2.toNat).Bib),jV ((gd p0 p2.toNat).Place),jV ((gd p0 p2.toNat).Total)]) (wAy (sz:=3) (fun _=>rfl) _ _ _ lO (by first | omega | rfl | simp) rfl) rfl) rfl (zC rfl rfl rfl rfl rfl bP (zC rfl rfl rfl rfl rfl rfl (bnK mc fun _ ej md=>zT rfl rfl rfl rfl (fun _=>zm rfl rfl cS rfl za zZ (wAh ej) (wAi ej)) ?_)))
       have lP:=wAv (xs:=p0) (wAK ej)
       refine zn rfl rfl rfl rfl (bX.ldRA (j:=0) rfl cS rfl rfl ZZ zZ (vs:=[jV ((gd p0 (w64 ((wAP (w64 (bJ + bK))) / 2)).toNat).Bib),jV ((gd p0 (w64 ((wAP (w64 (bJ + bK))) / 2)).toNat).Place),jV ((gd p0 (w64 ((wAP (w64 (bJ + bK))) / 2)).toNat).Total)]) (wAy (sz:=3) (fun _=>rfl) _ _ _ lP (by first | omega | rfl | simp) rfl) rfl) rfl (bnK md fun rx iI me=>?_)
       have iJ:=aC.le cX
       refine Zk (a:=((gd p0 p2.toNat),(gd p0 (w64 ((wAP (w64 (bJ + bK))) / 2)).toNat))) Z Z Z Z Z Z (zA Z (zA Z zL)) bX iJ Z iI ?_
       rintro dh qb q5 gP gF jS ⟨rfl,rfl⟩
       have fY:SW w [B3] U dh [B3] gP:=jS
       refine oR Z (zK Z Z Z) (oR Z (Runs.notP Z Z) (eN (ifc me ?_ ?_)))
       ·intro dt mf
        refine ze (zt (fun h=>h dt.out)) (rR fL2 Z (oM Z Z (oA Z Z (zY (zd ?_)))))
        have q:=hJ mf
        obtain rfl:=q
        exact zI ⟨Z,_,Z,⟨dh,bP,cp,dQ,cq,Z,(cX.trans gF),fY⟩⟩
       ·intro dt mg
        refine cT Z dt (rR fL3 Z (oM Z Z (oR Z (zQ Z Z Z) (oA Z Z (zY (zd ?_))))))
        have q:=hJ mg
        obtain rfl:=q
        exact zI ⟨Z,_,Z,⟨dh,bP,cp,dQ,Z,dR,(cX.trans gF),fY⟩⟩
      ·have gi:=eC;rw [if_neg bn] at gi;replace bn:=zD bn
       refine cF Z bn (zr (zV ?_))
       have q:=wAe gi
       obtain ⟨pP,mh,iq⟩:=q
       have q:=lE pP iq
       obtain rfl:=q
       refine zV (zk ?_)
       cases mh
       exact zI ⟨Z,⟨gJ,bP,cp,cq,cX,fW⟩⟩
    ·rintro rJ qy ⟨eV,iw,iz,iA,qN,jT⟩
     refine zH (sR fL2 Z (oM Z iz (oA Z Z (eN (zP (Zm (fun (ag,ai) σ_ w_=>∃ (U_:PHeap),σ_ 0=.slice J ag.length aa/\σ_ 14=jV eK/\σ_ 17=jV ai/\PHeap.Le eV U_/\SW w [B3] U U_ [.row J aa 52 3 (hD wAB ag)] w_/\ag.length=p0.length) mb ?_ ?_))))))
     ·exact ⟨eV,iw,iA,Z,(zS _),jT,Z⟩
     ·rintro ⟨ag,ai⟩ rD rK fm ⟨ca,bQ,fB,bN,pI,fZ,fQ⟩ eE lG
      try dsimp only at eE
      refine zH (sR fL3 Z (oM Z bN (oM Z fB (oR Z (Zy Z Z Z) (eN ?_)))))
      by_cases bq:eK < ai
      ·have gj:=eE;rw [if_pos bq] at gj;replace bq:=zD bq
       refine cT Z bq (kN (zH (zP (zx zp [3,3,3,3,3,3,3,3,3,1,3,3,3,1,3,0,3,0] (wGl gBi) (by kernel_rfl) ?_))))
       have bY:=fZ.drew
       generalize hw_W222:({ fm with drawn:=fm.drawn + 1 }:World)=qz at bY ⊢
       refine oM Z bQ (oM Z bN (oM Z bQ (oM Z bN (oR Z (zg Z Z Z) (oM Z bQ (oM Z bN (oR Z (zg Z Z Z) (bnK gj fun _ cI mi=>?_))))))))
       obtain ⟨qJ,bA⟩:=bY.rowSome (j:=0) rfl (by rw [wAG (f:=wAB) (sz:=3) (fun _=>rfl) ag];have hz:=wAK cI;omega)
       refine oR Z (zm Z Z bA Z za zZ (wAh cI) (wAi cI)) ?_
       have lQ:=wAv (xs:=ag) (wAK cI)
       let B4:List Value:=[jV ((gd ag (w64 (ai - 1)).toNat).Bib),jV ((gd ag (w64 (ai - 1)).toNat).Place),jV ((gd ag (w64 (ai - 1)).toNat).Total)]
       refine zn rfl rfl rfl rfl (bY.ldRA (j:=0) rfl bA rfl rfl ZZ zZ (vs:=B4) (wAy (sz:=3) (fun _=>rfl) _ _ _ lQ (by first | omega | rfl | simp) rfl) rfl) rfl (zC rfl rfl rfl rfl rfl bQ (zC rfl rfl rfl rfl rfl bN (bnK mi fun _ bG mj=>zT rfl rfl rfl rfl (fun _=>zm rfl rfl bA rfl za zZ (wAh bG) (wAi bG)) ?_)))
       have lR:=wAv (xs:=ag) (wAK bG)
       let B5:List Value:=[jV ((gd ag ai.toNat).Bib),jV ((gd ag ai.toNat).Place),jV ((gd ag ai.toNat).Total)]
       refine zn rfl rfl rfl rfl (bY.ldRA (j:=0) rfl bA rfl rfl ZZ zZ (vs:=B5) (wAy (sz:=3) (fun _=>rfl) _ _ _ lR (by first | omega | rfl | simp) rfl) rfl) rfl (zT rfl rfl rfl rfl (fun _=>zm rfl rfl bA rfl za zZ (wAh bG) (wAi bG)) ?_)
       have lS:=wAv (xs:=ag) (wAK bG)
       refine yJ (j:=0) (vs:=B4) (cs':=hD wAB (nA ag ai.toNat (gd ag (w64 (ai - 1)).toNat))) rfl rfl rfl rfl bY rfl bA rfl rfl rfl zZ (by rw [wAG (f:=wAB) (sz:=3) (fun _=>rfl)];have hz:=wAK bG;show _ + 3 <= _;first | omega | (simp only [nI];omega) | (simp only [nG,nB,nD];omega)) rfl (wCN (sz:=3) (fo:=0) (fun _=>rfl) _ _ _ _ lS (by first | omega | (simp only [nI];omega) | (simp only [nG,nB,nD];omega)) (zJ rfl) rfl) rfl ?_
       intro gR jU
       have jW:SW w [B3] U ca [.row J aa 52 3 (hD wAB (nA ag ai.toNat (gd ag (w64 (ai - 1)).toNat)))] gR:=jU
       refine bnK mj fun _ bW mm=>zT rfl rfl rfl rfl (fun _=>zm rfl (nJ (b:=(.slice J ag.length aa:Value)) (c:=(.slice J ((nA ag ai.toNat (gd ag (w64 (ai - 1)).toNat)).length) aa:Value)) rfl (by simp only [hM])) bA rfl za zZ (wAh bW) (wAi bW)) ?_
       have lT:=wAv (xs:=(nA ag ai.toNat (gd ag (w64 (ai - 1)).toNat))) (by first | exact wAK bW | (have hz:=wAK bW;simpa only [hM] using hz))
       refine yJ (j:=0) (vs:=B5) (cs':=hD wAB (nA (nA ag ai.toNat (gd ag (w64 (ai - 1)).toNat)) (w64 (ai - 1)).toNat (gd ag ai.toNat))) rfl rfl rfl rfl jW rfl bA rfl rfl rfl zZ (by rw [wAG (f:=wAB) (sz:=3) (fun _=>rfl)];have hz:=wAK bW;show _ + 3 <= _;first | omega | (simp only [hM];omega) | (simp only [nG,nB,nD,hM];omega) | (simp only [nI];omega) | (simp only [nG,nB,nD];omega)) rfl (wCN (sz:=3) (fo:=0) (fun _=>rfl) _ _ _ _ lT (by first | omega | (simp only [nI];omega) | (simp only [nG,nB,nD];omega)) (zJ rfl) rfl) rfl ?_
       intro gS jX
       have jY:SW w [B3] U ca [.row J aa 52 3 (hD wAB (nA (nA ag ai.toNat (gd ag (w64 (ai - 1)).toNat)) (w64 (ai - 1)).toNat (gd ag ai.toNat)))] gS:=jX
       refine zY (zd (zI (rR fL3 Z (oM Z bN (oR Z (zg Z Z Z) (oA Z Z (zY ?_)))))))
       have q:=hJ mm
       obtain rfl:=q
       exact zI ⟨rfl,_,rfl,⟨ca,(nJ (b:=(.slice J ((nA ag ai.toNat (gd ag (w64 (ai - 1)).toNat)).length) aa:Value)) (c:=(.slice J ((nA (nA ag ai.toNat (gd ag (w64 (ai - 1)).toNat)) (w64 (ai - 1)).toNat (gd ag ai.toNat)).length) aa:Value)) (nJ (b:=(.slice J ag.length aa:Value)) (c:=(.slice J ((nA ag ai.toNat (gd ag (w64 (ai - 1)).toNat)).length) aa:Value)) bQ (by simp only [hM])) (by simp only [hM])),fB,rfl,pI,jY,((hM.trans hM).trans fQ)⟩⟩
      ·have gk:=eE;rw [if_neg bq] at gk;replace bq:=zD bq
       refine cF Z bq (zr (zV ?_))
       have q:=wAe gk
       obtain ⟨pQ,mn,ir⟩:=q
       have q:=lG pQ ir
       obtain rfl:=q
       refine zV (zk (zI (zR (zc ?_))))
       have hE:=hJ mn;first | subst r | cases hE
       exact ⟨Z,_,(wCM),ca,_,fZ,Z,Z,fQ⟩
   ·intro dr mo
    refine cF Z dr (kN (sR fL7 Z (oM Z Z (oM Z Z (oR Z (zQ Z Z Z) (oR Z (yb Z Z zu zz Z Z) (oR Z (yc Z Z Z) (oR Z (yU Z Z zz zu Z Z) (oA Z Z (eN (sR fL4 Z (oM Z Z (oM Z Z (oR Z (zQ Z Z Z) (oA Z Z (eN (sR fL2 Z (oA Z Z (oA Z Z (eN (zH (sR fL3 Z (oM Z Z (oM Z Z (oR Z (Zy Z Z Z) (eN (ifc mo ?_ ?_)))))))))))))))))))))))))))
    ·intro du mp
     refine cT Z du (sR fL4 Z (oM Z Z (oM Z Z (oR Z (zg Z Z Z) (oA Z Z (eN (rR fL2 Z (oM Z Z (oA Z Z (eN (sR fL3 Z (oM Z Z (oR Z (zg Z Z Z) (oA Z Z (eN (bnK mp fun ay pF mr=>?_))))))))))))))))
     let B6:Res:=.row J aa 52 3 (hD wAB p0)
     refine yH (fun σ_ w_=>∃ (U_:PHeap),σ_ 0=.slice J p0.length aa/\σ_ 1=jV p1/\σ_ 2=jV p2/\σ_ 3=jV p3/\σ_ 4=ak/\σ_ 18=jV (w64 ((wAP (w64 (p1 + p3))) / 2))/\σ_ 19=jV (w64 ((w64 ((wAP (w64 (p1 + p3))) / 2)) + p2))/\σ_ 20=jV ay/\PHeap.Le U U_/\SW w [B6] U U_ [B6] w_) ?_ ?_
     ·refine zP (Zm (fun (aG,aH) σ_ w_=>∃ (U_:PHeap),σ_ 0=.slice J p0.length aa/\σ_ 1=jV p1/\σ_ 2=jV p2/\σ_ 3=jV p3/\σ_ 4=ak/\σ_ 18=jV (w64 ((wAP (w64 (p1 + p3))) / 2))/\σ_ 19=jV (w64 ((w64 ((wAP (w64 (p1 + p3))) / 2)) + p2))/\σ_ 20=jV aG/\σ_ 21=jV aH/\σ_ 22=jV (w64 ((w64 ((w64 ((wAP (w64 (p1 + p3))) / 2)) + p2)) - 1))/\PHeap.Le U U_/\SW w [B6] U U_ [B6] w_) pF ?_ ?_)
      ·exact ⟨U,Z,Z,Z,Z,Z,Z,Z,Z,Z,Z,(zS _),hS⟩
      ·rintro ⟨aG,aH⟩ rE rL fq ⟨gL,bS,dS,dT,dU,ct,dV,dW,cu,dY,dZ,cZ,f5⟩ eF lH
       try dsimp only at eF
       refine zH (sR fL3 Z (oM Z cu (oM Z dY (oR Z (zK Z Z Z) (eN ?_)))))
       by_cases br:aG < aH
       ·have gl:=eF;rw [if_pos br] at gl;replace br:=zD br
        refine cT Z br (kN (zP (sR fL7 rfl (zC rfl rfl rfl rfl rfl cu (zC rfl rfl rfl rfl rfl dY (zT rfl rfl rfl rfl (fun _=>zQ rfl rfl rfl) (zT rfl rfl rfl rfl (fun _=>yb rfl rfl zu zz rfl rfl) (zT rfl rfl rfl rfl (fun _=>yc rfl rfl rfl) (zT rfl rfl rfl rfl (fun _=>yU rfl rfl zz zu rfl rfl) (Zz rfl rfl rfl rfl rfl rfl (eN (zH (zx zp [3,3,3,3,3,3,1,3,3,3,1,2,3,3] (wGk gBj) (by kernel_rfl) ?_)))))))))))))
        have bZ:=f5.drew
        generalize hw_W285:({ fq with drawn:=fq.drawn + 1 }:World)=qA at bZ ⊢
        refine oM Z ct (oM Z bS (oM Z dZ (oM Z Z (oR Z (zg Z Z Z) (bnK gl fun _ cJ ms=>?_)))))
        obtain ⟨qK,cU⟩:=bZ.rowSome (j:=0) rfl (by rw [wAG (f:=wAB) (sz:=3) (fun _=>rfl) p0];have hz:=wAK cJ;omega)
        refine oR Z (zm Z Z cU Z za zZ (wAh cJ) (wAi cJ)) ?_
        have lU:=wAv (xs:=p0) (wAK cJ)
        refine zn rfl rfl rfl rfl (bZ.ldRA (j:=0) rfl cU rfl rfl ZZ zZ (vs:=[jV ((gd p0 (w64 ((w64 ((w64 ((w64 ((wAP (w64 (p1 + p3))) / 2)) + p2)) - 1)) - (w64 ((wAP (w64 (aG + aH))) / 2)))).toNat).Bib),jV ((gd p0 (w64 ((w64 ((w64 ((w64 ((wAP (w64 (p1 + p3))) / 2)) + p2)) - 1)) - (w64 ((wAP (w64 (aG + aH))) / 2)))).toNat).Place),jV ((gd p0 (w64 ((w64 ((w64 ((w64 ((wAP (w64 (p1 + p3))) / 2)) + p2)) - 1)) - (w64 ((wAP (w64 (aG + aH))) / 2)))).toNat).Total)]) (wAy (sz:=3) (fun _=>rfl) _ _ _ lU (by first | omega | rfl | simp) rfl) rfl) rfl (zC rfl rfl rfl rfl rfl bS (zC rfl rfl rfl rfl rfl rfl (bnK ms fun _ ek mu=>zT rfl rfl rfl rfl (fun _=>zm rfl rfl cU rfl za zZ (wAh ek) (wAi ek)) ?_)))
        have lV:=wAv (xs:=p0) (wAK ek)
        refine zn rfl rfl rfl rfl (bZ.ldRA (j:=0) rfl cU rfl rfl ZZ zZ (vs:=[jV ((gd p0 (w64 ((wAP (w64 (aG + aH))) / 2)).toNat).Bib),jV ((gd p0 (w64 ((wAP (w64 (aG + aH))) / 2)).toNat).Place),jV ((gd p0 (w64 ((wAP (w64 (aG + aH))) / 2)).toNat).Total)]) (wAy (sz:=3) (fun _=>rfl) _ _ _ lV (by first | omega | rfl | simp) rfl) rfl) rfl (bnK mu fun ry iK mw=>?_)
        have iL:=aC.le cZ
        refine Zk (a:=((gd p0 (w64 ((w64 ((w64 ((w64 ((wAP (w64 (p1 + p3))) / 2)) + p2)) - 1)) - (w64 ((wAP (w64 (aG + aH))) / 2)))).toNat),(gd p0 (w64 ((wAP (w64 (aG + aH))) / 2)).toNat))) Z Z Z Z Z Z (zA Z (zA Z zL)) bZ iL Z iK ?_
        rintro di qc q6 gT gG jZ ⟨rfl,rfl⟩
        have f7:SW w [B6] U di [B6] gT:=jZ
        refine oR Z (zK Z Z Z) (oR Z (Runs.notP Z Z) (eN (ifc mw ?_ ?_)))
        ·intro dv my
         refine ze (zt (fun h=>h dv.out)) (rR fL2 Z (oM Z Z (oA Z Z (zY (zd ?_)))))
         have q:=hJ my
         obtain rfl:=q
         exact zI ⟨Z,_,Z,⟨di,bS,dS,dT,dU,ct,dV,dW,cu,Z,dZ,(cZ.trans gG),f7⟩⟩
        ·intro dv mz
         refine cT Z dv (rR fL3 Z (oM Z Z (oR Z (zQ Z Z Z) (oA Z Z (zY (zd ?_))))))
         have q:=hJ mz
         obtain rfl:=q
         exact zI ⟨Z,_,Z,⟨di,bS,dS,dT,dU,ct,dV,dW,Z,dY,dZ,(cZ.trans gG),f7⟩⟩
       ·have gq:=eF;rw [if_neg br] at gq;replace br:=zD br
        refine cF Z br (zr (zV ?_))
        have q:=wAe gq
        obtain ⟨pR,mA,it⟩:=q
        have q:=lH pR it
        obtain rfl:=q
        refine zV (zk ?_)
        cases mA
        exact zI ⟨Z,⟨gL,bS,dS,dT,dU,ct,dV,dW,cu,cZ,f5⟩⟩
     ·rintro rM qB ⟨dm,fC,fD,cx,fE,fG,fH,iB,cy,c7,f8⟩
      refine sR fL4 Z (oM Z iB (oM Z cy (oR Z (zg Z Z Z) (oA Z Z (eN (zH (bnK mr fun im gD mB=>yH (fun σ_ w_=>∃ (U_:PHeap),σ_ 0=.slice J p0.length aa/\σ_ 1=jV p1/\σ_ 2=jV p2/\σ_ 3=jV p3/\σ_ 4=ak/\σ_ 18=jV (w64 ((wAP (w64 (p1 + p3))) / 2))/\σ_ 20=jV ay/\σ_ 24=jV (w64 ((w64 ((w64 ((wAP (w64 (p1 + p3))) / 2)) + p2)) - ay))/\σ_ 185=.bool im/\PHeap.Le dm U_/\SW w [B6] U U_ [B6] w_) ?_ ?_)))))))
      ·refine rR fL8 Z (oM Z cy (oM Z cx (oR Z (zK Z Z Z) (oM Z Z ?_))))
       by_cases aw:ay < p2
       ·have gt:=gD;rw [if_pos aw] at gt;replace aw:=zD aw
        refine zC Z Z Z (wT Z aw) Z cx (zC Z Z Z (wT Z aw) Z Z (rU Z (wT Z aw) (zK Z Z Z) (oR Z (zb Z (ZJ aw.out) Z) (zY ?_))))
        have q:=hJ gt
        obtain rfl:=q
        exact zI ⟨Z,⟨dm,fC,fD,cx,fE,fG,fH,cy,Z,Z,(zS _),f8⟩⟩
       ·have gu:=gD;rw [if_neg aw] at gu;replace aw:=zD aw
        refine oF Z aw (oF Z aw (oF Z aw (oR Z (zX Z (zt aw.out) Z) (zY ?_))))
        cases gu
        exact zI ⟨Z,⟨dm,fC,fD,cx,fE,fG,fH,cy,Z,Z,(zS _),f8⟩⟩
      ·rintro rN cj ⟨bi,ba,cz,iC,aD,bb,au,bD,an,fI,c8,bB⟩
       refine ifc mB ?_ ?_
       ·intro dw mC
        refine ZB (fI.trans (congrArg nE dw.out)) (rR (wCA (.fx 5 .nil .stop)) Z (oM Z ba (oM Z bD (oM Z iC (oM Z an (oM Z bb ?_))))))
        have iM:=aC.le c7
        have cL:=iM.le c8
        refine bnK mC fun bg iN mD=>zG 1 Z Z Z Z (zF Z Z Tryz.call268 (zA Z (zA Z (zA Z (zA Z (zA Z zL))))) Z) bB (fun hs=>wCQ p0 J aa ay p2 (w64 ((w64 ((w64 ((wAP (w64 (p1 + p3))) / 2)) + p2)) - ay)) p4 ak cj bi hs cL iN) (.inl Z) ?_
        rintro bj qd q7 cm eI j0 ⟨rfl,rfl,aA⟩
        have bH:SW w [B6] U bj [.row J aa 52 3 (hD wAB bg)] cm:=j0
        refine eN (zH (sR fL8 Z (oM Z cz (oM Z bD (oR Z (zK Z Z Z) (oM Z Z (ifc mD ?_ ?_)))))))
        ·intro aM mF
         refine zC Z Z Z (wT Z aM) Z bD (zC Z Z Z (wT Z aM) Z au (rU Z (wT Z aM) (zK Z Z Z) (oR Z (zb Z (ZJ aM.out) Z) (eN (ifc mF ?_ ?_)))))
         ·intro dx mG
          refine cT Z dx (rR (wCA (.fx 5 .nil .stop)) rfl (zC rfl rfl rfl rfl rfl (nJ (b:=(.slice J p0.length aa:Value)) (c:=(.slice J bg.length aa:Value)) ba (by rw [aA])) (zC rfl rfl rfl rfl rfl cz (zC rfl rfl rfl rfl rfl bD (zC rfl rfl rfl rfl rfl au (zC rfl rfl rfl rfl rfl bb ?_))))))
          have fR:=cL.le eI
          refine bnK mG fun eL iO mH=>zG 1 Z Z Z Z (zF Z Z Zc (zA Z (zA Z (zA Z (zA Z (zA Z zL))))) Z) bH (fun hs=>ih bg J aa p1 ay (w64 ((wAP (w64 (p1 + p3))) / 2)) p4 ak cm bj hs fR iO) (.inl Z) ?_
          rintro cc qe q8 ft pJ j3 ⟨rfl,rfl,cM⟩
          have eu:SW w [B6] U cc [.row J aa 52 3 (hD wAB eL)] ft:=j3
          refine eN (sR fL8 Z (oM Z au (oM Z an (oR Z (zK Z Z Z) (oM Z Z (ifc mH ?_ ?_))))))
          ·intro aN mI
           refine zC Z Z Z (wT Z aN) Z an (zC Z Z Z (wT Z aN) Z aD (rU Z (wT Z aN) (zK Z Z Z) (oR Z (zb Z (ZJ aN.out) Z) (eN (ifc mI ?_ ?_)))))
           ·intro dy mJ
            refine cT Z dy (rR (wCA (.fx 5 .nil .stop)) rfl (zC rfl rfl rfl rfl rfl (nJ (b:=(.slice J bg.length aa:Value)) (c:=(.slice J eL.length aa:Value)) (nJ (b:=(.slice J p0.length aa:Value)) (c:=(.slice J bg.length aa:Value)) ba (by rw [aA])) (by rw [cM])) (zC rfl rfl rfl rfl rfl au (zC rfl rfl rfl rfl rfl an (zC rfl rfl rfl rfl rfl aD (zC rfl rfl rfl rfl rfl bb ?_))))))
            have iP:=fR.le pJ
            refine bnK mJ fun pU iQ mK=>zG 1 Z Z Z Z (zF Z Z Zc (zA Z (zA Z (zA Z (zA Z (zA Z zL))))) Z) eu (fun hs=>ih eL J aa (w64 ((wAP (w64 (p1 + p3))) / 2)) (w64 ((w64 ((w64 ((wAP (w64 (p1 + p3))) / 2)) + p2)) - ay)) p3 p4 ak ft cc hs iP iQ) (.inl Z) ?_
            rintro eW qf q9 gU qO j4 ⟨rfl,rfl,iR⟩
            have j5:SW w [B6] U eW [.row J aa 52 3 (hD wAB pU)] gU:=j4
            refine zY ?_
            have hE:=hJ mK;first | subst r | cases hE
            exact ⟨Z,_,(wCM),eW,_,j5,Z,Z,((iR.trans cM).trans aA)⟩
           ·intro dy mL
            refine cF Z dy (zo ?_)
            have hE:=hJ mL;first | subst r | cases hE
            exact ⟨Z,_,(wCM),cc,_,eu,Z,Z,(cM.trans aA)⟩
          ·intro aN mM
           refine oF Z aN (oF Z aN (oF Z aN (oR Z (zX Z (zt aN.out) Z) (eN (ze Z (zo ?_))))))
           have hE:=hJ mM;first | subst r | cases hE
           exact ⟨Z,_,(wCM),cc,_,eu,Z,Z,(cM.trans aA)⟩
         ·intro dx mN
          refine cF Z dx (kN (sR fL8 Z (oM Z au (oM Z an (oR Z (zK Z Z Z) (oM Z Z (ifc mN ?_ ?_)))))))
          ·intro aO mO
           refine zC Z Z Z (wT Z aO) Z an (zC Z Z Z (wT Z aO) Z aD (rU Z (wT Z aO) (zK Z Z Z) (oR Z (zb Z (ZJ aO.out) Z) (eN (ifc mO ?_ ?_)))))
           ·intro dz mP
            refine cT Z dz (rR (wCA (.fx 5 .nil .stop)) rfl (zC rfl rfl rfl rfl rfl (nJ (b:=(.slice J p0.length aa:Value)) (c:=(.slice J bg.length aa:Value)) ba (by rw [aA])) (zC rfl rfl rfl rfl rfl au (zC rfl rfl rfl rfl rfl an (zC rfl rfl rfl rfl rfl aD (zC rfl rfl rfl rfl rfl bb ?_))))))
            have iS:=cL.le eI
            refine bnK mP fun pV iT mR=>zG 1 Z Z Z Z (zF Z Z Zc (zA Z (zA Z (zA Z (zA Z (zA Z zL))))) Z) bH (fun hs=>ih bg J aa (w64 ((wAP (w64 (p1 + p3))) / 2)) (w64 ((w64 ((w64 ((wAP (w64 (p1 + p3))) / 2)) + p2)) - ay)) p3 p4 ak cm bj hs iS iT) (.inl Z) ?_
            rintro eX qg rc gV qP j6 ⟨rfl,rfl,iU⟩
            have j7:SW w [B6] U eX [.row J aa 52 3 (hD wAB pV)] gV:=j6
            refine zY ?_
            have hE:=hJ mR;first | subst r | cases hE
            exact ⟨Z,_,(wCM),eX,_,j7,Z,Z,(iU.trans aA)⟩
           ·intro dz mS
            refine cF Z dz (zo ?_)
            have hE:=hJ mS;first | subst r | cases hE
            exact ⟨Z,_,(wCM),bj,_,bH,Z,Z,aA⟩
          ·intro aO mT
           refine oF Z aO (oF Z aO (oF Z aO (oR Z (zX Z (zt aO.out) Z) (eN (ze Z (zo ?_))))))
           have hE:=hJ mT;first | subst r | cases hE
           exact ⟨Z,_,(wCM),bj,_,bH,Z,Z,aA⟩
        ·intro aM mU
         refine oF Z aM (oF Z aM (oF Z aM (oR Z (zX Z (zt aM.out) Z) (eN (ze Z (kN (sR fL8 Z (oM Z au (oM Z an (oR Z (zK Z Z Z) (oM Z Z (ifc mU ?_ ?_))))))))))))
         ·intro aP mV
          refine zC Z Z Z (wT Z aP) Z an (zC Z Z Z (wT Z aP) Z aD (rU Z (wT Z aP) (zK Z Z Z) (oR Z (zb Z (ZJ aP.out) Z) (eN (ifc mV ?_ ?_)))))
          ·intro dA mW
           refine cT Z dA (rR (wCA (.fx 5 .nil .stop)) rfl (zC rfl rfl rfl rfl rfl (nJ (b:=(.slice J p0.length aa:Value)) (c:=(.slice J bg.length aa:Value)) ba (by rw [aA])) (zC rfl rfl rfl rfl rfl au (zC rfl rfl rfl rfl rfl an (zC rfl rfl rfl rfl rfl aD (zC rfl rfl rfl rfl rfl bb ?_))))))
           have iV:=cL.le eI
           refine bnK mW fun pW iW mX=>zG 1 Z Z Z Z (zF Z Z Zc (zA Z (zA Z (zA Z (zA Z (zA Z zL))))) Z) bH (fun hs=>ih bg J aa (w64 ((wAP (w64 (p1 + p3))) / 2)) (w64 ((w64 ((w64 ((wAP (w64 (p1 + p3))) / 2)) + p2)) - ay)) p3 p4 ak cm bj hs iV iW) (.inl Z) ?_
           rintro eY qh rd gW qQ j8 ⟨rfl,rfl,iX⟩
           have j9:SW w [B6] U eY [.row J aa 52 3 (hD wAB pW)] gW:=j8
           refine zY ?_
           have hE:=hJ mX;first | subst r | cases hE
           exact ⟨Z,_,(wCM),eY,_,j9,Z,Z,(iX.trans aA)⟩
          ·intro dA mY
           refine cF Z dA (zo ?_)
           have hE:=hJ mY;first | subst r | cases hE
           exact ⟨Z,_,(wCM),bj,_,bH,Z,Z,aA⟩
         ·intro aP mZ
          refine oF Z aP (oF Z aP (oF Z aP (oR Z (zX Z (zt aP.out) Z) (eN (ze Z (zo ?_))))))
          have hE:=hJ mZ;first | subst r | cases hE
          exact ⟨Z,_,(wCM),bj,_,bH,Z,Z,aA⟩
       ·intro dw m0
        refine ze (fI.trans (congrArg nE (nH.2 dw.out))) (kN (zH (sR fL8 Z (oM Z cz (oM Z bD (oR Z (zK Z Z Z) (oM Z Z (ifc m0 ?_ ?_))))))))
        ·intro aQ m2
         refine zC Z Z Z (wT Z aQ) Z bD (zC Z Z Z (wT Z aQ) Z au (rU Z (wT Z aQ) (zK Z Z Z) (oR Z (zb Z (ZJ aQ.out) Z) (eN (ifc m2 ?_ ?_)))))
         ·intro dB m3
          refine cT Z dB (rR (wCA (.fx 5 .nil .stop)) Z (oM Z ba (oM Z cz (oM Z bD (oM Z au (oM Z bb ?_))))))
          have iZ:=aC.le c7
          have fS:=iZ.le c8
          refine bnK m3 fun eO i8 m4=>zG 1 Z Z Z Z (zF Z Z Zc (zA Z (zA Z (zA Z (zA Z (zA Z zL))))) Z) bB (fun hs=>ih p0 J aa p1 ay (w64 ((wAP (w64 (p1 + p3))) / 2)) p4 ak cj bi hs fS i8) (.inl Z) ?_
          rintro cd qi re fu pK kx ⟨rfl,rfl,cN⟩
          have ez:SW w [B6] U cd [.row J aa 52 3 (hD wAB eO)] fu:=kx
          refine eN (sR fL8 Z (oM Z au (oM Z an (oR Z (zK Z Z Z) (oM Z Z (ifc m4 ?_ ?_))))))
          ·intro aR m6
           refine zC Z Z Z (wT Z aR) Z an (zC Z Z Z (wT Z aR) Z aD (rU Z (wT Z aR) (zK Z Z Z) (oR Z (zb Z (ZJ aR.out) Z) (eN (ifc m6 ?_ ?_)))))
           ·intro dC m7
            refine cT Z dC (rR (wCA (.fx 5 .nil .stop)) rfl (zC rfl rfl rfl rfl rfl (nJ (b:=(.slice J p0.length aa:Value)) (c:=(.slice J eO.length aa:Value)) ba (by rw [cN])) (zC rfl rfl rfl rfl rfl au (zC rfl rfl rfl rfl rfl an (zC rfl rfl rfl rfl rfl aD (zC rfl rfl rfl rfl rfl bb ?_))))))
            have i9:=fS.le pK
            refine bnK m7 fun pX ja m8=>zG 1 Z Z Z Z (zF Z Z Zc (zA Z (zA Z (zA Z (zA Z (zA Z zL))))) Z) ez (fun hs=>ih eO J aa (w64 ((wAP (w64 (p1 + p3))) / 2)) (w64 ((w64 ((w64 ((wAP (w64 (p1 + p3))) / 2)) + p2)) - ay)) p3 p4 ak fu cd hs i9 ja) (.inl Z) ?_
            rintro eZ qj rf gX qR ky ⟨rfl,rfl,jb⟩
            have kz:SW w [B6] U eZ [.row J aa 52 3 (hD wAB pX)] gX:=ky
            refine zY ?_
            have hE:=hJ m8;first | subst r | cases hE
            exact ⟨Z,_,(wCM),eZ,_,kz,Z,Z,(jb.trans cN)⟩
           ·intro dC m9
            refine cF Z dC (zo ?_)
            have hE:=hJ m9;first | subst r | cases hE
            exact ⟨Z,_,(wCM),cd,_,ez,Z,Z,cN⟩
          ·intro aR n2
           refine oF Z aR (oF Z aR (oF Z aR (oR Z (zX Z (zt aR.out) Z) (eN (ze Z (zo ?_))))))
           have hE:=hJ n2;first | subst r | cases hE
           exact ⟨Z,_,(wCM),cd,_,ez,Z,Z,cN⟩
         ·intro dB n3
          refine cF Z dB (kN (sR fL8 Z (oM Z au (oM Z an (oR Z (zK Z Z Z) (oM Z Z (ifc n3 ?_ ?_)))))))
          ·intro aS n4
           refine zC Z Z Z (wT Z aS) Z an (zC Z Z Z (wT Z aS) Z aD (rU Z (wT Z aS) (zK Z Z Z) (oR Z (zb Z (ZJ aS.out) Z) (eN (ifc n4 ?_ ?_)))))
           ·intro dD n5
            refine cT Z dD (rR (wCA (.fx 5 .nil .stop)) Z (oM Z ba (oM Z au (oM Z an (oM Z aD (oM Z bb ?_))))))
            have jc:=aC.le c7
            have jd:=jc.le c8
            refine bnK n5 fun pY je n7=>zG 1 Z Z Z Z (zF Z Z Zc (zA Z (zA Z (zA Z (zA Z (zA Z zL))))) Z) bB (fun hs=>ih p0 J aa (w64 ((wAP (w64 (p1 + p3))) / 2)) (w64 ((w64 ((w64 ((wAP (w64 (p1 + p3))) / 2)) + p2)) - ay)) p3 p4 ak cj bi hs jd je) (.inl Z) ?_
            rintro e7 ql rh gY qS k9 ⟨rfl,rfl,jf⟩
            have lb:SW w [B6] U e7 [.row J aa 52 3 (hD wAB pY)] gY:=k9
            refine zY ?_
            have hE:=hJ n7;first | subst r | cases hE
            exact ⟨Z,_,(wCM),e7,_,lb,Z,Z,jf⟩
           ·intro dD n8
            refine cF Z dD (zo ?_)
            have hE:=hJ n8;first | subst r | cases hE
            exact ⟨Z,_,(wCM),bi,_,bB,Z,Z,Z⟩
          ·intro aS n9
           refine oF Z aS (oF Z aS (oF Z aS (oR Z (zX Z (zt aS.out) Z) (eN (ze Z (zo ?_))))))
           have hE:=hJ n9;first | subst r | cases hE
           exact ⟨Z,_,(wCM),bi,_,bB,Z,Z,Z⟩
        ·intro aQ oa
         refine oF Z aQ (oF Z aQ (oF Z aQ (oR Z (zX Z (zt aQ.out) Z) (eN (ze Z (kN (sR fL8 Z (oM Z au (oM Z an (oR Z (zK Z Z Z) (oM Z Z (ifc oa ?_ ?_))))))))))))
         ·intro aT oc
          refine zC Z Z Z (wT Z aT) Z an (zC Z Z Z (wT Z aT) Z aD (rU Z (wT Z aT) (zK Z Z Z) (oR Z (zb Z (ZJ aT.out) Z) (eN (ifc oc ?_ ?_)))))
          ·intro dE od
           refine cT Z dE (rR (wCA (.fx 5 .nil .stop)) Z (oM Z ba (oM Z au (oM Z an (oM Z aD (oM Z bb ?_))))))
           have jg:=aC.le c7
           have jh:=jg.le c8
           refine bnK od fun pZ ji oe=>zG 1 Z Z Z Z (zF Z Z Zc (zA Z (zA Z (zA Z (zA Z (zA Z zL))))) Z) bB (fun hs=>ih p0 J aa (w64 ((wAP (w64 (p1 + p3))) / 2)) (w64 ((w64 ((w64 ((wAP (w64 (p1 + p3))) / 2)) + p2)) - ay)) p3 p4 ak cj bi hs jh ji) (.inl Z) ?_
           rintro e8 qm ri ib qT lf ⟨rfl,rfl,jj⟩
           have lg:SW w [B6] U e8 [.row J aa 52 3 (hD wAB pZ)] ib:=lf
           refine zY ?_
           have hE:=hJ oe;first | subst r | cases hE
           exact ⟨Z,_,(wCM),e8,_,lg,Z,Z,jj⟩
          ·intro dE og
           refine cF Z dE (zo ?_)
           have hE:=hJ og;first | subst r | cases hE
           exact ⟨Z,_,(wCM),bi,_,bB,Z,Z,Z⟩
         ·intro aT oh
          refine oF Z aT (oF Z aT (oF Z aT (oR Z (zX Z (zt aT.out) Z) (eN (ze Z (zo ?_))))))
          have hE:=hJ oh;first | subst r | cases hE
          exact ⟨Z,_,(wCM),bi,_,bB,Z,Z,Z⟩
    ·intro du oi
     refine cF Z du (sR fL2 Z (oM Z Z (oA Z Z (eN (rR fL2 Z (oM Z Z (oA Z Z (eN (sR fL3 Z (oM Z Z (oR Z (zg Z Z Z) (oA Z Z (eN (bnK oi fun az pG oj=>?_))))))))))))))
     let B7:Res:=.row J aa 52 3 (hD wAB p0)
     refine yH (fun σ_ w_=>∃ (U_:PHeap),σ_ 0=.slice J p0.length aa/\σ_ 1=jV p1/\σ_ 2=jV p2/\σ_ 3=jV p3/\σ_ 4=ak/\σ_ 18=jV (w64 ((wAP (w64 (p1 + p3))) / 2))/\σ_ 19=jV (w64 ((w64 ((wAP (w64 (p1 + p3))) / 2)) + p2))/\σ_ 20=jV az/\PHeap.Le U U_/\SW w [B7] U U_ [B7] w_) ?_ ?_
     ·refine zP (Zm (fun (aI,aJ) σ_ w_=>∃ (U_:PHeap),σ_ 0=.slice J p0.length aa/\σ_ 1=jV p1/\σ_ 2=jV p2/\σ_ 3=jV p3/\σ_ 4=ak/\σ_ 18=jV (w64 ((wAP (w64 (p1 + p3))) / 2))/\σ_ 19=jV (w64 ((w64 ((wAP (w64 (p1 + p3))) / 2)) + p2))/\σ_ 20=jV aI/\σ_ 21=jV aJ/\σ_ 22=jV (w64 ((w64 ((w64 ((wAP (w64 (p1 + p3))) / 2)) + p2)) - 1))/\PHeap.Le U U_/\SW w [B7] U U_ [B7] w_) pG ?_ ?_)
      ·exact ⟨U,Z,Z,Z,Z,Z,Z,Z,Z,Z,Z,(zS _),hS⟩
      ·rintro ⟨aI,aJ⟩ rF rO fw ⟨gM,bT,d8,d9,ec,cA,ed,ee,cB,eh,ei,dd,ga⟩ eG lI
       try dsimp only at eG
       refine zH (sR fL3 Z (oM Z cB (oM Z eh (oR Z (zK Z Z Z) (eN ?_)))))
       by_cases bw:aI < aJ
       ·have gv:=eG;rw [if_pos bw] at gv;replace bw:=zD bw
        refine cT Z bw (kN (zP (sR fL7 rfl (zC rfl rfl rfl rfl rfl cB (zC rfl rfl rfl rfl rfl eh (zT rfl rfl rfl rfl (fun _=>zQ rfl rfl rfl) (zT rfl rfl rfl rfl (fun _=>yb rfl rfl zu zz rfl rfl) (zT rfl rfl rfl rfl (fun _=>yc rfl rfl rfl) (zT rfl rfl rfl rfl (fun _=>yU rfl rfl zz zu rfl rfl) (Zz rfl rfl rfl rfl rfl rfl (eN (zH (zx zp [3,3,3,3,3,3,1,3,3,3,1,2,3,3] (wGk gBj) (by kernel_rfl) ?_)))))))))))))
        have b8:=ga.drew
        generalize hw_W552:({ fw with drawn:=fw.drawn + 1 }:World)=qD at b8 ⊢
        refine oM Z cA (oM Z bT (oM Z ei (oM Z Z (oR Z (zg Z Z Z) (bnK gv fun _ cO oo=>?_)))))
        obtain ⟨qM,cW⟩:=b8.rowSome (j:=0) rfl (by rw [wAG (f:=wAB) (sz:=3) (fun _=>rfl) p0];have hz:=wAK cO;omega)
        refine oR Z (zm Z Z cW Z za zZ (wAh cO) (wAi cO)) ?_
        have lY:=wAv (xs:=p0) (wAK cO)
        refine zn rfl rfl rfl rfl (b8.ldRA (j:=0) rfl cW rfl rfl ZZ zZ (vs:=[jV ((gd p0 (w64 ((w64 ((w64 ((w64 ((wAP (w64 (p1 + p3))) / 2)) + p2)) - 1)) - (w64 ((wAP (w64 (aI + aJ))) / 2)))).toNat).Bib),jV ((gd p0 (w64 ((w64 ((w64 ((w64 ((wAP (w64 (p1 + p3))) / 2)) + p2)) - 1)) - (w64 ((wAP (w64 (aI + aJ))) / 2)))).toNat).Place),jV ((gd p0 (w64 ((w64 ((w64 ((w64 ((wAP (w64 (p1 + p3))) / 2)) + p2)) - 1)) - (w64 ((wAP (w64 (aI + aJ))) / 2)))).toNat).Total)]) (wAy (sz:=3) (fun _=>rfl) _ _ _ lY (by first | omega | rfl | simp) rfl) rfl) rfl (zC rfl rfl rfl rfl rfl bT (zC rfl rfl rfl rfl rfl rfl (bnK oo fun _ eo oq=>zT rfl rfl rfl rfl (fun _=>zm rfl rfl cW rfl za zZ (wAh eo) (wAi eo)) ?_)))
        have lZ:=wAv (xs:=p0) (wAK eo)
        refine zn rfl rfl rfl rfl (b8.ldRA (j:=0) rfl cW rfl rfl ZZ zZ (vs:=[jV ((gd p0 (w64 ((wAP (w64 (aI + aJ))) / 2)).toNat).Bib),jV ((gd p0 (w64 ((wAP (w64 (aI + aJ))) / 2)).toNat).Place),jV ((gd p0 (w64 ((wAP (w64 (aI + aJ))) / 2)).toNat).Total)]) (wAy (sz:=3) (fun _=>rfl) _ _ _ lZ (by first | omega | rfl | simp) rfl) rfl) rfl (bnK oq fun rA jl ot=>?_)
        have jm:=aC.le dd
        refine Zk (a:=((gd p0 (w64 ((w64 ((w64 ((w64 ((wAP (w64 (p1 + p3))) / 2)) + p2)) - 1)) - (w64 ((wAP (w64 (aI + aJ))) / 2)))).toNat),(gd p0 (w64 ((wAP (w64 (aI + aJ))) / 2)).toNat))) Z Z Z Z Z Z (zA Z (zA Z zL)) b8 jm Z jl ?_
        rintro dp qn rj ic gI lh ⟨rfl,rfl⟩
        have gb:SW w [B7] U dp [B7] ic:=lh
        refine oR Z (zK Z Z Z) (oR Z (Runs.notP Z Z) (eN (ifc ot ?_ ?_)))
        ·intro dG ou
         refine ze (zt (fun h=>h dG.out)) (rR fL2 Z (oM Z Z (oA Z Z (zY (zd ?_)))))
         have q:=hJ ou
         obtain rfl:=q
         exact zI ⟨Z,_,Z,⟨dp,bT,d8,d9,ec,cA,ed,ee,cB,Z,ei,(dd.trans gI),gb⟩⟩
        ·intro dG ov
         refine cT Z dG (rR fL3 Z (oM Z Z (oR Z (zQ Z Z Z) (oA Z Z (zY (zd ?_))))))
         have q:=hJ ov
         obtain rfl:=q
         exact zI ⟨Z,_,Z,⟨dp,bT,d8,d9,ec,cA,ed,ee,Z,eh,ei,(dd.trans gI),gb⟩⟩
       ·have gw:=eG;rw [if_neg bw] at gw;replace bw:=zD bw
        refine cF Z bw (zr (zV ?_))
        have q:=wAe gw
        obtain ⟨pS,oy,iu⟩:=q
        have q:=lI pS iu
        obtain rfl:=q
        refine zV (zk ?_)
        cases oy
        exact zI ⟨Z,⟨gM,bT,d8,d9,ec,cA,ed,ee,cB,dd,ga⟩⟩
     ·rintro rP qE ⟨dq,fJ,fK,cC,fL,fM,fN,iD,cD,de,gc⟩
      refine sR fL4 Z (oM Z iD (oM Z cD (oR Z (zg Z Z Z) (oA Z Z (eN (zH (bnK oj fun io gE oz=>yH (fun σ_ w_=>∃ (U_:PHeap),σ_ 0=.slice J p0.length aa/\σ_ 1=jV p1/\σ_ 2=jV p2/\σ_ 3=jV p3/\σ_ 4=ak/\σ_ 18=jV (w64 ((wAP (w64 (p1 + p3))) / 2))/\σ_ 20=jV az/\σ_ 24=jV (w64 ((w64 ((w64 ((wAP (w64 (p1 + p3))) / 2)) + p2)) - az))/\σ_ 185=.bool io/\PHeap.Le dq U_/\SW w [B7] U U_ [B7] w_) ?_ ?_)))))))
      ·refine rR fL8 Z (oM Z cD (oM Z cC (oR Z (zK Z Z Z) (oM Z Z ?_))))
       by_cases ax:az < p2
       ·have gz:=gE;rw [if_pos ax] at gz;replace ax:=zD ax
        refine zC Z Z Z (wT Z ax) Z cC (zC Z Z Z (wT Z ax) Z Z (rU Z (wT Z ax) (zK Z Z Z) (oR Z (zb Z (ZJ ax.out) Z) (zY ?_))))
        have q:=hJ gz
        obtain rfl:=q
        exact zI ⟨Z,⟨dq,fJ,fK,cC,fL,fM,fN,cD,Z,Z,(zS _),gc⟩⟩
       ·have gA:=gE;rw [if_neg ax] at gA;replace ax:=zD ax
        refine oF Z ax (oF Z ax (oF Z ax (oR Z (zX Z (zt ax.out) Z) (zY ?_))))
        cases gA
        exact zI ⟨Z,⟨dq,fJ,fK,cC,fL,fM,fN,cD,Z,Z,(zS _),gc⟩⟩
      ·rintro rQ cn ⟨bk,bc,cE,iE,aF,be,av,bE,ao,fO,df,bC⟩
       refine ifc oz ?_ ?_
       ·intro dH oB
        refine ZB (fO.trans (congrArg nE dH.out)) (rR (wCA (.fx 5 .nil .stop)) Z (oM Z bc (oM Z bE (oM Z iE (oM Z ao (oM Z be ?_))))))
        have jo:=aC.le de
        have cP:=jo.le df
        refine bnK oB fun bh jp oC=>zG 1 Z Z Z Z (zF Z Z Tryz.call268 (zA Z (zA Z (zA Z (zA Z (zA Z zL))))) Z) bC (fun hs=>wCQ p0 J aa az p2 (w64 ((w64 ((w64 ((wAP (w64 (p1 + p3))) / 2)) + p2)) - az)) p4 ak cn bk hs cP jp) (.inl Z) ?_
        rintro bm qo rk co eJ li ⟨rfl,rfl,aB⟩
        have bI:SW w [B7] U bm [.row J aa 52 3 (hD wAB bh)] co:=li
        refine eN (zH (sR fL8 Z (oM Z cE (oM Z bE (oR Z (zK Z Z Z) (oM Z Z (ifc oC ?_ ?_)))))))
        ·intro aU oE
         refine zC Z Z Z (wT Z aU) Z bE (zC Z Z Z (wT Z aU) Z av (rU Z (wT Z aU) (zK Z Z Z) (oR Z (zb Z (ZJ aU.out) Z) (eN (ifc oE ?_ ?_)))))
         ·intro dI oG
          refine cT Z dI (rR (wCA (.fx 5 .nil .stop)) rfl (zC rfl rfl rfl rfl rfl (nJ (b:=(.slice J p0.length aa:Value)) (c:=(.slice J bh.length aa:Value)) bc (by rw [aB])) (zC rfl rfl rfl rfl rfl cE (zC rfl rfl rfl rfl rfl bE (zC rfl rfl rfl rfl rfl av (zC rfl rfl rfl rfl rfl be ?_))))))
          have fT:=cP.le eJ
          refine bnK oG fun eP jq oH=>zG 1 Z Z Z Z (zF Z Z Zc (zA Z (zA Z (zA Z (zA Z (zA Z zL))))) Z) bI (fun hs=>ih bh J aa p1 az (w64 ((wAP (w64 (p1 + p3))) / 2)) p4 ak co bm hs fT jq) (.inl Z) ?_
          rintro cg qp rl fy pL lj ⟨rfl,rfl,cQ⟩
          have eA:SW w [B7] U cg [.row J aa 52 3 (hD wAB eP)] fy:=lj
          refine eN (sR fL8 Z (oM Z av (oM Z ao (oR Z (zK Z Z Z) (oM Z Z (ifc oH ?_ ?_))))))
          ·intro aV oI
           refine zC Z Z Z (wT Z aV) Z ao (zC Z Z Z (wT Z aV) Z aF (rU Z (wT Z aV) (zK Z Z Z) (oR Z (zb Z (ZJ aV.out) Z) (eN (ifc oI ?_ ?_)))))
           ·intro dJ oJ
            refine cT Z dJ (rR (wCA (.fx 5 .nil .stop)) rfl (zC rfl rfl rfl rfl rfl (nJ (b:=(.slice J bh.length aa:Value)) (c:=(.slice J eP.length aa:Value)) (nJ (b:=(.slice J p0.length aa:Value)) (c:=(.slice J bh.length aa:Value)) bc (by rw [aB])) (by rw [cQ])) (zC rfl rfl rfl rfl rfl av (zC rfl rfl rfl rfl rfl ao (zC rfl rfl rfl rfl rfl aF (zC rfl rfl rfl rfl rfl be ?_))))))
            have jr:=fT.le pL
            refine bnK oJ fun p5 jt oK=>zG 1 Z Z Z Z (zF Z Z Zc (zA Z (zA Z (zA Z (zA Z (zA Z zL))))) Z) eA (fun hs=>ih eP J aa (w64 ((wAP (w64 (p1 + p3))) / 2)) (w64 ((w64 ((w64 ((wAP (w64 (p1 + p3))) / 2)) + p2)) - az)) p3 p4 ak fy cg hs jr jt) (.inl Z) ?_
            rintro e9 qq rn ie qU ll ⟨rfl,rfl,ju⟩
            have lm:SW w [B7] U e9 [.row J aa 52 3 (hD wAB p5)] ie:=ll
            refine zY ?_
            have hE:=hJ oK;first | subst r | cases hE
            exact ⟨Z,_,(wCM),e9,_,lm,Z,Z,((ju.trans cQ).trans aB)⟩
           ·intro dJ oO
            refine cF Z dJ (zo ?_)
            have hE:=hJ oO;first | subst r | cases hE
            exact ⟨Z,_,(wCM),cg,_,eA,Z,Z,(cQ.trans aB)⟩
          ·intro aV oP
           refine oF Z aV (oF Z aV (oF Z aV (oR Z (zX Z (zt aV.out) Z) (eN (ze Z (zo ?_))))))
           have hE:=hJ oP;first | subst r | cases hE
           exact ⟨Z,_,(wCM),cg,_,eA,Z,Z,(cQ.trans aB)⟩
         ·intro dI oQ
          refine cF Z dI (kN (sR fL8 Z (oM Z av (oM Z ao (oR Z (zK Z Z Z) (oM Z Z (ifc oQ ?_ ?_)))))))
          ·intro aW oS
           refine zC Z Z Z (wT Z aW) Z ao (zC Z Z Z (wT Z aW) Z aF (rU Z (wT Z aW) (zK Z Z Z) (oR Z (zb Z (ZJ aW.out) Z) (eN (ifc oS ?_ ?_)))))
           ·intro dK oU
            refine cT Z dK (rR (wCA (.fx 5 .nil .stop)) rfl (zC rfl rfl rfl rfl rfl (nJ (b:=(.slice J p0.length aa:Value)) (c:=(.slice J bh.length aa:Value)) bc (by rw [aB])) (zC rfl rfl rfl rfl rfl av (zC rfl rfl rfl rfl rfl ao (zC rfl rfl rfl rfl rfl aF (zC rfl rfl rfl rfl rfl be ?_))))))
            have jv:=cP.le eJ
            refine bnK oU fun p6 jw oV=>zG 1 Z Z Z Z (zF Z Z Zc (zA Z (zA Z (zA Z (zA Z (zA Z zL))))) Z) bI (fun hs=>ih bh J aa (w64 ((wAP (w64 (p1 + p3))) / 2)) (w64 ((w64 ((w64 ((wAP (w64 (p1 + p3))) / 2)) + p2)) - az)) p3 p4 ak co bm hs jv jw) (.inl Z) ?_
            rintro fb qr ro ig qV ln ⟨rfl,rfl,jx⟩
            have lp:SW w [B7] U fb [.row J aa 52 3 (hD wAB p6)] ig:=ln
            refine zY ?_
            have hE:=hJ oV;first | subst r | cases hE
            exact ⟨Z,_,(wCM),fb,_,lp,Z,Z,(jx.trans aB)⟩
           ·intro dK oW
            refine cF Z dK (zo ?_)
            have hE:=hJ oW;first | subst r | cases hE
            exact ⟨Z,_,(wCM),bm,_,bI,Z,Z,aB⟩
          ·intro aW oZ
           refine oF Z aW (oF Z aW (oF Z aW (oR Z (zX Z (zt aW.out) Z) (eN (ze Z (zo ?_))))))
           have hE:=hJ oZ;first | subst r | cases hE
           exact ⟨Z,_,(wCM),bm,_,bI,Z,Z,aB⟩
        ·intro aU o3
         refine oF Z aU (oF Z aU (oF Z aU (oR Z (zX Z (zt aU.out) Z) (eN (ze Z (kN (sR fL8 Z (oM Z av (oM Z ao (oR Z (zK Z Z Z) (oM Z Z (ifc o3 ?_ ?_))))))))))))
         ·intro aX o5
          refine zC Z Z Z (wT Z aX) Z ao (zC Z Z Z (wT Z aX) Z aF (rU Z (wT Z aX) (zK Z Z Z) (oR Z (zb Z (ZJ aX.out) Z) (eN (ifc o5 ?_ ?_)))))
          ·intro dL o6
           refine cT Z dL (rR (wCA (.fx 5 .nil .stop)) rfl (zC rfl rfl rfl rfl rfl (nJ (b:=(.slice J p0.length aa:Value)) (c:=(.slice J bh.length aa:Value)) bc (by rw [aB])) (zC rfl rfl rfl rfl rfl av (zC rfl rfl rfl rfl rfl ao (zC rfl rfl rfl rfl rfl aF (zC rfl rfl rfl rfl rfl be ?_))))))
           have jy:=cP.le eJ
           refine bnK o6 fun p7 jz o7=>zG 1 Z Z Z Z (zF Z Z Zc (zA Z (zA Z (zA Z (zA Z (zA Z zL))))) Z) bI (fun hs=>ih bh J aa (w64 ((wAP (w64 (p1 + p3))) / 2)) (w64 ((w64 ((w64 ((wAP (w64 (p1 + p3))) / 2)) + p2)) - az)) p3 p4 ak co bm hs jy jz) (.inl Z) ?_
           rintro fd qs rp ii qX lu ⟨rfl,rfl,jA⟩
           have lv:SW w [B7] U fd [.row J aa 52 3 (hD wAB p7)] ii:=lu
           refine zY ?_
           have hE:=hJ o7;first | subst r | cases hE
           exact ⟨Z,_,(wCM),fd,_,lv,Z,Z,(jA.trans aB)⟩
          ·intro dL o9
           refine cF Z dL (zo ?_)
           have hE:=hJ o9;first | subst r | cases hE
           exact ⟨Z,_,(wCM),bm,_,bI,Z,Z,aB⟩
         ·intro aX pa
          refine oF Z aX (oF Z aX (oF Z aX (oR Z (zX Z (zt aX.out) Z) (eN (ze Z (zo ?_))))))
          have hE:=hJ pa;first | subst r | cases hE
          exact ⟨Z,_,(wCM),bm,_,bI,Z,Z,aB⟩
       ·intro dH pb
        refine ze (fO.trans (congrArg nE (nH.2 dH.out))) (kN (zH (sR fL8 Z (oM Z cE (oM Z bE (oR Z (zK Z Z Z) (oM Z Z (ifc pb ?_ ?_))))))))
        ·intro aY pd
         refine zC Z Z Z (wT Z aY) Z bE (zC Z Z Z (wT Z aY) Z av (rU Z (wT Z aY) (zK Z Z Z) (oR Z (zb Z (ZJ aY.out) Z) (eN (ifc pd ?_ ?_)))))
         ·intro dM pe
          refine cT Z dM (rR (wCA (.fx 5 .nil .stop)) Z (oM Z bc (oM Z cE (oM Z bE (oM Z av (oM Z be ?_))))))
          have jB:=aC.le de
          have fU:=jB.le df
          refine bnK pe fun eQ jC pf=>zG 1 Z Z Z Z (zF Z Z Zc (zA Z (zA Z (zA Z (zA Z (zA Z zL))))) Z) bC (fun hs=>ih p0 J aa p1 az (w64 ((wAP (w64 (p1 + p3))) / 2)) p4 ak cn bk hs fU jC) (.inl Z) ?_
          rintro ch qt rq fz pM lw ⟨rfl,rfl,cR⟩
          have eB:SW w [B7] U ch [.row J aa 52 3 (hD wAB eQ)] fz:=lw
          refine eN (sR fL8 Z (oM Z av (oM Z ao (oR Z (zK Z Z Z) (oM Z Z (ifc pf ?_ ?_))))))
          ·intro aZ pg
           refine zC Z Z Z (wT Z aZ) Z ao (zC Z Z Z (wT Z aZ) Z aF (rU Z (wT Z aZ) (zK Z Z Z) (oR Z (zb Z (ZJ aZ.out) Z) (eN (ifc pg ?_ ?_)))))
           ·intro dN ph
            refine cT Z dN (rR (wCA (.fx 5 .nil .stop)) rfl (zC rfl rfl rfl rfl rfl (nJ (b:=(.slice J p0.length aa:Value)) (c:=(.slice J eQ.length aa:Value)) bc (by rw [cR])) (zC rfl rfl rfl rfl rfl av (zC rfl rfl rfl rfl rfl ao (zC rfl rfl rfl rfl rfl aF (zC rfl rfl rfl rfl rfl be ?_))))))
            have jD:=fU.le pM
            refine bnK ph fun p8 jE pi=>zG 1 Z Z Z Z (zF Z Z Zc (zA Z (zA Z (zA Z (zA Z (zA Z zL))))) Z) eB (fun hs=>ih eQ J aa (w64 ((wAP (w64 (p1 + p3))) / 2)) (w64 ((w64 ((w64 ((wAP (w64 (p1 + p3))) / 2)) + p2)) - az)) p3 p4 ak fz ch hs jD jE) (.inl Z) ?_
            rintro ff qu rt ij qY lx ⟨rfl,rfl,jF⟩
            have ly:SW w [B7] U ff [.row J aa 52 3 (hD wAB p8)] ij:=lx
            refine zY ?_
            have hE:=hJ pi;first | subst r | cases hE
            exact ⟨Z,_,(wCM),ff,_,ly,Z,Z,(jF.trans cR)⟩
           ·intro dN pj
            refine cF Z dN (zo ?_)
            have hE:=hJ pj;first | subst r | cases hE
            exact ⟨Z,_,(wCM),ch,_,eB,Z,Z,cR⟩
          ·intro aZ pk
           refine oF Z aZ (oF Z aZ (oF Z aZ (oR Z (zX Z (zt aZ.out) Z) (eN (ze Z (zo ?_))))))
           have hE:=hJ pk;first | subst r | cases hE
           exact ⟨Z,_,(wCM),ch,_,eB,Z,Z,cR⟩
         ·intro dM pm
          refine cF Z dM (kN (sR fL8 Z (oM Z av (oM Z ao (oR Z (zK Z Z Z) (oM Z Z (ifc pm ?_ ?_)))))))
          ·intro a7 pn
           refine zC Z Z Z (wT Z a7) Z ao (zC Z Z Z (wT Z a7) Z aF (rU Z (wT Z a7) (zK Z Z Z) (oR Z (zb Z (ZJ a7.out) Z) (eN (ifc pn ?_ ?_)))))
           ·intro dO po
            refine cT Z dO (rR (wCA (.fx 5 .nil .stop)) Z (oM Z bc (oM Z av (oM Z ao (oM Z aF (oM Z be ?_))))))
            have jG:=aC.le de
            have jH:=jG.le df
            refine bnK po fun p9 jI pp=>zG 1 Z Z Z Z (zF Z Z Zc (zA Z (zA Z (zA Z (zA Z (zA Z zL))))) Z) bC (fun hs=>ih p0 J aa (w64 ((wAP (w64 (p1 + p3))) / 2)) (w64 ((w64 ((w64 ((wAP (w64 (p1 + p3))) / 2)) + p2)) - az)) p3 p4 ak cn bk hs jH jI) (.inl Z) ?_
            rintro fg qv ru ik qZ lA ⟨rfl,rfl,jJ⟩
            have lB:SW w [B7] U fg [.row J aa 52 3 (hD wAB p9)] ik:=lA
            refine zY ?_
            have hE:=hJ pp;first | subst r | cases hE
            exact ⟨Z,_,(wCM),fg,_,lB,Z,Z,jJ⟩
           ·intro dO pq
            refine cF Z dO (zo ?_)
            have hE:=hJ pq;first | subst r | cases hE
            exact ⟨Z,_,(wCM),bk,_,bC,Z,Z,Z⟩
          ·intro a7 pt
           refine oF Z a7 (oF Z a7 (oF Z a7 (oR Z (zX Z (zt a7.out) Z) (eN (ze Z (zo ?_))))))
           have hE:=hJ pt;first | subst r | cases hE
           exact ⟨Z,_,(wCM),bk,_,bC,Z,Z,Z⟩
        ·intro aY pu
         refine oF Z aY (oF Z aY (oF Z aY (oR Z (zX Z (zt aY.out) Z) (eN (ze Z (kN (sR fL8 Z (oM Z av (oM Z ao (oR Z (zK Z Z Z) (oM Z Z (ifc pu ?_ ?_))))))))))))
         ·intro a8 py
          refine zC Z Z Z (wT Z a8) Z ao (zC Z Z Z (wT Z a8) Z aF (rU Z (wT Z a8) (zK Z Z Z) (oR Z (zb Z (ZJ a8.out) Z) (eN (ifc py ?_ ?_)))))
          ·intro dP pz
           refine cT Z dP (rR (wCA (.fx 5 .nil .stop)) Z (oM Z bc (oM Z av (oM Z ao (oM Z aF (oM Z be ?_))))))
           have jK:=aC.le de
           have jL:=jK.le df
           refine bnK pz fun qa jM pB=>zG 1 Z Z Z Z (zF Z Z Zc (zA Z (zA Z (zA Z (zA Z (zA Z zL))))) Z) bC (fun hs=>ih p0 J aa (w64 ((wAP (w64 (p1 + p3))) / 2)) (w64 ((w64 ((w64 ((wAP (w64 (p1 + p3))) / 2)) + p2)) - az)) p3 p4 ak cn bk hs jL jM) (.inl Z) ?_
           rintro fh qw rv il q4 lC ⟨rfl,rfl,jN⟩
           have lD:SW w [B7] U fh [.row J aa 52 3 (hD wAB qa)] il:=lC
           refine zY ?_
           have hE:=hJ pB;first | subst r | cases hE
           exact ⟨Z,_,(wCM),fh,_,lD,Z,Z,jN⟩
          ·intro dP pC
           refine cF Z dP (zo ?_)
           have hE:=hJ pC;first | subst r | cases hE
           exact ⟨Z,_,(wCM),bk,_,bC,Z,Z,Z⟩
         ·intro a8 pD
          refine oF Z a8 (oF Z a8 (oF Z a8 (oR Z (zX Z (zt a8.out) Z) (eN (ze Z (zo ?_))))))
          have hE:=hJ pD;first | subst r | cases hE
          exact ⟨Z,_,(wCM),bk,_,bC,Z,Z,Z⟩
end Go.Proofs.YtlmekamhphnmjaaGreat
namespace Go.Proofs.YtlmekamhphnmjaaGreat
open Go.KL
set_option maxHeartbeats 4000000
theorem wDd (p0:List wAA) (J:Option Addr) (aa:Nat) (p1:Int) (p2:((wAA × wAA)->Option Int)) (ae:Value) (w:World) (U:PHeap) (hS:St0 w U [.row J aa 52 3 (hD wAB p0)]) (bF:FnOK Tryz.prog U ae wIZ wIa p2) {r:(List wAA)} (hm:wBR p0 p1 p2=some r):Gv Tryz.prog 139 [.slice J p0.length aa,jV p1,ae] w (wBu w [.row J aa 52 3 (hD wAB p0)] U (fun U_ L_ v=>v=.tuple #[]/\L_=[.row J aa 52 3 (hD wAB r)]/\r.length=p0.length)):=by
 unfold wBR at hm
 refine Gv.of Tryz.func139 Z Tryz.ntmps139 Tryz.results139 Z (sR fL1 Z (oA Z Z (eN (sR fL3 Z (oM Z Z (oA Z Z (oA Z Z (eN ?_))))))))
 have q:=bnd hm
 obtain ⟨⟨l2,x3⟩,cY,bN⟩:=q
 try dsimp only at bN
 let B0:Res:=.row J aa 52 3 (hD wAB p0)
 refine yH (fun σ_ w_=>∃ (U_:PHeap),σ_ 0=.slice J l2.length aa/\σ_ 1=jV p1/\σ_ 2=ae/\σ_ 6=jV 20/\σ_ 7=jV x3/\PHeap.Le U U_/\SW w [B0] U U_ [.row J aa 52 3 (hD wAB l2)] w_/\l2.length=p0.length) ?_ ?_
 refine zP (Zm (fun (am,a7,aC) σ_ w_=>∃ (U_:PHeap),σ_ 0=.slice J am.length aa/\σ_ 1=jV p1/\σ_ 2=ae/\σ_ 6=jV 20/\σ_ 7=jV a7/\σ_ 8=jV aC/\PHeap.Le U U_/\SW w [B0] U U_ [.row J aa 52 3 (hD wAB am)] w_/\am.length=p0.length) cY ?_ ?_)
 exact ⟨U,Z,Z,Z,Z,Z,Z,(zS _),hS,Z⟩
 rintro ⟨am,a7,aC⟩ dx dB bZ ⟨be,aO,aP,aQ,aR,bj,ax,aY,bD,bx⟩ aU cL
 try dsimp only at aU
 refine zH (sR fL3 Z (oM Z ax (oM Z aP (oR Z (Runs.leq Z Z Z) (eN ?_)))))
 by_cases ai:aC <= p1
 have bL:=aU;rw [if_pos ai] at bL;replace ai:=zD ai
 refine cT Z ai (kN (zP (sR (wEu (.fx 4 .nil .stop)) Z (oM Z aO (oM Z bj (oM Z ax (oM Z aQ ?_)))))))
 have cw:=bF.le aY
 refine bnK bL fun bS cx cU=>zG 1 Z Z Z Z (zF Z Z Tryz.call218 (zA Z (zA Z (zA Z (zA Z zL)))) Z) bD (fun hs=>wBq am J aa a7 aC p2 ae bZ be hs cw cx) (.inl Z) ?_
 rintro bg dn du b4 c8 cE ⟨rfl,rfl,bz⟩
 have cG:SW w [B0] U bg [.row J aa 52 3 (hD wAB bS)] b4:=cE
 refine eN (sR fL2 Z (oM Z ax (oA Z Z (eN (rR fL4 Z (oM Z ax (oM Z aR (oR Z (zQ Z Z Z) (oA Z Z (zY (zd ?_)))))))))))
 have q:=hJ cU
 obtain rfl:=q
 exact zI ⟨rfl,_,rfl,⟨bg,(nJ (b:=(.slice J am.length aa:Value)) (c:=(.slice J bS.length aa:Value)) aO (by rw [bz])),aP,aQ,aR,rfl,rfl,(aY.trans c8),cG,(bz.trans bx)⟩⟩
 have bM:=aU;rw [if_neg ai] at bM;replace ai:=zD ai
 refine cF Z ai (zr (zV ?_))
 have q:=wAe bM
 obtain ⟨dh,cV,cd⟩:=q
 have q:=cL dh cd
 obtain rfl:=q
 refine zV (zk ?_)
 cases cV
 exact zI ⟨Z,⟨be,aO,aP,aQ,aR,bj,aY,bD,bx⟩⟩
 rintro dC b8 ⟨bU,bk,bm,bn,ci,cj,dd,cH,cy⟩
 refine sR (wEu (.fx 4 .nil .stop)) Z (oM Z bk (oM Z cj (oM Z bm (oM Z bn ?_))))
 have aS:=bF.le dd
 refine bnK bN fun bT cz cW=>zG 1 Z Z Z Z (zF Z Z Tryz.call218 (zA Z (zA Z (zA Z (zA Z zL)))) Z) cH (fun hs=>wBq l2 J aa x3 p1 p2 ae b8 bU hs aS cz) (.inl Z) ?_
 rintro aD dp dv b9 bO cI ⟨rfl,rfl,bA⟩
 have cJ:SW w [B0] U aD [.row J aa 52 3 (hD wAB bT)] b9:=cI
 refine eN (zP (Zm (fun (ay,aj) σ_ w_=>∃ (U_:PHeap),σ_ 0=.slice J ay.length aa/\σ_ 1=jV p1/\σ_ 2=ae/\σ_ 6=jV aj/\PHeap.Le aD U_/\SW w [B0] U U_ [.row J aa 52 3 (hD wAB ay)] w_/\ay.length=p0.length) cW ?_ ?_))
 exact ⟨aD,(nJ (b:=(.slice J l2.length aa:Value)) (c:=(.slice J bT.length aa:Value)) bk (by rw [bA])),bm,bn,ci,(zS _),cJ,(bA.trans cy)⟩
 rintro ⟨ay,aj⟩ dy dD dq ⟨aq,cg,bh,ch,aG,az,bE,bp⟩ aV cM
 try dsimp only at aV
 refine zH (sR fL3 Z (oM Z aG (oM Z bh (oR Z (zK Z Z Z) (eN ?_)))))
 by_cases ag:aj < p1
 have bG:=aV;rw [if_pos ag] at bG;replace ag:=zD ag
 refine cT Z ag (kN (zP (sR fL4 Z (oM Z aG (oR Z (yV Z Z Z) (oA Z Z (oA Z Z (eN ?_))))))))
 have q:=bnd bG
 obtain ⟨⟨ao,aZ⟩,cX,bH⟩:=q
 try dsimp only at bH
 refine yH (fun σ_ w_=>∃ (U_:PHeap),σ_ 0=.slice J ao.length aa/\σ_ 1=jV p1/\σ_ 2=ae/\σ_ 6=jV aj/\σ_ 7=jV aZ/\PHeap.Le aq U_/\SW w [B0] U U_ [.row J aa 52 3 (hD wAB ao)] w_/\ao.length=p0.length) ?_ ?_
 refine zP (Zm (fun (ak,aA,aB) σ_ w_=>∃ (U_:PHeap),σ_ 0=.slice J ak.length aa/\σ_ 1=jV p1/\σ_ 2=ae/\σ_ 6=jV aj/\σ_ 7=jV aA/\σ_ 8=jV aB/\PHeap.Le aq U_/\SW w [B0] U U_ [.row J aa 52 3 (hD wAB ak)] w_/\ak.length=p0.length) cX ?_ ?_)
 exact ⟨aq,cg,bh,ch,aG,Z,Z,(zS _),bE,bp⟩
 rintro ⟨ak,aA,aB⟩ dw dz bV ⟨a8,aH,aI,aJ,au,aK,av,aW,bB,bq⟩ aT cK
 try dsimp only at aT
 refine zH (sR fL3 Z (oM Z av (oM Z aI (oR Z (Runs.leq Z Z Z) (eN ?_)))))
 by_cases ah:aB <= p1
 have bI:=aT;rw [if_pos ah] at bI;replace ah:=zD ah
 refine cT Z ah (kN (zP (sR (wHc (.fx 7 .nil .stop)) Z (oM Z aH (oM Z aK (oM Z aK (oM Z au (oR Z (zQ Z Z Z) (oM Z av (oM Z aJ ?_))))))))))
 have cm:=aS.le bO
 have cn:=cm.le az
 have co:=cn.le aW
 refine bnK bI fun bP cp cN=>zG 1 Z Z Z Z (zF Z Z Zc (zA Z (zA Z (zA Z (zA Z (zA Z zL))))) Z) bB (fun hs=>wCD 1000 ak J aa aA (w64 (aA + aj)) aB p2 ae bV a8 hs co cp) (.inl Z) ?_
 rintro ba di dr bW cZ cA ⟨rfl,rfl,br⟩
 have cB:SW w [B0] U ba [.row J aa 52 3 (hD wAB bP)] bW:=cA
 refine eN (sR fL2 Z (oM Z av (oA Z Z (eN (rR fL5 Z (oM Z av (oM Z au (oR Z (yV Z Z Z) (oR Z (zQ Z Z Z) (oA Z Z (zY (zd ?_))))))))))))
 have q:=hJ cN
 obtain rfl:=q
 exact zI ⟨rfl,_,rfl,⟨ba,(nJ (b:=(.slice J ak.length aa:Value)) (c:=(.slice J bP.length aa:Value)) aH (by rw [br])),aI,aJ,au,rfl,rfl,(aW.trans cZ),cB,(br.trans bq)⟩⟩
 have bJ:=aT;rw [if_neg ah] at bJ;replace ah:=zD ah
 refine cF Z ah (zr (zV ?_))
 have q:=wAe bJ
 obtain ⟨de,cO,ca⟩:=q
 have q:=cK de ca
 obtain rfl:=q
 refine zV (zk ?_)
 cases cO
 exact zI ⟨Z,⟨a8,aH,aI,aJ,au,aK,aW,bB,bq⟩⟩
 rintro dA bX ⟨bb,aL,aw,aM,aN,bi,aX,bC,bu⟩
 refine zH (sR fL4 Z (oM Z bi (oM Z aN (oR Z (zQ Z Z Z) (oA Z Z (eN (sR fL3 Z (oM Z Z (oM Z aw (oR Z (zK Z Z Z) (eN (ifc bH ?_ ?_))))))))))))
 intro aF cP
 refine cT Z aF (rR (wCA (.fx 5 .nil .stop)) Z (oM Z aL (oM Z bi (oM Z Z (oM Z aw (oM Z aM ?_))))))
 have cq:=aS.le bO
 have cr:=cq.le az
 have ct:=cr.le aX
 refine bnK cP fun bQ cu cQ=>zG 1 Z Z Z Z (zF Z Z Zc (zA Z (zA Z (zA Z (zA Z (zA Z zL))))) Z) bC (fun hs=>wCD 1000 ao J aa aZ (w64 (aZ + aj)) p1 p2 ae bX bb hs ct cu) (.inl Z) ?_
 rintro bc dm dt bY c7 cC ⟨rfl,rfl,bw⟩
 have cD:SW w [B0] U bc [.row J aa 52 3 (hD wAB bQ)] bY:=cC
 refine eN (rR fL3 Z (oM Z aN (oR Z (yV Z Z Z) (oA Z Z (zY (zd ?_))))))
 have q:=hJ cQ
 obtain rfl:=q
 exact zI ⟨rfl,_,rfl,⟨bc,(nJ (b:=(.slice J ao.length aa:Value)) (c:=(.slice J bQ.length aa:Value)) aL (by rw [bw])),aw,aM,rfl,((az.trans aX).trans c7),cD,(bw.trans bu)⟩⟩
 intro aF cR
 refine cF Z aF (kN (rR fL3 Z (oM Z aN (oR Z (yV Z Z Z) (oA Z Z (zY (zd ?_)))))))
 have q:=hJ cR
 obtain rfl:=q
 exact zI ⟨Z,_,Z,⟨bb,aL,aw,aM,Z,(az.trans aX),bC,bu⟩⟩
 have bK:=aV;rw [if_neg ag] at bK;replace ag:=zD ag
 refine cF Z ag (zr (zV ?_))
 have q:=wAe bK
 obtain ⟨df,cS,cc⟩:=q
 have q:=cM df cc
 obtain rfl:=q
 refine zV (zk ?_)
 have hE:=hJ cS;first | subst r | cases hE
 exact ⟨Z,_,(wCM),aq,_,bE,Z,Z,bp⟩
theorem wCg (J:List wAA) (aa:Option Addr) (ab:Nat) (p1:((wAA × wAA)->Option Int)) (ae:Value) (w:World) (U:PHeap) (hS:St0 w U [.row aa ab 52 3 (hD wAB J)]) (am:FnOK Tryz.prog U ae wIZ wIa p1) {r:(List wAA)} (hm:wAY J p1=some r):Gv Tryz.prog 81 [.slice aa J.length ab,ae] w (wBu w [.row aa ab 52 3 (hD wAB J)] U (fun U_ L_ v=>v=.tuple #[]/\L_=[.row aa ab 52 3 (hD wAB r)]/\r.length=J.length)):=by
 unfold wAY at hm
 refine Gv.of Tryz.func81 Z Tryz.ntmps81 Tryz.results81 Z (rR (wEu (.fx 4 .nil .stop)) Z (oM Z Z (oM Z Z (oR Z (zw Z Z za) (oM Z Z (bnK hm fun x2 h3 an=>zG 1 Z Z Z Z (zF Z Z Tryz.call139 (zA Z (zA Z (zA Z zL))) Z) hS (fun hs=>wDd J aa ab (↑J.length:Int) p1 ae w U hs am h3) (.inl Z) ?_))))))
 rintro U5 L6 v7 W8 aq aj ⟨rfl,rfl,ah⟩
 have ak:SW w [.row aa ab 52 3 (hD wAB J)] U U5 [.row aa ab 52 3 (hD wAB x2)] W8:=aj
 refine zY ?_
 have hE:=hJ an;first | subst r | cases hE
 exact ⟨Z,_,(wCM),U5,_,ak,Z,Z,ah⟩
theorem wFC (J:wAA) (p1:wAA) (w:World) (U:PHeap) (hS:St0 w U [])  {r:Int} (hm:wBM J p1=some r):Gv Tryz.prog 82 [.agg #[jV J.Bib,jV J.Place,jV J.Total],.agg #[jV p1.Bib,jV p1.Place,jV p1.Total]] w (wBu w [] U (fun U_ L_ v=>v=jV r/\L_=[])):=by
 unfold wBM at hm
 refine Gv.of Tryz.func82 Z Tryz.ntmps82 Tryz.results82 Z (sR gBh Z ?_)
 let B0:List Value:=[jV J.Bib,jV J.Place,jV J.Total]
 refine ZG (cs:=B0) rfl rfl rfl rfl rfl rfl (by rfl) hS ?_
 intro W1 b2 ao
 let B1:List Value:=[jV p1.Bib,jV p1.Place,jV p1.Total]
 refine ZG (cs:=B1) rfl rfl rfl rfl rfl rfl (by rfl) ao ?_
 intro W5 b6 ab
 refine oA Z Z (eN (sR (wEu gBf) Z (oR Z (zO Z Z ZH Z zB) (oL Z (ab.ldB (j:=1) Z Z Z zM (v:=jV J.Total) Z) (oR Z (zO Z Z ZH Z zB) (oL Z (ab.ldB (j:=0) Z Z Z zM (v:=jV p1.Total) Z) (bnK hm fun x9 ak ap=>zG 0 Z Z Z Z (zF Z Z Tryz.call41 (zA Z (zA Z zL)) Z) ab (fun hs=>wCZ J.Total p1.Total W5 U hs ak) (.inr Z) ?_)))))))
 rintro af aq aw ag av am ⟨rfl,rfl⟩
 have an:sW w U af [.blk b6 52 B1,.blk b2 52 B0] ag:=am
 refine oA Z Z (eN (zR ?_))
 have hE:=hJ ap;first | subst r | cases hE
 exact ⟨rfl,_,(zh rfl),af,_,(an.pick [] _ (by decide) rfl),rfl,rfl⟩
theorem wFg (p0:wAR) (a7:Nat) (aS:Option Addr) (aT:Nat) (bG:Option Addr) (bH:Nat) (bI:Nat) (cx:Array MapEntry) (cz:Nat) (bJ:Nat) (cy:Array MapEntry) (cA:Nat) (p1:(wAR × List Int × List (Int × Bool))) (pb1a:Nat) (pb1b:Nat) (pb1c:Nat) (pb1v:Nat) (pb1f:Nat) (pb1g:Nat) (pq1d:Nat) (pA1d_0_1:Option Addr) (pc1d_0_1:Nat) (pA1d_0_2:Option Addr) (pc1d_0_2:Nat) (pm1d_1:Nat) (pe1d_1:Array MapEntry) (pk1d_1:Nat) (pm1d_2:Nat) (pe1d_2:Array MapEntry) (pk1d_2:Nat) (pm1t:Nat) (pe1t:Array MapEntry) (pk1t:Nat) (pA1o:Option Addr) (pc1o:Nat) (w:World) (U:PHeap) (hS:St0 w U [.obj pm1t (.map pe1t pk1t)]) (cp:Cl U a7 0 [jV p0.Record.Deadline,.slice aS p0.Record.Skiers.length aT,.slice bG p0.Record.Decisions.length bH,.map (some bI),.map (some bJ)]) (ec:Sl U 2 aS aT p0.Record.Skiers.length (hD wAF p0.Record.Skiers)) (eu:Sl U 6 bG bH p0.Record.Decisions.length (hD wAD p0.Record.Decisions)) (ez:MpF U bI cx cz wEQ wEZ p0.at_) (eA:MpF U bJ cy cA wER wEa p0.about) (eB:Cl U pb1a 0 [.map (some pm1t)]) (eC:Cl U pb1b 0 [.func (.func 83) #[.pointer (some ⟨pq1d,0,none⟩)] #[]]) (eD:Cl U pb1c 0 [.pointer (some ⟨pq1d,0,none⟩)]) (eE:Cl U pb1v 0 [.func (.func 85) #[] #[.pointer (some ⟨pb1a,0,none⟩),.pointer (some ⟨pb1b,0,none⟩),.pointer (some ⟨pb1c,0,none⟩),.pointer (some ⟨pb1v,0,none⟩)],.func (.func 87) #[] #[.pointer (some ⟨pb1f,0,none⟩)],.func (.func 88) #[] #[.pointer (some ⟨pb1v,0,none⟩),.pointer (some ⟨pb1g,0,none⟩)],.func (.func 91) #[] #[.pointer (some ⟨pb1v,0,none⟩)],.func (.func 89) #[] #[.pointer (some ⟨pb1f,0,none⟩)]]) (eF:Cl U pb1f 0 [.func (.func 84) #[] #[.pointer (some ⟨pb1c,0,none⟩),.pointer (some ⟨pb1v,0,none⟩)]]) (ed:Cl U pb1g 0 [.slice pA1o p1.2.1.length pc1o]) (ee:Cl U pq1d 0 [jV p1.1.Record.Deadline,.slice pA1d_0_1 p1.1.Record.Skiers.length pc1d_0_1,.slice pA1d_0_2 p1.1.Record.Decisions.length pc1d_0_2,.map (some pm1d_1),.map (some pm1d_2)]) (eh:Sl U 2 pA1d_0_1 pc1d_0_1 p1.1.Record.Skiers.length (hD wAF p1.1.Record.Skiers)) (ei:Sl U 6 pA1d_0_2 pc1d_0_2 p1.1.Record.Decisions.length (hD wAD p1.1.Record.Decisions)) (ej:MpF U pm1d_1 pe1d_1 pk1d_1 wEQ wEZ p1.1.at_) (ek:MpF U pm1d_2 pe1d_2 pk1d_2 wER wEa p1.1.about) (en:MpR pe1t wDv wDw p1.2.2) (eo:Sl U 1 pA1o pc1o p1.2.1.length (hD KL.encI p1.2.1)) {r:(List wAA) × (List (Int × Bool))} (hm:wCt p0 p1=some r):Gv Tryz.prog 35 [.pointer (some ⟨a7,0,none⟩),.agg #[.func (.func 85) #[] #[.pointer (some ⟨pb1a,0,none⟩),.pointer (some ⟨pb1b,0,none⟩),.pointer (some ⟨pb1c,0,none⟩),.pointer (some ⟨pb1v,0,none⟩)],.func (.func 87) #[] #[.pointer (some ⟨pb1f,0,none⟩)],.func (.func 88) #[] #[.pointer (some ⟨pb1v,0,none⟩),.pointer (some ⟨pb1g,0,none⟩)],.func (.func 91) #[] #[.pointer (some ⟨pb1v,0,none⟩)],.func (.func 89) #[] #[.pointer (some ⟨pb1f,0,none⟩)]]] w (wBu w [.obj pm1t (.map pe1t pk1t)] U (fun U_ L_ v=>∃ (A0:Option Addr) (c0:Nat) (es_0:Array MapEntry) (ck_0:Nat),v=.slice A0 r.1.length c0/\L_=[.row A0 c0 52 3 (hD wAB r.1),.obj pm1t (.map es_0 ck_0)]/\MpR es_0 wDv wDw r.2)):=by
 unfold wCt at hm
 refine Gv.of Tryz.func35 Z Tryz.ntmps35 Tryz.results35 Z (sR gBg Z ?_)
 let B0:List Value:=[.func (.func 85) #[] #[.pointer (some ⟨pb1a,0,none⟩),.pointer (some ⟨pb1b,0,none⟩),.pointer (some ⟨pb1c,0,none⟩),.pointer (some ⟨pb1v,0,none⟩)],.func (.func 87) #[] #[.pointer (some ⟨pb1f,0,none⟩)],.func (.func 88) #[] #[.pointer (some ⟨pb1v,0,none⟩),.pointer (some ⟨pb1g,0,none⟩)],.func (.func 91) #[] #[.pointer (some ⟨pb1v,0,none⟩)],.func (.func 89) #[] #[.pointer (some ⟨pb1f,0,none⟩)]]
 refine ZG (cs:=B0) rfl rfl rfl rfl rfl rfl (by rfl) hS ?_
 intro W2 b3 cn
 refine oA Z Z (eN (sR fL2 Z (oA Z Z (oA Z Z (eN (zH (sR fL7 Z (oM Z Z (oR Z (Zn Z Z) (oR Z (zO Z Z Zx Z ZK) (oR Z (zO Z Z zj Z Zu) (oL Z (cn.ldC (f:=1) cp (v:=.slice aS p0.Record.Skiers.length aT) Z Z yL Z) (oR Z (zw Z Z ZL) (oM Z Z (eN (zP ?_))))))))))))))))
 have q:=bnd hm
 obtain ⟨⟨fP,aU,a8⟩,eI,ct⟩:=q
 try dsimp only at ct
 have q:=wBY eI
 obtain ⟨bD,eJ⟩:=q
 replace bD:=zD bD
 refine CK.forN' (fun aP (bE,aQ,aR) σ_ w_=>∃ (U_:PHeap) (aG:Array MapEntry) (aN:Nat) (aI:Option Addr) (aL:Nat) (aJ:Option Addr) (aM:Nat),σ_ 18=jV (↑aP:Int)/\σ_ 0=.pointer (some ⟨a7,0,none⟩)/\σ_ 3=.pointer (some ⟨b3,0,none⟩)/\σ_ 5=.slice aI aQ.length aL/\σ_ 6=.slice aJ aR.length aM/\σ_ 16=.slice aS p0.Record.Skiers.length aT/\σ_ 17=jV (↑p0.Record.Skiers.length:Int)/\PHeap.Le U U_/\SW w [.obj pm1t (.map pe1t pk1t)] U U_ [.blk b3 137 B0,.obj pm1t (.map aG aN),.row aI aL 52 3 (hD wAB aQ),.row aJ aM 52 3 (hD wAB aR)] w_/\MpR aG wDv wDw bE) eJ ?_ ?_ ?_
 have dZ:=cn.nilrow 52 3
 have d7:=dZ.nilrow 52 3
 exact ⟨U,pe1t,pk1t,none,0,none,0,rfl,rfl,rfl,rfl,rfl,rfl,rfl,(zS _),(d7.pick [2,3,1,0] _ (by decide) rfl),en⟩
 rintro aP ⟨bE,aQ,aR⟩ fO fT fw bB ⟨bg,aG,aN,aI,aL,aJ,aM,aW,bp,bq,b9,ca,br,bu,af,co,dz⟩ cu
 try dsimp only at cu
 have b8:Hid ((↑aP:Int) < (↑p0.Record.Skiers.length:Int)):=zD (wBh bB)
 replace bB:=zD bB
 have cq:Hid (w64 ((↑aP:Int) + 1)=(↑(aP + 1):Int)):=zD (by have h1:=bD.out;have h2:=b8.out;rw [wAf] <;> omega)
 refine sR fL1 Z (oR Z (zK Z aW bu) (eN (zH (cT Z b8 (kN (zH (zP (sR gBl Z (bnK cu fun ah cd fc=>?_)))))))))
 have cg:=ec.le af
 have q:=cg.el (fun _=>rfl) (wBW cd)
 obtain ⟨fA,fJ,dE,dF⟩:=q
 refine oR Z (ZS Z br dE aW ZL Zh (wCw cd)) (oL Z (co.ldCA (f:=0) dF Z Z Tryz.isAgg40 Zh (us:=[jV ah.Bib,jV ah.Time]) Z Z) (ZI (cs:=[jV 0,jV 0]) Z Z Z Z Z Tryz.zeroValue40 Z co ?_))
 intro fy au d8
 let B1:List Value:=[jV ah.Bib,jV ah.Time]
 refine ZN (j:=0) (vs:=B1) Z Z Z Z d8 Z Z Z Z Zh (zJ Z) Z Z Z ?_
 intro bi d9
 let B2:Res:=.row aI aL 52 3 (hD wAB aQ)
 let B3:Res:=.row aJ aM 52 3 (hD wAB aR)
 have bz:SW w [.obj pm1t (.map pe1t pk1t)] U bg [.blk au 40 B1,.blk b3 137 B0,.obj pm1t (.map aG aN),B2,B3] bi:=d9
 refine eN (sR (wFi (.fx 3 (fC4_8 (.nil)) .stop)) Z (oM Z bp (oL Z (bz.ldBA (j:=0) Z Z Z Tryz.isAgg40 Zh (vs:=B1) Z Z) (oL Z (bz.ldBA (j:=1) Z Z bq Tryz.isAgg137 Tryz.sizeOf137 (vs:=B0) Z Z) ?_))))
 have dA:=cp.le af
 have dB:=eu.le af
 have dC:=ez.le af
 have dD:=eA.le af
 have c7:=eB.le af
 have c8:=eC.le af
 have dd:=eD.le af
 have de:=eE.le af
 have df:=eF.le af
 have dh:=ed.le af
 have di:=ee.le af
 have dm:=eh.le af
 have dn:=ei.le af
 have dp:=ej.le af
 have dq:=ek.le af
 have dr:=eo.le af
 have q:=bnd fc
 obtain ⟨⟨aH,fg,fM⟩,dt,cr⟩:=q
 try dsimp only at cr
 have dH:SW w [.obj pm1t (.map pe1t pk1t)] U bg [.obj pm1t (.map aG aN),.blk au 40 B1,.blk b3 137 B0,B2,B3] bi:=bz.pick [2,0,1,3,4] _ (by decide) rfl
 refine zG 1 Z Z Z Z (zF Z Z Tryz.call80 (zA Z (zA Z (zA Z zL))) Z) dH (fun hs=>wFt p0 a7 aS aT bG bH bI cx cz bJ cy cA ah (p1.1,p1.2.1,bE) pb1a pb1b pb1c pb1v pb1f pb1g pq1d pA1d_0_1 pc1d_0_1 pA1d_0_2 pc1d_0_2 pm1d_1 pe1d_1 pk1d_1 pm1d_2 pe1d_2 pk1d_2 pm1t aG aN pA1o pc1o bi bg hs dA cg dB dC dD c7 c8 dd de df dh di dm dn dp dq dz dr dt) (.inl Z) ?_
 rintro aq fj fK cG cw dI ⟨ax,av,rfl,rfl,cc⟩
 have aY:SW w [.obj pm1t (.map pe1t pk1t)] U aq [.obj pm1t (.map ax av),.blk au 40 B1,.blk b3 137 B0,B2,B3] cG:=dI
 refine oM Z Z (oR Z (ZX Z Z (v:=jV aH) Z) (oR Z (ZX Z Z (v:=.bool fg) Z) (oA Z Z (oA Z Z (eN (sR fL1 Z (oM Z Z (eN (ifc cr ?_ ?_)))))))))
 intro bj eQ
 refine ZB (congrArg nE bj.out) (rR (wEu (.fx 4 (.fx 5 (.fl 6 .nil) .stop) .stop)) Z (oM Z ca (oR Z (zO Z Z Zb Z zB) (oL Z (aY.ldB (j:=1) Z Z Z zM (v:=jV ah.Bib) Z) ?_))))
 let B4:List Value:=[jV ah.Bib,jV (-1),jV 0]
 let B5:List Value:=[jV 0,jV 0,jV 0]
 refine oR Z (ZD (pv:=[(0,jV ah.Bib),(1,jV (-1))]) (z:=B5) (cs:=B4) Z (wAI Z (wAI Z wAd)) Tryz.zeroValue52 wJJ Z Z) (ZM (pv:=[(0,.agg B4.toArray)]) (zs:=B5) (cs:=B4) Z Z Z Z Z (wAI Z wAd) za zZ Tryz.zeroValue52 Z Z Z Z Z aY ?_)
 intro cH cO dJ
 let B6:Res:=.row (some ⟨cO,0,none⟩) 1 52 3 (hD wAB [(⟨ah.Bib,-1,0⟩:wAA)])
 have ch:SW w [.obj pm1t (.map pe1t pk1t)] U aq [B6,.obj pm1t (.map ax av),.blk au 40 B1,.blk b3 137 B0,B2,B3] cH:=dJ
 refine bnK eQ fun cB du eR=>yB (j:=5) (enc:=wAB) (xs:=aR) (ys:=[(⟨ah.Bib,-1,0⟩:wAA)]) (zs:=cB) rfl rfl rfl rfl rfl Tryz.underlying47 wKD rfl rfl rfl rfl rfl rfl ch rfl rfl rfl (ch.srcR (j:=0) rfl (by decide) (wAG (f:=wAB) (sz:=3) (fun _=>rfl) [(⟨ah.Bib,-1,0⟩:wAA)])) (fun _=>rfl) (fun _=>rfl) du rfl ?_
 intro bL bW cI dK
 have dL:SW w [.obj pm1t (.map pe1t pk1t)] U aq [B6,.obj pm1t (.map ax av),.blk au 40 B1,.blk b3 137 B0,B2,.row bL bW 52 3 (hD wAB cB)] cI:=dK
 refine oA Z Z (zY (zd (zI (rR fL2 Z (oR Z (ZE (zQ Z aW Z) (congrArg (jV) cq.out)) (oM Z Z (zY ?_)))))))
 cases eR
 exact zI ⟨rfl,⟨aq,ax,av,aI,aL,bL,bW,rfl,bp,bq,b9,rfl,br,bu,(af.trans cw),(dL.pick [3,1,4,5] _ (by decide) rfl),cc⟩⟩
 intro bj eS
 refine ze (congrArg nE (nH.2 bj.out)) (rR (wCA (.fx 5 (.fx 6 (.fl 7 .nil) .stop) .stop)) Z (oM Z b9 (oR Z (zO Z Z Zb Z zB) (oL Z (aY.ldB (j:=1) Z Z Z zM (v:=jV ah.Bib) Z) (oM Z Z ?_)))))
 let B7:List Value:=[jV ah.Bib,jV 0,jV aH]
 let B8:List Value:=[jV 0,jV 0,jV 0]
 refine oR Z (ZD (pv:=[(0,jV ah.Bib),(2,jV aH)]) (z:=B8) (cs:=B7) Z (wAI Z (wAI Z wAd)) Tryz.zeroValue52 wJJ Z Z) (ZM (pv:=[(0,.agg B7.toArray)]) (zs:=B8) (cs:=B7) Z Z Z Z Z (wAI Z wAd) za zZ Tryz.zeroValue52 Z Z Z Z Z aY ?_)
 intro cJ cP dM
 let B9:Res:=.row (some ⟨cP,0,none⟩) 1 52 3 (hD wAB [(⟨ah.Bib,0,aH⟩:wAA)])
 have ci:SW w [.obj pm1t (.map pe1t pk1t)] U aq [B9,.obj pm1t (.map ax av),.blk au 40 B1,.blk b3 137 B0,B2,B3] cJ:=dM
 refine bnK eS fun cC dv eT=>yB (j:=4) (enc:=wAB) (xs:=aQ) (ys:=[(⟨ah.Bib,0,aH⟩:wAA)]) (zs:=cC) rfl rfl rfl rfl rfl Tryz.underlying47 wKD rfl rfl rfl rfl rfl rfl ci rfl rfl rfl (ci.srcR (j:=0) rfl (by decide) (wAG (f:=wAB) (sz:=3) (fun _=>rfl) [(⟨ah.Bib,0,aH⟩:wAA)])) (fun _=>rfl) (fun _=>rfl) dv rfl ?_
 intro bM bX cK dN
 have dO:SW w [.obj pm1t (.map pe1t pk1t)] U aq [B9,.obj pm1t (.map ax av),.blk au 40 B1,.blk b3 137 B0,.row bM bX 52 3 (hD wAB cC),B3] cK:=dN
 refine oA Z Z (zY (zd (zI (rR fL2 Z (oR Z (ZE (zQ Z aW Z) (congrArg (jV) cq.out)) (oM Z Z (zY ?_)))))))
 cases eT
 exact zI ⟨rfl,⟨aq,ax,av,bM,bX,aJ,aM,rfl,bp,bq,rfl,ca,br,bu,(af.trans cw),(dO.pick [3,1,4,5] _ (by decide) rfl),cc⟩⟩
 rintro fQ bU ⟨bc,ay,aw,ab,ac,bN,bY,cY,fB,fC,bm,cS,fD,cU,fG,dP,dw⟩
 have cQ:Hid (¬ ((↑(((↑p0.Record.Skiers.length:Int):Int) - 0).toNat:Int) < (↑p0.Record.Skiers.length:Int))):=zD (wBG)
 refine sR fL1 Z (oR Z (zK Z cY cU) (eN (zH (cF Z cQ (zr (zV (zV (zk (zI (sR (.fl 0 (.fx 1 .nil .stop)) Z (oM Z bm ?_)))))))))))
 have dG:FnOK Tryz.prog bc (.func (.func 82) #[] #[]) wIZ wIa (fun x=>wBM x.1 x.2):=⟨82,[],[],rfl,Tryz.call82,fun U1 w1 x y vs le hs ha hm=>by obtain rfl:=ha;exact wFC x.1 x.2 w1 U1 hs  hm⟩
 refine bnK ct fun aB dx eU=>?_
 let aC:Res:=.row bN bY 52 3 (hD wAB a8)
 have dQ:SW w [.obj pm1t (.map pe1t pk1t)] U bc [.row ab ac 52 3 (hD wAB aU),.blk b3 137 B0,.obj pm1t (.map ay aw),aC] bU:=dP.pick [2,0,1,3] _ (by decide) rfl
 refine zG 1 Z Z Z Z (zF Z Z Tryz.call81 (zA Z (zA Z zL)) Z) dQ (fun hs=>wCg aU ab ac (fun x=>wBM x.1 x.2) (.func (.func 82) #[] #[]) bU bc hs dG dx) (.inl Z) ?_
 rintro be fk fL cL fH dR ⟨rfl,rfl,bw⟩
 have dS:SW w [.obj pm1t (.map pe1t pk1t)] U be [.row ab ac 52 3 (hD wAB aB),.blk b3 137 B0,.obj pm1t (.map ay aw),aC] cL:=dR
 refine eN (zH (sR fL3 rfl (zC rfl rfl rfl rfl rfl (nJ (b:=(.slice ab aU.length ac:Value)) (c:=(.slice ab aB.length ac:Value)) bm (by rw [bw])) (zT rfl rfl rfl rfl (fun _=>zw rfl rfl za) (zC rfl rfl rfl rfl rfl rfl (eN (zP (bnK eU fun fh eG eV=>?_))))))))
 have q:=wBY eG
 obtain ⟨bC,eH⟩:=q
 replace bC:=zD bC
 refine CK.forN' (fun J aa σ_ w_=>∃ (U_:PHeap),σ_ 48=jV (↑J:Int)/\σ_ 5=.slice ab aa.length ac/\σ_ 6=.slice bN a8.length bY/\σ_ 47=jV (↑aB.length:Int)/\PHeap.Le be U_/\SW w [.obj pm1t (.map pe1t pk1t)] U U_ [.blk b3 137 B0,.obj pm1t (.map ay aw),.row ab ac 52 3 (hD wAB aa),aC] w_/\aa.length=aU.length) eH ?_ ?_ ?_
 exact ⟨be,rfl,(nJ (b:=(.slice ab aU.length ac:Value)) (c:=(.slice ab aB.length ac:Value)) bm (by rw [bw])),cS,rfl,(zS _),(dS.pick [1,2,0,3] _ (by decide) rfl),bw⟩
 rintro J aa fN fR fq bA ⟨aK,aO,ao,bn,aV,bF,cj,bx⟩ fd
 have bZ:Hid ((↑J:Int) < (↑aB.length:Int)):=zD (wBh bA)
 replace bA:=zD bA
 have aZ:Hid (w64 ((↑J:Int) + 1)=(↑(J + 1):Int)):=zD (by have h1:=bC.out;have h2:=bZ.out;rw [wAf] <;> omega)
 refine sR fL1 Z (oR Z (zK Z aO aV) (eN (zH (cT Z bZ (kN (zH (zP (sR fL2 Z (oM Z aO (oA Z Z (eN (sR (wIM (.fx 6 .nil .stop)) Z (oM Z ao (oM Z Z (oM Z Z (oR Z (ZE (zQ Z Z Z) (congrArg (jV) aZ.out)) (bnK fd fun _ aX eW=>?_)))))))))))))))))
 obtain ⟨fz,am⟩:=cj.rowSome (j:=2) rfl (by rw [wAG (f:=wAB) (sz:=3) (fun _=>rfl) aa];have hz:=wAK aX;omega)
 refine oR Z (ZS Z Z am Z za zZ (wAK aX)) (oR Z (zO Z Z ZH Z zB) ?_)
 have eK:=wAv (xs:=aa) (wAK aX)
 refine yJ (j:=2) (vs:=[jV (↑(J + 1):Int)]) (cs':=hD wAB (nA aa J (⟨(gd aa J).Bib,(↑(J + 1):Int),(gd aa J).Total⟩:wAA))) rfl rfl rfl rfl cj rfl am rfl rfl rfl zB (by rw [wAG (f:=wAB) (sz:=3) (fun _=>rfl)];have hz:=wAK aX;show _ + 1 <= _;first | omega | (simp only [nI];omega) | (simp only [nG,nB,nD];omega)) rfl (wCN (sz:=3) (fo:=1) (fun _=>rfl) _ _ _ _ eK (by first | omega | (simp only [nI];omega) | (simp only [nG,nB,nD];omega)) (zJ rfl) rfl) rfl ?_
 intro bh dT
 have dU:SW w [.obj pm1t (.map pe1t pk1t)] U aK [.blk b3 137 B0,.obj pm1t (.map ay aw),.row ab ac 52 3 (hD wAB (nA aa J (⟨(gd aa J).Bib,(↑(J + 1):Int),(gd aa J).Total⟩:wAA))),aC] bh:=dT
 refine eN (zH (zx zp [3,3,3,3,3,3,3,1,3,3,3,3,3,1,3,3] fL16 (by kernel_rfl) ?_))
 have aA:=dU.drew
 generalize hw_W255:({ bh with drawn:=bh.drawn + 1 }:World)=ft at aA ⊢
 refine oM Z Z (oR Z (Zy Z Z Z) (oM Z Z (ifc eW ?_ ?_)))
 intro ae eX
 refine zC rfl rfl rfl (zU rfl rfl (ZJ ae.out)) rfl (nJ (b:=(.slice ab aa.length ac:Value)) (c:=(.slice ab ((nA aa J (⟨(gd aa J).Bib,(↑(J + 1):Int),(gd aa J).Total⟩:wAA)).length) ac:Value)) ao (by simp only [hM])) (zC rfl rfl rfl (zU rfl rfl (ZJ ae.out)) rfl rfl (bnK eX fun _ az eY=>zT rfl rfl rfl (zU rfl rfl (ZJ ae.out)) (fun _=>ZS rfl rfl am rfl za zZ (wAK az)) (zT rfl rfl rfl (zU rfl rfl (ZJ ae.out)) (fun _=>zO rfl rfl ZH rfl zB) ?_)))
 have eL:=wAv (xs:=(nA aa J (⟨(gd aa J).Bib,(↑(J + 1):Int),(gd aa J).Total⟩:wAA))) (by first | exact wAK az | (have hz:=wAK az;simpa only [hM] using hz))
 refine zn rfl rfl rfl (zU rfl rfl (ZJ ae.out)) (aA.ldR (j:=2) rfl am rfl rfl zM (wAT (sz:=3) (fun _=>rfl) _ _ 2 _ eL (by first | omega | rfl | simp) rfl)) rfl (zC rfl rfl rfl (zU rfl rfl (ZJ ae.out)) rfl (nJ (b:=(.slice ab aa.length ac:Value)) (c:=(.slice ab ((nA aa J (⟨(gd aa J).Bib,(↑(J + 1):Int),(gd aa J).Total⟩:wAA)).length) ac:Value)) ao (by simp only [hM])) (zC rfl rfl rfl (zU rfl rfl (ZJ ae.out)) rfl rfl (zT rfl rfl rfl (zU rfl rfl (ZJ ae.out)) (fun _=>zg rfl rfl rfl) (bnK eY fun _ ap eZ=>zT rfl rfl rfl (zU rfl rfl (ZJ ae.out)) (fun _=>zm rfl rfl am rfl za zZ (wAh ap) (wAi ap)) (zT rfl rfl rfl (zU rfl rfl (ZJ ae.out)) (fun _=>zO rfl rfl ZH rfl zB) ?_)))))
 have eM:=wAv (xs:=(nA aa J (⟨(gd aa J).Bib,(↑(J + 1):Int),(gd aa J).Total⟩:wAA))) (by first | exact wAK ap | (have hz:=wAK ap;simpa only [hM] using hz))
 refine zn rfl rfl rfl (zU rfl rfl (ZJ ae.out)) (aA.ldR (j:=2) rfl am rfl rfl zM (wAT (sz:=3) (fun _=>rfl) _ _ 2 _ eM (by first | omega | rfl | simp) rfl)) rfl (zT rfl rfl rfl (zU rfl rfl (ZJ ae.out)) (fun _=>Zr rfl rfl rfl) (zT rfl rfl rfl rfl (fun _=>zb rfl (ZJ ae.out) rfl) (eN (ifc eZ ?_ ?_))))
 intro bk e7
 refine cT Z bk (rR (wNL (.fx 10 .nil .stop)) rfl (zC rfl rfl rfl rfl rfl (nJ (b:=(.slice ab aa.length ac:Value)) (c:=(.slice ab ((nA aa J (⟨(gd aa J).Bib,(↑(J + 1):Int),(gd aa J).Total⟩:wAA)).length) ac:Value)) ao (by simp only [hM])) (zC rfl rfl rfl rfl rfl rfl (zC rfl rfl rfl rfl rfl (nJ (b:=(.slice ab aa.length ac:Value)) (c:=(.slice ab ((nA aa J (⟨(gd aa J).Bib,(↑(J + 1):Int),(gd aa J).Total⟩:wAA)).length) ac:Value)) ao (by simp only [hM])) (zC rfl rfl rfl rfl rfl rfl (zT rfl rfl rfl rfl (fun _=>zg rfl rfl rfl) (zT rfl rfl rfl rfl (fun _=>zm rfl rfl am rfl za zZ (wAh ap) (wAi ap)) (zT rfl rfl rfl rfl (fun _=>zO rfl rfl ZH rfl zB) ?_))))))))
 have eO:=wAv (xs:=(nA aa J (⟨(gd aa J).Bib,(↑(J + 1):Int),(gd aa J).Total⟩:wAA))) (by first | exact wAK ap | (have hz:=wAK ap;simpa only [hM] using hz))
 refine zn rfl rfl rfl rfl (aA.ldR (j:=2) rfl am rfl rfl zM (wAT (sz:=3) (fun _=>rfl) _ _ 1 _ eO (by first | omega | rfl | simp) rfl)) rfl (zT rfl rfl rfl rfl (fun _=>ZS rfl rfl am rfl za zZ (wAK az)) (zT rfl rfl rfl rfl (fun _=>zO rfl rfl ZH rfl zB) ?_))
 have eP:=wAv (xs:=(nA aa J (⟨(gd aa J).Bib,(↑(J + 1):Int),(gd aa J).Total⟩:wAA))) (by first | exact wAK az | (have hz:=wAK az;simpa only [hM] using hz))
 refine yJ (j:=2) (vs:=[jV ((gd (nA aa J (⟨(gd aa J).Bib,(↑(J + 1):Int),(gd aa J).Total⟩:wAA)) (w64 ((↑J:Int) - 1)).toNat).Place)]) (cs':=hD wAB (nA (nA aa J (⟨(gd aa J).Bib,(↑(J + 1):Int),(gd aa J).Total⟩:wAA)) J (⟨(gd (nA aa J (⟨(gd aa J).Bib,(↑(J + 1):Int),(gd aa J).Total⟩:wAA)) J).Bib,(gd (nA aa J (⟨(gd aa J).Bib,(↑(J + 1):Int),(gd aa J).Total⟩:wAA)) (w64 ((↑J:Int) - 1)).toNat).Place,(gd (nA aa J (⟨(gd aa J).Bib,(↑(J + 1):Int),(gd aa J).Total⟩:wAA)) J).Total⟩:wAA))) rfl rfl rfl rfl aA rfl am rfl rfl rfl zB (by rw [wAG (f:=wAB) (sz:=3) (fun _=>rfl)];have hz:=wAK az;show _ + 1 <= _;first | omega | (simp only [hM];omega) | (simp only [nG,nB,nD,hM];omega) | (simp only [nI];omega) | (simp only [nG,nB,nD];omega)) rfl (wCN (sz:=3) (fo:=1) (fun _=>rfl) _ _ _ _ eP (by first | omega | (simp only [nI];omega) | (simp only [nG,nB,nD];omega)) (zJ rfl) rfl) rfl ?_
 intro cM dV
 have dW:SW w [.obj pm1t (.map pe1t pk1t)] U aK [.blk b3 137 B0,.obj pm1t (.map ay aw),.row ab ac 52 3 (hD wAB (nA (nA aa J (⟨(gd aa J).Bib,(↑(J + 1):Int),(gd aa J).Total⟩:wAA)) J (⟨(gd (nA aa J (⟨(gd aa J).Bib,(↑(J + 1):Int),(gd aa J).Total⟩:wAA)) J).Bib,(gd (nA aa J (⟨(gd aa J).Bib,(↑(J + 1):Int),(gd aa J).Total⟩:wAA)) (w64 ((↑J:Int) - 1)).toNat).Place,(gd (nA aa J (⟨(gd aa J).Bib,(↑(J + 1):Int),(gd aa J).Total⟩:wAA)) J).Total⟩:wAA))),aC] cM:=dV
 refine zY (zd (zI (rR fL2 Z (oR Z (ZE (zQ Z aO Z) (congrArg (jV) aZ.out)) (oM Z Z (zY ?_))))))
 cases e7
 exact zI ⟨rfl,⟨aK,rfl,(nJ (b:=(.slice ab ((nA aa J (⟨(gd aa J).Bib,(↑(J + 1):Int),(gd aa J).Total⟩:wAA)).length) ac:Value)) (c:=(.slice ab ((nA (nA aa J (⟨(gd aa J).Bib,(↑(J + 1):Int),(gd aa J).Total⟩:wAA)) J (⟨(gd (nA aa J (⟨(gd aa J).Bib,(↑(J + 1):Int),(gd aa J).Total⟩:wAA)) J).Bib,(gd (nA aa J (⟨(gd aa J).Bib,(↑(J + 1):Int),(gd aa J).Total⟩:wAA)) (w64 ((↑J:Int) - 1)).toNat).Place,(gd (nA aa J (⟨(gd aa J).Bib,(↑(J + 1):Int),(gd aa J).Total⟩:wAA)) J).Total⟩:wAA)).length) ac:Value)) (nJ (b:=(.slice ab aa.length ac:Value)) (c:=(.slice ab ((nA aa J (⟨(gd aa J).Bib,(↑(J + 1):Int),(gd aa J).Total⟩:wAA)).length) ac:Value)) ao (by simp only [hM])) (by simp only [hM])),bn,aV,bF,dW,((hM.trans hM).trans bx)⟩⟩
 intro bk e8
 refine cF Z bk (zo (zd (zI (rR fL2 Z (oR Z (ZE (zQ Z aO Z) (congrArg (jV) aZ.out)) (oM Z Z (zY ?_)))))))
 cases e8
 exact zI ⟨rfl,⟨aK,rfl,(nJ (b:=(.slice ab aa.length ac:Value)) (c:=(.slice ab ((nA aa J (⟨(gd aa J).Bib,(↑(J + 1):Int),(gd aa J).Total⟩:wAA)).length) ac:Value)) ao (by simp only [hM])),bn,aV,bF,aA,(hM.trans bx)⟩⟩
 intro ae e9
 refine oF Z ae (oF Z ae (oF Z ae (oF Z ae (oF Z ae (oF Z ae (oF Z ae (oF Z ae (oF Z ae (oF Z ae (oF Z ae (oF Z ae (oR Z (zX Z (zt ae.out) Z) (eN (ze Z (zo (zd (zI (rR fL2 Z (oR Z (ZE (zQ Z aO Z) (congrArg (jV) aZ.out)) (oM Z Z (zY ?_)))))))))))))))))))))
 cases e9
 exact zI ⟨rfl,⟨aK,rfl,(nJ (b:=(.slice ab aa.length ac:Value)) (c:=(.slice ab ((nA aa J (⟨(gd aa J).Bib,(↑(J + 1):Int),(gd aa J).Total⟩:wAA)).length) ac:Value)) ao (by simp only [hM])),bn,aV,bF,aA,(hM.trans bx)⟩⟩
 rintro fS fu ⟨bT,cZ,cV,cW,cX,fI,cm,fE⟩
 have cR:Hid (¬ ((↑(((↑aB.length:Int):Int) - 0).toNat:Int) < (↑aB.length:Int))):=zD (wBG)
 refine sR fL1 rfl (zT rfl rfl rfl rfl (fun _=>zK rfl cZ cX) (eN (zH (cF Z cR (zr (zV (zV (zk (zI (sR gBm rfl (zC rfl rfl rfl rfl rfl cV (zC rfl rfl rfl rfl rfl cW (bnK eV fun cD dy fb=>yB (j:=2) (enc:=wAB) (xs:=fh) (ys:=a8) (zs:=cD) rfl rfl rfl rfl rfl Tryz.underlying47 wKD rfl rfl rfl rfl rfl rfl cm rfl rfl rfl (cm.srcR (j:=3) rfl (by decide) (wAG (f:=wAB) (sz:=3) (fun _=>rfl) a8)) (fun _=>rfl) (fun _=>rfl) dy rfl ?_)))))))))))))
 intro bO b4 cN dX
 have dY:SW w [.obj pm1t (.map pe1t pk1t)] U bT [.blk b3 137 B0,.obj pm1t (.map ay aw),.row bO b4 52 3 (hD wAB cD),aC] cN:=dX
 refine oA Z Z (eN (zR ?_))
 cases fb
 exact ⟨rfl,_,(zh rfl),bT,_,(dY.pick [2,1] _ (by decide) rfl),bO,b4,ay,aw,rfl,rfl,dw⟩
end Go.Proofs.YtlmekamhphnmjaaGreat
namespace Go.Proofs.YtlmekamhphnmjaaGreat
open Go.KL
set_option maxHeartbeats 4000000
theorem wHJ (J:wAO) (aA:Option Addr) (aC:Nat) (aB:Option Addr) (aD:Nat) (w:World) (U:PHeap) (hS:St0 w U []) (cm:Sl U 2 aA aC J.Skiers.length (hD wAF J.Skiers)) (cn:Sl U 6 aB aD J.Decisions.length (hD wAD J.Decisions)) {r:(List wAA) × Int} (hm:wCe J=some r):Gv Tryz.prog 11 [.agg #[jV J.Deadline,.slice aA J.Skiers.length aC,.slice aB J.Decisions.length aD]] w (wBu w [] U (fun U_ L_ v=>∃ (A0:Option Addr) (c0:Nat),v=.tuple #[.slice A0 r.1.length c0,jV r.2]/\L_=[.row A0 c0 52 3 (hD wAB r.1)])):=by
 unfold wCe at hm
 refine Gv.of Tryz.func11 Z Tryz.ntmps11 Tryz.results11 Z (sR gBk Z ?_)
 let B0:List Value:=[jV J.Deadline,.slice aA J.Skiers.length aC,.slice aB J.Decisions.length aD]
 refine ZG (cs:=B0) rfl rfl rfl rfl rfl rfl (by rfl) hS ?_
 intro W1 b2 bc
 refine oA Z Z (oA Z Z (eN (sR (.fl 0 (.fx 1 (wNO (.nil)) .stop)) Z (oL Z (bc.ldBA (j:=0) Z Z Z yD ZK (vs:=B0) Z Z) ?_))))
 have q:=bnd hm
 obtain ⟨⟨x5,x6⟩,h7,au⟩:=q
 try dsimp only at au
 refine zG 0 Z Z Z Z (zF Z Z Tryz.call34 (zA Z zL) Z) bc (fun hs=>wHy J aA aC aB aD W1 U hs cm cn h7) (.inr Z) ?_
 rintro U9 cC cJ af cI bb ba
 rcases x5 with _ | ac
 try dsimp only at au
 obtain ⟨rfl,rfl⟩:=ba
 have bZ:sW w U U9 [.blk b2 28 B0] af:=bb
 refine oM Z Z (oR Z (ZX Z Z (v:=.pointer none) Z) (oR Z (ZX Z Z (v:=jV x6) Z) (oA Z Z (oA Z Z (eN (zH (sR fL2 Z (oM Z Z (oR Z (Zf Z Z Z) (eN (ifc au ?_ ?_)))))))))))
 intro aG cr
 refine ze (zt (fun h=>h aG.out)) (kN (sR gBo Z (oM Z Z (oM Z Z ?_))))
 cases cr
 intro aG ct
 refine cT Z aG (sR fL3 Z (oM Z Z (oA Z Z (oA Z Z (eN (zR (zc ?_)))))))
 have b4:=bZ.nilrow 52 3
 cases ct
 exact ⟨rfl,_,(wHg rfl rfl),U9,_,(b4.pick [0] _ (by decide) rfl),none,0,rfl,rfl⟩
 try dsimp only at au
 obtain ⟨ab,am,ao,aw,ay,ak,aq,ap,ag,ai,ah,rfl,rfl,bD,bE,bF⟩:=ba
 let B1:List Value:=[jV ac.Record.Deadline,.slice am ac.Record.Skiers.length ao,.slice aw ac.Record.Decisions.length ay,.map (some ak),.map (some ag)]
 have be:sW w U U9 [.blk ab 210 B1,.row am ao 40 2 (hD wAF ac.Record.Skiers),.obj ak (.map aq ap),.obj ag (.map ai ah),.blk b2 28 B0] af:=bb
 refine oM Z Z (oR Z (ZX Z Z (v:=.pointer (some ⟨ab,0,none⟩)) Z) (oR Z (ZX Z Z (v:=jV x6) Z) (oA Z Z (oA Z Z (eN (zH (sR fL2 Z (oM Z Z (oR Z (Zf Z Z Z) (eN (ifc au ?_ ?_)))))))))))
 intro aH cu
 refine ze (zt (fun h=>h aH.out)) (kN (sR gBo Z (oM Z Z (oM Z Z ?_))))
 have q:=be.freezeR (k:=1) (n:=ac.Record.Skiers.length) rfl (wAG (f:=wAF) (sz:=2) (fun _=>rfl) ac.Record.Skiers) (by decide)
 obtain ⟨bj,cy,cx,b9⟩:=q
 have ca:sW w U bj [.blk ab 210 B1,.obj ak (.map aq ap),.obj ag (.map ai ah),.blk b2 28 B0] af:=b9
 have q:=ca.freezeM (k:=1) rfl bE
 obtain ⟨bk,bh,co,cc⟩:=q
 have cd:sW w U bk [.blk ab 210 B1,.obj ag (.map ai ah),.blk b2 28 B0] af:=cc
 have q:=cd.freezeM (k:=1) rfl bF
 obtain ⟨bm,aI,cp,cg⟩:=q
 have ch:sW w U bm [.blk ab 210 B1,.blk b2 28 B0] af:=cg
 have q:=ch.freeze (k:=0) rfl
 obtain ⟨aF,az,aj,b8⟩:=q
 replace aj:=Cl.of aj
 have ci:sW w U aF [.blk b2 28 B0] af:=b8
 replace aj:Cl aF ab 0 B1:=aj
 have bG:=cx.le bh
 have bH:=bG.le aI
 have aY:=bH.le az
 have bI:=bD.le cy
 have bJ:=bI.le bh
 have bK:=bJ.le aI
 have aZ:=bK.le az
 have bM:=co.le aI
 have a7:=bM.le az
 have a8:=cp.le az
 refine bnK cu fun cB bN cw=>zG 0 rfl rfl rfl rfl (zF rfl rfl Tryz.call36 (zA rfl (zA rfl zL)) rfl) ci (fun hs=>wGI ac ab am ao aw ay ak aq ap ag ai ah [] none 0 af aF hs aj aY aZ a7 a8 (by first | exact Sl.nil _ _ _ _ | exact SlR.nil) bN) (.inr rfl) ?_
 rintro aN cE cL aO av cj ⟨bq,br,bu,bw,bx,bz,aJ,aS,aR,rfl,rfl,bO,bP,bQ,bR,bS,bT,bU⟩
 have bV:sW w U aN [.obj aJ (.map aS aR),.blk b2 28 B0] aO:=cj
 have aT:=aj.le av
 have aU:=aY.le av
 have aV:=aZ.le av
 have aW:=a7.le av
 have aX:=a8.le av
 have q:=bnd cw
 obtain ⟨⟨cz,cM⟩,bC,bg⟩:=q
 try dsimp only at bg
 refine zG 1 rfl rfl rfl rfl (zF rfl rfl Tryz.call35 (zA rfl (zA rfl zL)) rfl) bV (fun hs=>wFg ac ab am ao aw ay ak aq ap ag ai ah (ac,[],cB) bq br bu bw bx bz ab am ao aw ay ak aq ap ag ai ah aJ aS aR none 0 aO aN hs aT aU aV aW aX bO bP bQ bR bS bT aT aU aV aW aX bU (by first | exact Sl.nil _ _ _ _ | exact SlR.nil) bC) (.inl rfl) ?_
 rintro aM cD cK bp cH bW ⟨aL,aQ,bB,bA,rfl,rfl,cG⟩
 have bX:sW w U aM [.row aL aQ 52 3 (hD wAB cz),.obj aJ (.map bB bA),.blk b2 28 B0] bp:=bW
 refine oA Z Z (oA Z Z (eN (zR ?_)))
 cases bg
 exact ⟨rfl,_,(wHg rfl rfl),aM,_,(bX.pick [0] _ (by decide) rfl),aL,aQ,rfl,rfl⟩
 intro aH cq
 refine cT Z aH (sR fL3 Z (oM Z Z (oA Z Z (oA Z Z (eN (zR (zc ?_)))))))
 have bY:=be.nilrow 52 3
 cases cq
 exact ⟨rfl,_,(wHg rfl rfl),U9,_,(bY.pick [0] _ (by decide) rfl),none,0,rfl,rfl⟩
theorem wEM (J:List wAJ) (am:Option Addr) (an:Nat) (p1:(wAJ->Option Bool)) (ao:Value) (w:World) (U:PHeap) (hS:St0 w U []) (aW:Sl U 2 am an J.length (hD wAt J)) (aX:FnOK Tryz.prog U ao wMl wMm p1) {r:Bool} (hm:wBc J p1=some r):Gv Tryz.prog 141 [.slice am J.length an,ao] w (wBu w [] U (fun U_ L_ v=>v=.bool r/\L_=[])):=by
 unfold wBc at hm
 refine Gv.of Tryz.func141 Z Tryz.ntmps141 Tryz.results141 Z (sR fL1 Z (oA Z Z (eN (zH (sR fL3 Z (oM Z Z (oR Z (zw Z Z ZQ) (oM Z Z (eN (zP ?_))))))))))
 have q:=wDW hm
 obtain ⟨r3,ah⟩:=q
 have q:=wDV ah
 obtain ⟨aj,a7⟩:=q
 replace aj:=zD aj
 refine yW (fun k2 _ σ_ w_=>∃ (U_:PHeap),σ_ 9=jV (↑k2:Int)/\σ_ 1=ao/\σ_ 7=.slice am J.length an/\σ_ 8=jV (↑J.length:Int)/\PHeap.Le U U_/\sW w U U_ [] w_) a7 ?_ ?_ ?_
 exact ⟨U,Z,Z,Z,Z,(zS _),hS⟩
 rintro k2 ⟨⟩ bB bD W8 ai ⟨aF,ag,au,av,aw,ak,ay⟩ aC aY
 try dsimp only at aC
 have aq:Hid ((↑k2:Int) < (↑J.length:Int)):=zD (wBh ai)
 replace ai:=zD ai
 have a8:Hid (w64 ((↑k2:Int) + 1)=(↑(k2 + 1):Int)):=zD (by have h1:=aj.out;have h2:=aq.out;rw [wAf] <;> omega)
 refine sR fL1 Z (oR Z (zK Z ag aw) (eN (zH (cT Z aq (kN (zH (zP (sR gBl Z (bnK aC fun ab ax ba=>?_)))))))))
 have aN:=aW.le ak
 have q:=aN.el (fun _=>rfl) (wBW ax)
 obtain ⟨bp,bw,aQ,aR⟩:=q
 refine oR Z (ZS Z av aQ ag ZQ Za (wCw ax)) (oL Z (ay.ldCA (f:=0) aR Z Z Tryz.isAgg53 Za (us:=[jV ab.Bib,jV ab.Time]) Z Z) (ZI (cs:=[jV 0,jV 0]) Z Z Z Z Z yZ Z ay ?_))
 intro bk ap aS
 let B0:List Value:=[jV ab.Bib,jV ab.Time]
 refine ZN (j:=0) (vs:=B0) Z Z Z Z aS Z Z Z Z Za (zJ Z) Z Z Z ?_
 intro aH aT
 have az:sW w U aF [.blk ap 53 B0] aH:=aT
 refine eN (sR gBm Z (oM Z au (oL Z (az.ldBA (j:=0) Z Z Z Tryz.isAgg53 Za (vs:=B0) Z Z) (bnK ba fun bA aO bb=>?_))))
 have aP:=aX.le ak
 refine Zk (a:=ab) Z Z Z Z Z Z (zA Z zL) az aP Z aO ?_
 rintro ae bj bz aI bh aU ⟨rfl,rfl⟩
 have aA:sW w U ae [.blk ap 53 B0] aI:=aU
 refine oR Z (ZV Z Z) (eN (ifc bb ?_ ?_))
 intro af bc
 refine ze (nC af.out) (zo (zd (zI (rR fL2 Z (oR Z (ZE (zQ Z ag Z) (congrArg (jV) a8.out)) (oM Z Z (zY ?_)))))))
 have q:=hJ bc
 obtain rfl:=q
 exact zI ⟨rfl,_,rfl,⟨ae,rfl,au,av,aw,(ak.trans bh),(aA.pick [] _ (by decide) rfl)⟩⟩
 intro af be
 refine ZB (nF (af.out)) (sR fL1 Z (oA Z Z (eN (zR (zq (zc ?_))))))
 have q:=wAe be
 obtain ⟨bi,bg,aK⟩:=q
 have q:=wDf hm ah (aY bi aK)
 obtain rfl:=q
 refine zc (zq (zc ?_))
 have hE:=hJ bg;first | subst r | cases hE
 exact ⟨rfl,_,(zh rfl),ae,_,(aA.pick [] _ (by decide) rfl),rfl,rfl⟩
 rintro ⟨⟩ bC bm ⟨aG,aM,bq,br,aL,bu,aV⟩ aZ
 have aB:=wEB hm ah aZ
 try dsimp only at aB
 have aJ:Hid (¬ ((↑(((↑J.length:Int):Int) - 0).toNat:Int) < (↑J.length:Int))):=zD (wBG)
 refine sR fL1 Z (oR Z (zK Z aM aL) (eN (zH (cF Z aJ (zr (zV (zV (zk (zI (sR fL1 Z (oA Z Z (eN (zR ?_)))))))))))))
 have hE:=hJ aB;first | subst r | cases hE
 exact ⟨Z,_,(zh Z),aG,_,aV,Z,Z⟩
theorem wEw (p0:Int) (p1:Int) (p2:Int) (w:World) (U:PHeap) (hS:St0 w U [])  {r:Bool} (hm:wDT p0 p1 p2=some r):Gv Tryz.prog 143 [jV p0,jV p1,jV p2] w (wBu w [] U (fun U_ L_ v=>v=.bool r/\L_=[])):=by
 unfold wDT at hm
 refine Gv.of Tryz.func143 Z Tryz.ntmps143 Tryz.results143 Z (sR fL1 Z (oA Z Z (eN (sR fL9 Z (oM Z Z (oM Z Z (oR Z (Runs.geq Z Z Z) (oM Z Z ?_))))))))
 by_cases J:p1 <= p0
 have aa:=hm;rw [if_pos J] at aa;replace J:=zD J
 refine zC Z Z Z (wT Z J) Z Z (zC Z Z Z (wT Z J) Z Z (rU Z (wT Z J) (Runs.leq Z Z Z) (oR Z (zb Z (ZJ J.out) Z) (oA Z Z (eN (zR ?_))))))
 first | (obtain rfl:=hJ aa) | cases aa
 exact ⟨Z,_,(zh Z),U,_,hS,Z,Z⟩
 have ae:=hm;rw [if_neg J] at ae;replace J:=zD J
 refine oF Z J (oF Z J (oF Z J (oR Z (zX Z (zt J.out) Z) (oA Z Z (eN (zR ?_))))))
 have hE:=hJ ae;first | subst r | cases hE
 exact ⟨Z,_,(zh Z),U,_,hS,Z,Z⟩
theorem wFu (p0:wAJ) (w:World) (U:PHeap) (hS:St0 w U [])  {r:Bool} (hm:wBd p0=some r):Gv Tryz.prog 142 [.agg #[jV p0.Bib,jV p0.Time]] w (wBu w [] U (fun U_ L_ v=>v=.bool r/\L_=[])):=by
 unfold wBd at hm
 refine Gv.of Tryz.func142 Z Tryz.ntmps142 Tryz.results142 Z (sR gBg Z ?_)
 let B0:List Value:=[jV p0.Bib,jV p0.Time]
 refine ZG (cs:=B0) rfl rfl rfl rfl rfl rfl (by rfl) hS ?_
 intro W1 b2 ai
 refine oA Z Z (eN (sR (.fl 0 (.fl 1 (.fx 2 (wKe (.fx 6 (.fl 7 (.fl 8 .nil)) .stop)) .stop))) Z (oR Z (zO Z Z Zs Z zB) (oL Z (ai.ldB (j:=0) Z Z Z zM (v:=jV p0.Bib) Z) (bnK hm fun x5 h6 ax=>zG 0 Z Z Z Z (zF Z Z Tryz.call143 (zA Z (zA Z (zA Z zL))) Z) ai (fun hs=>wEw p0.Bib 1 999 W1 U hs h6) (.inr Z) ?_)))))
 rintro U8 L9 aC ag aA ao ⟨rfl,rfl⟩
 have ae:sW w U U8 [.blk b2 53 B0] ag:=ao
 refine oM Z Z (ifc ax ?_ ?_)
 intro J au
 refine zT Z Z Z (zU Z Z (congrArg nE J.out)) (fun _=>zO Z Z Zs Z zB) (zn Z Z Z (zU Z Z (congrArg nE J.out)) (ae.ldB (j:=0) Z Z Z zM (v:=jV p0.Time) Z) Z (bnK au fun aF am av=>zG 0 Z Z Z (zU Z Z (congrArg nE J.out)) (zF Z Z Tryz.call143 (zA Z (zA Z (zA Z zL))) Z) ae (fun hs=>wEw p0.Time 0 360000 ag U8 hs am) (.inr Z) ?_))
 rintro af ay aD ak aB ap ⟨rfl,rfl⟩
 have aq:sW w U af [.blk b2 53 B0] ak:=ap
 refine oR Z (zb Z (congrArg nE J.out) Z) (oA Z Z (eN (zR ?_)))
 have hE:=hJ av;first | subst r | cases hE
 exact ⟨rfl,_,(zh rfl),af,_,(aq.pick [] _ (by decide) rfl),rfl,rfl⟩
 intro J aw
 refine ZA Z Z Z (zf Z Z (congrArg nE (nH.2 J.out)) Z) (ZA Z Z Z (zf Z Z (congrArg nE (nH.2 J.out)) Z) (Zg Z Z Z (zf Z Z (congrArg nE (nH.2 J.out)) Z) (oR Z (zX Z (congrArg nE (nH.2 J.out)) Z) (oA Z Z (eN (zR ?_))))))
 have hE:=hJ aw;first | subst r | cases hE
 exact ⟨rfl,_,(zh rfl),U8,_,(ae.pick [] _ (by decide) rfl),rfl,rfl⟩
theorem wHK (J:List Int) (an:Option Addr) (ao:Nat) (w:World) (U:PHeap) (hS:St0 w U []) (aR:Sl U 1 an ao J.length (hD KL.encI J)) {r:Bool} (hm:wDc J=some r):Gv Tryz.prog 144 [.slice an J.length ao] w (wBu w [] U (fun U_ L_ v=>v=.bool r/\L_=[])):=by
 unfold wDc at hm
 refine Gv.of Tryz.func144 Z Tryz.ntmps144 Tryz.results144 Z (sR fL1 Z (oA Z Z (eN (sR gBg Z (OKS.makeMap Z Z Z Z Z hS ?_)))))
 intro W1 b2 aN
 have a8:=MpR.nil wDv wDw
 refine oA Z Z (eN (zH (sR fL3 Z (oM Z Z (oR Z (zw Z Z zN) (oM Z Z (eN (zP ?_))))))))
 have q:=wDW hm
 obtain ⟨bu,aj⟩:=q
 have q:=wDV aj
 obtain ⟨am,aU⟩:=q
 replace am:=zD am
 refine yW (fun aa aB σ_ w_=>∃ (U_:PHeap) (ag:Array MapEntry) (au:Nat),σ_ 9=jV (↑aa:Int)/\σ_ 3=.map (some b2)/\σ_ 7=.slice an J.length ao/\σ_ 8=jV (↑J.length:Int)/\PHeap.Le U U_/\sW w U U_ [.obj b2 (.map ag au)] w_/\MpR ag wDv wDw aB) aU ?_ ?_ ?_
 exact ⟨U,#[],0,Z,Z,Z,Z,(zS _),aN,a8⟩
 rintro aa aB bw bz bg ak ⟨ac,ag,au,ai,ah,ax,ay,aC,ab,az⟩ bb aS
 have aq:Hid ((↑aa:Int) < (↑J.length:Int)):=zD (wBh ak)
 replace ak:=zD ak
 have aV:Hid (w64 ((↑aa:Int) + 1)=(↑(aa + 1):Int)):=zD (by have h1:=am.out;have h2:=aq.out;rw [wAf] <;> omega)
 refine sR fL1 Z (oR Z (zK Z ai ay) (eN (zH (cT Z aq (kN (zH (zP (sR fL3 Z (bnK bb fun ap aA aW=>?_)))))))))
 have aK:=aR.le aC
 have q:=aK.el (fun _=>rfl) (wBW aA)
 obtain ⟨bi,br,aL,aM⟩:=q
 refine oR Z (ZS Z ax aL ai zN zB (wCw aA)) (oL Z (ab.ldC (f:=0) aM (v:=jV ap) Z Z zM Z) (oA Z Z (eN (zH (sR fL3 Z (oM Z ah (oM Z Z (oL Z (ab.lookup1 (j:=0) (mk:=wDv) (mv:=wDw) (a:=ap) (z:=false) Z Z Z Z (wDE yI) wFr Tryz.zeroValue4 az) (eN (ifc aW ?_ ?_))))))))))
 intro af aX
 refine ZB (congrArg nE af.out) (sR fL1 Z (oA Z Z (eN (zR (zc (zq (zc ?_)))))))
 have q:=wAe aX
 obtain ⟨bc,aY,aH⟩:=q
 have q:=wDf hm aj (aS bc aH)
 obtain rfl:=q
 refine zc (zq (zc ?_))
 have hE:=hJ aY;first | subst r | cases hE
 exact ⟨rfl,_,(zh rfl),ac,_,(ab.pick [] _ (by decide) rfl),rfl,rfl⟩
 intro af aZ
 refine ze (congrArg nE (nH.2 af.out)) (kN (rR (.fl 0 (.fl 1 (.fx 2 .nil .stop))) rfl (zC rfl rfl rfl rfl rfl ah (zC rfl rfl rfl rfl rfl rfl (OKS.mapPut (x:=.tmp 16) (y:=.tmp 17) (j:=0) (mk:=wDv) (mv:=wDw) (a:=ap) (v:=true) rfl rfl rfl (by first | exact .inl rfl | exact .inr rfl) ab rfl rfl rfl rfl (wDE yI) wFr az rfl ?_)))))
 intro aw av aF ba aO
 have aP:sW w U ac [.obj b2 (.map aw av)] aF:=aO
 refine zY (zd (zI (rR fL2 Z (oR Z (ZE (zQ Z ai Z) (congrArg (jV) aV.out)) (oM Z Z (zY ?_))))))
 have q:=hJ aZ
 obtain rfl:=q
 exact zI ⟨Z,_,Z,⟨ac,aw,av,Z,ah,ax,ay,aC,aP,ba⟩⟩
 rintro bx bA bh ⟨aD,bk,bj,aJ,bm,bn,aI,bq,aQ,bp⟩ aT
 have a7:=wEB hm aj aT
 have aG:Hid (¬ ((↑(((↑J.length:Int):Int) - 0).toNat:Int) < (↑J.length:Int))):=zD (wBG)
 refine sR fL1 Z (oR Z (zK Z aJ aI) (eN (zH (cF Z aG (zr (zV (zV (zk (zI (sR fL1 Z (oA Z Z (eN (zR ?_)))))))))))))
 have hE:=hJ a7;first | subst r | cases hE
 exact ⟨rfl,_,(zh rfl),aD,_,(aQ.pick [] _ (by decide) rfl),rfl,rfl⟩
theorem wGY (p0:List wAJ) (aj:Option Addr) (ak:Nat) (p1:wAX) (w:World) (U:PHeap) (hS:St0 w U []) (bg:Sl U 2 aj ak p0.length (hD wAt p0)) {r:Int} (hm:wDA p0 p1=some r):Gv Tryz.prog 92 [.slice aj p0.length ak,.agg #[jV p1.Unit,jV p1.Limit]] w (wBu w [] U (fun U_ L_ v=>v=jV r/\L_=[])):=by
 unfold wDA at hm
 refine Gv.of Tryz.func92 Z Tryz.ntmps92 Tryz.results92 Z (sR gBg Z ?_)
 let B0:List Value:=[jV p1.Unit,jV p1.Limit]
 refine ZG (cs:=B0) rfl rfl rfl rfl rfl rfl (by rfl) hS ?_
 intro W1 b2 bU
 refine oA Z Z (eN (sR fL1 Z (oA Z Z (eN (zH (sR fL3 Z (oM Z Z (oR Z (zw Z Z ZQ) (oM Z Z (eN (zP (bnK hm fun aq b4 cr=>?_))))))))))))
 have q:=wBY b4
 obtain ⟨aJ,b8⟩:=q
 replace aJ:=zD aJ
 refine CK.forN' (fun ah ai σ_ w_=>∃ (U_:PHeap) (am:Option Addr) (ap:Nat),σ_ 10=jV (↑ah:Int)/\σ_ 0=.slice aj p0.length ak/\σ_ 3=.pointer (some ⟨b2,0,none⟩)/\σ_ 5=.slice am ai.length ap/\σ_ 8=.slice aj p0.length ak/\σ_ 9=jV (↑p0.length:Int)/\PHeap.Le U U_/\sW w U U_ [.blk b2 58 B0,.row am ap 3 1 (hD KL.encI ai)] w_) b8 ?_ ?_ ?_
 have bT:=bU.nilrow 3 1
 exact ⟨U,none,0,rfl,rfl,rfl,rfl,rfl,rfl,(zS _),(bT.pick [1,0] _ (by decide) rfl)⟩
 rintro ah ai c8 dd cI aI ⟨ao,am,ap,aF,bw,bx,bz,aV,aW,bh,ba⟩ cz
 have aS:Hid ((↑ah:Int) < (↑p0.length:Int)):=zD (wBh aI)
 replace aI:=zD aI
 have b9:Hid (w64 ((↑ah:Int) + 1)=(↑(ah + 1):Int)):=zD (by have h1:=aJ.out;have h2:=aS.out;rw [wAf] <;> omega)
 refine sR fL1 Z (oR Z (zK Z aF aW) (eN (zH (cT Z aS (kN (zH (zP (sR gBl Z (bnK cz fun af aZ ct=>?_)))))))))
 have bH:=bg.le bh
 have q:=bH.el (fun _=>rfl) (wBW aZ)
 obtain ⟨cK,cR,bK,bL⟩:=q
 refine oR Z (ZS Z aV bK aF ZQ Za (wCw aZ)) (oL Z (ba.ldCA (f:=0) bL Z Z Tryz.isAgg53 Za (us:=[jV af.Bib,jV af.Time]) Z Z) (ZI (cs:=[jV 0,jV 0]) Z Z Z Z Z yZ Z ba ?_))
 intro cJ aA bV
 let B1:List Value:=[jV af.Bib,jV af.Time]
 refine ZN (j:=0) (vs:=B1) Z Z Z Z bV Z Z Z Z Za (zJ Z) Z Z Z ?_
 intro bm bW
 let B2:Res:=.row am ap 3 1 (hD KL.encI ai)
 have bb:sW w U ao [.blk aA 53 B1,.blk b2 58 B0,B2] bm:=bW
 refine eN (rR (wFi (.fx 3 gBf .stop)) Z (oM Z bz (oR Z (zO Z Z Zs Z zB) (oL Z (bb.ldB (j:=0) Z Z Z zM (v:=jV af.Bib) Z) (ZM (pv:=[(0,jV af.Bib)]) (zs:=[jV 0]) (cs:=[jV af.Bib]) Z Z Z Z Z (wAI Z wAd) zN zB Zw Z Z Z Z Z bb ?_)))))
 intro bn br bX
 let B3:Res:=.row (some ⟨br,0,none⟩) 1 3 1 (hD KL.encI [af.Bib])
 have bc:sW w U ao [B3,.blk aA 53 B1,.blk b2 58 B0,B2] bn:=bX
 refine bnK ct fun bi bI cu=>yB (j:=3) (enc:=KL.encI) (xs:=ai) (ys:=[af.Bib]) (zs:=bi) rfl rfl rfl rfl rfl yO wIb rfl rfl rfl rfl rfl rfl bc rfl rfl rfl (bc.srcR (j:=0) rfl (by decide) (wAG (f:=KL.encI) (sz:=1) (fun _=>rfl) [af.Bib])) (fun _=>rfl) (fun _=>rfl) bI rfl ?_
 intro aK aT bp bY
 have bZ:sW w U ao [B3,.blk aA 53 B1,.blk b2 58 B0,.row aK aT 3 1 (hD KL.encI bi)] bp:=bY
 refine oA Z Z (zY (zd (zI (rR fL2 Z (oR Z (ZE (zQ Z aF Z) (congrArg (jV) b9.out)) (oM Z Z (zY ?_)))))))
 cases cu
 exact zI ⟨rfl,⟨ao,aK,aT,rfl,bw,bx,rfl,aV,aW,bh,(bZ.pick [2,3] _ (by decide) rfl)⟩⟩
 rintro de bq ⟨ay,aL,aU,bC,aX,aY,bA,cL,bB,cA,be⟩
 have bu:Hid (¬ ((↑(((↑p0.length:Int):Int) - 0).toNat:Int) < (↑p0.length:Int))):=zD (wBG)
 refine sR fL1 Z (oR Z (zK Z bC bB) (eN (zH (cF Z bu (zr (zV (zV (zk (zI (zH (zP (sR fL4 Z (oM Z aX (oR Z (zw Z Z ZQ) (oR Z (Zy Z Z Z) (oA Z Z (eN (ifc cr ?_ ?_))))))))))))))))))
 intro aD cw
 refine cT Z aD (sR fL1 Z (oA Z Z (eN (zR (zq (zc ?_))))))
 cases cw
 exact ⟨rfl,_,(zh rfl),ay,_,(be.pick [] _ (by decide) rfl),rfl,rfl⟩
 intro aD cx
 refine cF Z aD (sR (.fl 0 (.fx 1 (fC2_5 (.fx 6 (wNV (.fx 12 (wML (.nil)) .stop)) .stop)) .stop)) Z (oM Z aX ?_))
 have bJ:=bg.le cA
 have bM:FnOK Tryz.prog ay (.func (.func 142) #[] #[]) wMl wMm wBd:=⟨142,[],[],rfl,Tryz.call142,fun U1 w1 x y vs le hs ha hm=>by obtain rfl:=ha;exact wFu x w1 U1 hs  hm⟩
 refine bnK cx fun cX bD ca=>zG 0 Z Z Z Z (zF Z Z Tryz.call141 (zA Z (zA Z zL)) Z) be (fun hs=>wEM p0 aj ak wBd (.func (.func 142) #[] #[]) bq ay hs bJ bM bD) (.inr Z) ?_
 rintro av cC cS aQ cM bN ⟨rfl,rfl⟩
 let B4:Res:=.row aL aU 3 1 (hD KL.encI aq)
 have aG:sW w U av [.blk b2 58 B0,B4] aQ:=bN
 refine oR Z (ZV Z Z) (oM Z Z (ifc ca ?_ ?_))
 intro J cc
 refine zT Z Z Z (zU Z Z (nC J.out)) (fun _=>zO Z aY Tryz.runUnderlying58 Z zB) (zn Z Z Z (zU Z Z (nC J.out)) (aG.ldB (j:=0) Z Z Z zM (v:=jV p1.Unit) Z) Z (bnK cc fun cY bE cd=>zG 0 Z Z Z (zU Z Z (nC J.out)) (zF Z Z Tryz.call143 (zA Z (zA Z (zA Z zL))) Z) aG (fun hs=>wEw p1.Unit 1 600 aQ av hs bE) (.inr Z) ?_))
 rintro aw cD cU aR cN bO ⟨rfl,rfl⟩
 have aH:sW w U aw [.blk b2 58 B0,B4] aR:=bO
 refine zT Z Z Z (zU Z Z (nC J.out)) (fun _=>ZV Z Z) (oR Z (zX Z (nC J.out) Z) (oM Z Z (ifc cd ?_ ?_)))
 intro aa cg
 refine zT Z Z Z (zU Z Z (nC aa.out)) (fun _=>zO Z aY Tryz.runUnderlying58 Z zB) (zn Z Z Z (zU Z Z (nC aa.out)) (aH.ldB (j:=0) Z Z Z zM (v:=jV p1.Limit) Z) Z (bnK cg fun cZ bF ch=>zG 0 Z Z Z (zU Z Z (nC aa.out)) (zF Z Z Tryz.call143 (zA Z (zA Z (zA Z zL))) Z) aH (fun hs=>wEw p1.Limit 0 360000 aR aw hs bF) (.inr Z) ?_))
 rintro aO cE cV az cO bP ⟨rfl,rfl⟩
 have a7:sW w U aO [.blk b2 58 B0,B4] az:=bP
 refine zT Z Z Z (zU Z Z (nC aa.out)) (fun _=>ZV Z Z) (oR Z (zX Z (nC aa.out) Z) (oA Z Z (eN (ifc ch ?_ ?_))))
 intro aB ci
 refine ze (nC aB.out) (sR (.fl 0 gBe) Z (oM Z bA ?_))
 have q:=a7.freezeR (k:=1) (n:=aq.length) rfl (wAG (f:=KL.encI) (sz:=1) (fun _=>rfl) aq) (by decide)
 obtain ⟨aP,cP,cy,bQ⟩:=q
 have bR:sW w U aP [.blk b2 58 B0] az:=bQ
 refine bnK ci fun c7 bG cj=>zG 0 Z Z Z Z (zF Z Z Tryz.call144 (zA Z zL) Z) bR (fun hs=>wHK aq aL aU az aP hs cy bG) (.inr Z) ?_
 rintro ax cG cW bk cQ bS ⟨rfl,rfl⟩
 have a8:sW w U ax [.blk b2 58 B0] bk:=bS
 refine oA Z Z (eN (ifc cj ?_ ?_))
 intro aC cm
 refine ZB (congrArg nE aC.out) (sR fL1 Z (oA Z Z (eN (zR (zq (zc ?_))))))
 cases cm
 exact ⟨rfl,_,(zh rfl),ax,_,(a8.pick [] _ (by decide) rfl),rfl,rfl⟩
 intro aC cn
 refine ze (congrArg nE (nH.2 aC.out)) (zo (zd (zI (sR fL1 Z (oA Z Z (eN (zR ?_)))))))
 cases cn
 exact ⟨rfl,_,(zh rfl),ax,_,(a8.pick [] _ (by decide) rfl),rfl,rfl⟩
 intro aB co
 refine ZB (nF (aB.out)) (sR fL1 Z (oA Z Z (eN (zR (zq (zc ?_))))))
 cases co
 exact ⟨rfl,_,(zh rfl),aO,_,(a7.pick [] _ (by decide) rfl),rfl,rfl⟩
 intro aa cp
 refine ZA Z Z Z (zf Z Z (nF (aa.out)) Z) (ZA Z Z Z (zf Z Z (nF (aa.out)) Z) (Zg Z Z Z (zf Z Z (nF (aa.out)) Z) (ZA Z Z Z (zf Z Z (nF (aa.out)) Z) (oR Z (zb Z (nF (aa.out)) Z) (oA Z Z (eN (ZB Z (sR fL1 Z (oA Z Z (eN (zR (zq (zc ?_)))))))))))))
 cases cp
 exact ⟨rfl,_,(zh rfl),aw,_,(aH.pick [] _ (by decide) rfl),rfl,rfl⟩
 intro J cq
 refine ZA Z Z Z (zf Z Z (nF (J.out)) Z) (ZA Z Z Z (zf Z Z (nF (J.out)) Z) (Zg Z Z Z (zf Z Z (nF (J.out)) Z) (ZA Z Z Z (zf Z Z (nF (J.out)) Z) (oR Z (zb Z (nF (J.out)) Z) (oM Z Z (oN Z (oN Z (Zg Z Z Z (zf Z Z Z Z) (oN Z (oR Z (zb Z Z Z) (oA Z Z (eN (ZB Z (sR fL1 Z (oA Z Z (eN (zR (zq (zc ?_)))))))))))))))))))
 cases cq
 exact ⟨rfl,_,(zh rfl),av,_,(aG.pick [] _ (by decide) rfl),rfl,rfl⟩
theorem wGJ (J:List wAJ) (af:Option Addr) (ag:Nat) (p1:wAX) (w:World) (U:PHeap) (hS:St0 w U []) (aD:Sl U 2 af ag J.length (hD wAt J)) {r:(List Int) × Int} (hm:wCj J p1=some r):Gv Tryz.prog 37 [.slice af J.length ag,.agg #[jV p1.Unit,jV p1.Limit]] w (wBu w [] U (fun U_ L_ v=>∃ (A0:Option Addr) (c0:Nat),v=.tuple #[.slice A0 r.1.length c0,jV r.2]/\L_=[.row A0 c0 3 1 (hD KL.encI r.1)])):=by
 unfold wCj at hm
 refine Gv.of Tryz.func37 Z Tryz.ntmps37 Tryz.results37 Z (sR gBk Z ?_)
 let B0:List Value:=[jV p1.Unit,jV p1.Limit]
 refine ZG (cs:=B0) rfl rfl rfl rfl rfl rfl (by rfl) hS ?_
 intro W1 b2 be
 refine oA Z Z (oA Z Z (eN (zH (sR gBm Z (oM Z Z (oL Z (be.ldBA (j:=0) Z Z Z Tryz.isAgg58 Tryz.sizeOf58 (vs:=B0) Z Z) (bnK hm fun x5 h6 cH=>zG 0 Z Z Z Z (zF Z Z Tryz.call92 (zA Z (zA Z zL)) Z) be (fun hs=>wGY J af ag p1 W1 U hs aD h6) (.inr Z) ?_)))))))
 rintro U8 L9 df bu bj cc ⟨rfl,rfl⟩
 have bb:sW w U U8 [.blk b2 58 B0] bu:=cc
 refine oA Z Z (eN (sR fL2 Z (oM Z Z (oR Z (Zf Z Z Z) (eN (ifc cH ?_ ?_))))))
 intro az cC
 refine ze (zt (fun h=>h az.out)) (kN (sR fL1 Z (oA Z Z (eN (zH (sR fL3 Z (oM Z Z (oR Z (zw Z Z ZQ) (oM Z Z (eN (zP (bnK cC fun ah cr cE=>?_))))))))))))
 have q:=wBY cr
 obtain ⟨aH,ct⟩:=q
 replace aH:=zD aH
 refine CK.forN' (fun ai bn σ_ w_=>∃ (U_:PHeap),σ_ 22=jV (↑ai:Int)/\σ_ 0=.slice af J.length ag/\σ_ 3=.pointer (some ⟨b2,0,none⟩)/\σ_ 7=jV bn/\σ_ 20=.slice af J.length ag/\σ_ 21=jV (↑J.length:Int)/\PHeap.Le U8 U_/\sW w U U_ [.blk b2 58 B0] w_) ct ?_ ?_ ?_
 exact ⟨U8,Z,Z,Z,Z,Z,Z,(zS _),bb⟩
 rintro ai bn dm dr cR aG ⟨aO,aC,bI,bJ,bK,aX,aY,bk,bg⟩ cK
 have aT:Hid ((↑ai:Int) < (↑J.length:Int)):=zD (wBh aG)
 replace aG:=zD aG
 have cy:Hid (w64 ((↑ai:Int) + 1)=(↑(ai + 1):Int)):=zD (by have h1:=aH.out;have h2:=aT.out;rw [wAf] <;> omega)
 refine sR fL1 Z (oR Z (zK Z aC aY) (eN (zH (cT Z aT (kN (zH (zP (sR gBl Z (bnK cK fun an a7 cG=>?_)))))))))
 have bW:=aD.le bj
 have bX:=bW.le bk
 have q:=bX.el (fun _=>rfl) (wBW a7)
 obtain ⟨cW,de,b4,b9⟩:=q
 refine oR Z (ZS Z aX b4 aC ZQ Za (wCw a7)) (oL Z (bg.ldCA (f:=0) b9 Z Z Tryz.isAgg53 Za (us:=[jV an.Bib,jV an.Time]) Z Z) (ZI (cs:=[jV 0,jV 0]) Z Z Z Z Z yZ Z bg ?_))
 intro cS bB co
 let B1:List Value:=[jV an.Bib,jV an.Time]
 refine ZN (j:=0) (vs:=B1) Z Z Z Z co Z Z Z Z Za (zJ Z) Z Z Z ?_
 intro bz cp
 have bh:sW w U aO [.blk bB 53 B1,.blk b2 58 B0] bz:=cp
 refine eN (rR fL5 Z (oM Z bK (oR Z (zO Z Z Zs Z zB) (oL Z (bh.ldB (j:=0) Z Z Z zM (v:=jV an.Time) Z) (oR Z (Runs.min Z Z Z) (oA Z Z (zY (zd (zI (rR fL2 Z (oR Z (ZE (zQ Z aC Z) (congrArg (jV) cy.out)) (oM Z Z (zY ?_)))))))))))))
 cases cG
 exact zI ⟨rfl,⟨aO,rfl,bI,bJ,rfl,aX,aY,bk,(bh.pick [1] _ (by decide) rfl)⟩⟩
 rintro dt cU ⟨aP,bQ,bL,bM,bN,c7,bO,cL,cq⟩
 have bE:Hid (¬ ((↑(((↑J.length:Int):Int) - 0).toNat:Int) < (↑J.length:Int))):=zD (wBG)
 refine sR fL1 Z (oR Z (zK Z bQ bO) (eN (zH (cF Z bE (zr (zV (zV (zk (zI (sR fL1 Z (oA Z Z (eN (zH (sR fL3 Z (oM Z bL (oR Z (zw Z Z ZQ) (oM Z Z (eN (zP (bnK cE fun dn cu cI=>?_))))))))))))))))))))
 have q:=wBY cu
 obtain ⟨aI,cw⟩:=q
 replace aI:=zD aI
 refine CK.forN' (fun aj ak σ_ w_=>∃ (U_:PHeap) (ao:Option Addr) (av:Nat),σ_ 33=jV (↑aj:Int)/\σ_ 3=.pointer (some ⟨b2,0,none⟩)/\σ_ 7=jV ah/\σ_ 10=.slice ao ak.length av/\σ_ 31=.slice af J.length ag/\σ_ 32=jV (↑J.length:Int)/\PHeap.Le aP U_/\sW w U U_ [.blk b2 58 B0,.row ao av 3 1 (hD KL.encI ak)] w_) cw ?_ ?_ ?_
 have ca:=cq.nilrow 3 1
 exact ⟨aP,none,0,rfl,bM,bN,rfl,rfl,rfl,(zS _),(ca.pick [1,0] _ (by decide) rfl)⟩
 rintro aj ak di dp cN aF ⟨aq,ao,av,aB,aA,aU,bF,aV,aW,bi,a8⟩ cJ
 have aR:Hid ((↑aj:Int) < (↑J.length:Int)):=zD (wBh aF)
 replace aF:=zD aF
 have cx:Hid (w64 ((↑aj:Int) + 1)=(↑(aj + 1):Int)):=zD (by have h1:=aI.out;have h2:=aR.out;rw [wAf] <;> omega)
 refine sR fL1 Z (oR Z (zK Z aB aW) (eN (zH (cT Z aR (kN (zH (zP (sR gBl Z (bnK cJ fun ab aZ cz=>?_)))))))))
 have bR:=aD.le bj
 have bS:=bR.le cL
 have bT:=bS.le bi
 have q:=bT.el (fun _=>rfl) (wBW aZ)
 obtain ⟨cV,dd,bZ,b8⟩:=q
 refine oR Z (ZS Z aV bZ aB ZQ Za (wCw aZ)) (oL Z (a8.ldCA (f:=0) b8 Z Z Tryz.isAgg53 Za (us:=[jV ab.Bib,jV ab.Time]) Z Z) (ZI (cs:=[jV 0,jV 0]) Z Z Z Z Z yZ Z a8 ?_))
 intro cO ay cd
 let B2:List Value:=[jV ab.Bib,jV ab.Time]
 refine ZN (j:=0) (vs:=B2) Z Z Z Z cd Z Z Z Z Za (zJ Z) Z Z Z ?_
 intro ax cg
 let B3:Res:=.row ao av 3 1 (hD KL.encI ak)
 have ba:sW w U aq [.blk ay 53 B2,.blk b2 58 B0,B3] ax:=cg
 refine eN (sR fL5 rfl (zT rfl rfl rfl rfl (fun _=>zO rfl rfl Zs rfl zB) (zn rfl rfl rfl rfl (ba.ldB (j:=0) rfl rfl rfl zM (v:=jV ab.Time) rfl) rfl (zC rfl rfl rfl rfl rfl aU (zT rfl rfl rfl rfl (fun _=>zg rfl rfl rfl) (Zz rfl rfl rfl rfl rfl rfl (eN (zx zp [3,3,3,3,1,3,3,3,1,3,2,0,3] (wNL (.fx 10 (.fx 11 (.fl 12 .nil) .stop) .stop)) (by kernel_rfl) ?_))))))))
 have aw:=ba.drew
 generalize hw_W137:({ ax with drawn:=ax.drawn + 1 }:World)=cP at aw ⊢
 refine oM Z bF (oM Z Z (oM Z Z (oR Z (zO Z aA Tryz.runUnderlying58 Z zB) (oL Z (aw.ldB (j:=1) Z Z Z zM (v:=jV p1.Unit) Z) (bnK cz fun am bU cA=>oR Z (Runs.rem Z Z Z bU) (oR Z (zg Z Z Z) (oR Z (zO Z aA Tryz.runUnderlying58 Z zB) (oL Z (aw.ldB (j:=1) Z Z Z zM (v:=jV p1.Limit) Z) (oR Z (Runs.min Z Z Z) (ZM (pv:=[(0,jV (min (w64 ((w64 (ab.Time - ah)) - am)) p1.Limit))]) (zs:=[jV 0]) (cs:=[jV (min (w64 ((w64 (ab.Time - ah)) - am)) p1.Limit)]) Z Z Z Z Z (wAI Z wAd) zN zB Zw Z Z Z Z Z aw ?_))))))))))
 intro bw bA ch
 let B4:Res:=.row (some ⟨bA,0,none⟩) 1 3 1 (hD KL.encI [min (w64 ((w64 (ab.Time - ah)) - am)) p1.Limit])
 have bc:sW w U aq [B4,.blk ay 53 B2,.blk b2 58 B0,B3] bw:=ch
 refine bnK cA fun bm bV cB=>yB (j:=3) (enc:=KL.encI) (xs:=ak) (ys:=[min (w64 ((w64 (ab.Time - ah)) - am)) p1.Limit]) (zs:=bm) rfl rfl rfl rfl rfl yO wIb rfl rfl rfl rfl rfl rfl bc rfl rfl rfl (bc.srcR (j:=0) rfl (by decide) (wAG (f:=KL.encI) (sz:=1) (fun _=>rfl) [min (w64 ((w64 (ab.Time - ah)) - am)) p1.Limit])) (fun _=>rfl) (fun _=>rfl) bV rfl ?_
 intro aK aS bx ci
 have cj:sW w U aq [B4,.blk ay 53 B2,.blk b2 58 B0,.row aK aS 3 1 (hD KL.encI bm)] bx:=ci
 refine oA Z Z (zY (zd (zI (rR fL2 Z (oR Z (ZE (zQ Z aB Z) (congrArg (jV) cx.out)) (oM Z Z (zY ?_)))))))
 cases cB
 exact zI ⟨rfl,⟨aq,aK,aS,rfl,aA,aU,rfl,aV,aW,bi,(cj.pick [2,3] _ (by decide) rfl)⟩⟩
 rintro dq cQ ⟨bq,bp,bC,bP,cX,cY,bG,cZ,bH,c8,cm⟩
 have bD:Hid (¬ ((↑(((↑J.length:Int):Int) - 0).toNat:Int) < (↑J.length:Int))):=zD (wBG)
 refine sR fL1 Z (oR Z (zK Z bP bH) (eN (zH (cF Z bD (zr (zV (zV (zk (zI (sR fL3 Z (oM Z bG (oA Z Z (oA Z Z (eN (zR ?_)))))))))))))))
 cases cI
 exact ⟨rfl,_,(wHg rfl rfl),bq,_,(cm.pick [1] _ (by decide) rfl),bp,bC,rfl,rfl⟩
 intro az cD
 refine cT Z az (sR fL3 Z (oM Z Z (oA Z Z (oA Z Z (eN (zR (zc ?_)))))))
 have cn:=bb.nilrow 3 1
 cases cD
 exact ⟨rfl,_,(wHg rfl rfl),U8,_,(cn.pick [0] _ (by decide) rfl),none,0,rfl,rfl⟩
theorem wHz (J:List Int) (ai:Option Addr) (aj:Nat) (w:World) (U:PHeap) (hS:St0 w U []) (aI:Sl U 1 ai aj J.length (hD KL.encI J)) {r:Int} (hm:wDr J=some r):Gv Tryz.prog 40 [.slice ai J.length aj] w (wBu w [] U (fun U_ L_ v=>v=jV r/\L_=[])):=by
 unfold wDr at hm
 refine Gv.of Tryz.func40 Z Tryz.ntmps40 Tryz.results40 Z (sR fL1 Z (oA Z Z (eN (sR fL1 Z (oA Z Z (eN (zH (sR fL3 Z (oM Z Z (oR Z (zw Z Z zN) (oM Z Z (eN (zP ?_)))))))))))))
 have q:=wDW hm
 obtain ⟨r3,af⟩:=q
 have q:=wDV af
 obtain ⟨ah,aL⟩:=q
 replace ah:=zD ah
 refine yW (fun k2 _ σ_ w_=>∃ (U_:PHeap),σ_ 8=jV (↑k2:Int)/\σ_ 3=jV 0/\σ_ 6=.slice ai J.length aj/\σ_ 7=jV (↑J.length:Int)/\PHeap.Le U U_/\sW w U U_ [] w_) aL ?_ ?_ ?_
 exact ⟨U,Z,Z,Z,Z,(zS _),hS⟩
 rintro k2 ⟨⟩ a7 ba W8 ag ⟨ak,ac,an,ao,ap,aw,ae⟩ av aJ
 try dsimp only at av
 have am:Hid ((↑k2:Int) < (↑J.length:Int)):=zD (wBh ag)
 replace ag:=zD ag
 have aM:Hid (w64 ((↑k2:Int) + 1)=(↑(k2 + 1):Int)):=zD (by have h1:=ah.out;have h2:=am.out;rw [wAf] <;> omega)
 refine sR fL1 Z (oR Z (zK Z ac ap) (eN (zH (cT Z am (kN (zH (zP (sR fL3 Z (bnK av fun aS aq aN=>?_)))))))))
 have aD:=aI.le aw
 have q:=aD.el (fun _=>rfl) (wBW aq)
 obtain ⟨aV,aY,aF,aG⟩:=q
 refine oR Z (ZS Z ao aF ac zN zB (wCw aq)) (oL Z (ae.ldC (f:=0) aG (v:=jV aS) Z Z zM Z) (oA Z Z (eN (sR fL3 Z (oM Z Z (oM Z an (oR Z (Zf Z Z Z) (eN (ifc aN ?_ ?_)))))))))
 intro ab aO
 refine ze (zt (fun h=>h ab.out)) (zo (zd (zI (rR fL2 Z (oR Z (ZE (zQ Z ac Z) (congrArg (jV) aM.out)) (oM Z Z (zY ?_)))))))
 have q:=hJ aO
 obtain rfl:=q
 exact zI ⟨Z,_,Z,⟨ak,Z,an,ao,ap,aw,ae⟩⟩
 intro ab aP
 refine cT Z ab (sR fL2 Z (oM Z Z (oA Z Z (eN (zR (zq (zc ?_)))))))
 have q:=wAe aP
 obtain ⟨aR,aQ,az⟩:=q
 have q:=wDf hm af (aJ aR az)
 obtain rfl:=q
 refine zc (zq (zc ?_))
 have hE:=hJ aQ;first | subst r | cases hE
 exact ⟨Z,_,(zh Z),ak,_,ae,Z,Z⟩
 rintro ⟨⟩ a8 aT ⟨ax,aC,aA,aW,aB,aX,aH⟩ aK
 have au:=wEB hm af aK
 try dsimp only at au
 have ay:Hid (¬ ((↑(((↑J.length:Int):Int) - 0).toNat:Int) < (↑J.length:Int))):=zD (wBG)
 refine sR fL1 Z (oR Z (zK Z aC aB) (eN (zH (cF Z ay (zr (zV (zV (zk (zI (sR fL2 Z (oM Z aA (oA Z Z (eN (zR ?_))))))))))))))
 cases au
 exact ⟨Z,_,(zh Z),ax,_,aH,Z,Z⟩
end Go.Proofs.YtlmekamhphnmjaaGreat
