import Derived.Test.YtlmekamhphnmjaaGreatT5
import Derived.Test.YtlmekamhphnmjaaGreatT4
import Derived.Test.YtlmekamhphnmjaaGreatT6
set_option linter.all false
open List renaming flatMap->hD,length_set->nA,set->nB,getElem_cons_succ->nD,getElem_cons_zero->nE,getElem_toArray->nG
open Option.some renaming inj->hM
open Go.Value renaming bool->nH
open Bool renaming eq_false_iff->nI
open Int renaming toNat_natCast->nJ
open Eq renaming trans->nK
namespace Go.Proofs.YtlmekamhphnmjaaGreat
open Go.KL
def gBz:Sch:=.fx 0 (.fl 1 .nil) .stop
def gCa:Sch:=.fx 3 (.fl 4 .nil) .stop
def gCb:Sch:=.fx 5 (.fl 6 .nil) .stop
def gCc:Sch:=.fx 1 (.fx 2 .nil .stop) .stop
def gCd:Sch:=.fl 0 (.fx 1 .nil .stop)
def gCe:Sch:=.fx 7 (.fx 8 (.fl 9 .nil) .stop) .stop
def gCf:Sch:=.fx 0 (.fx 1 (.fl 2 .nil) .stop) .stop
def gCg:Sch:=.fx 0 gCc .stop
def gCh:Sch:=.fl 0 (.fl 1 (.fx 2 .nil .stop))
def gCi:Sch:=.fx 15 (.fl 16 (.fx 17 .nil .stop)) .stop
def gCj:Sch:=.fx 11 (.fl 12 (.fl 13 .nil)) .stop
def gCk:Sch:=.fl 0 (.fl 1 (.fx 2 (.fx 3 .nil .stop) .stop))
def gCl:Sch:=.fx 0 (.fl 3 (.fl 4 (.fx 9 (.fx 10 (.fl 11 .nil) .stop) .stop))) .stop
set_option maxHeartbeats 4000000
theorem wGz (p0:wAC) (p1:wAX) (ay:Nat) (bq:Value) (pb1f:Nat) (pb1fe:Nat) (pq1fd:Nat) (pA1fd_0_1:Option Addr) (pc1fd_0_1:Nat) (pA1fd_0_2:Option Addr) (pc1fd_0_2:Nat) (pm1fd_1:Nat) (pe1fd_1:Array MapEntry) (pk1fd_1:Nat) (pm1fd_2:Nat) (pe1fd_2:Array MapEntry) (pk1fd_2:Nat) (pb1fv:Nat) (br:Value) (bs:Value) (bu:Value) (p2:List Int) (az:Nat) (ai:Option Addr) (aj:Nat) (w:World) (U:PHeap) (hS:St0 w U []) (aZ:Cl U ay 0 [bq,.func (.func 87) #[] #[.pointer (some ⟨pb1f,0,none⟩)],br,bs,bu]) (ba:Cl U pb1f 0 [.func (.func 84) #[] #[.pointer (some ⟨pb1fe,0,none⟩),.pointer (some ⟨pb1fv,0,none⟩)]]) (bb:Cl U pb1fe 0 [.pointer (some ⟨pq1fd,0,none⟩)]) (be:Cl U pq1fd 0 [jV p1.Record.Deadline,.slice pA1fd_0_1 p1.Record.Skiers.length pc1fd_0_1,.slice pA1fd_0_2 p1.Record.Decisions.length pc1fd_0_2,.map (some pm1fd_1),.map (some pm1fd_2)]) (bg:Sl U 2 pA1fd_0_1 pc1fd_0_1 p1.Record.Skiers.length (hD wAF p1.Record.Skiers)) (bh:Sl U 6 pA1fd_0_2 pc1fd_0_2 p1.Record.Decisions.length (hD wAE p1.Record.Decisions)) (bi:MpF U pm1fd_1 pe1fd_1 pk1fd_1 wFZ wFo p1.at_) (bj:MpF U pm1fd_2 pe1fd_2 pk1fd_2 wFa wFp p1.about) (bk:Cl U az 0 [.slice ai p2.length aj]) (bm:Sl U 1 ai aj p2.length (hD KL.encI p2)) {r:Bool} (hm:wEU p0 p1 p2=some r):Gv Tryz.prog 88 [.agg #[jV p0.Number,jV p0.Kind,jV p0.Minute,jV p0.Bib,jV p0.Much,jV p0.About],.pointer (some ⟨ay,0,none⟩),.pointer (some ⟨az,0,none⟩)] w (wBj w [] U (fun U_ L_ v=>v=.bool r/\L_=[])):=by
 unfold wEU at hm
 refine Gv.of Tryz.func88 Z Tryz.ntmps88 Tryz.results88 Z (sR gBz Z ?_)
 let B0:List Value:=[jV p0.Number,jV p0.Kind,jV p0.Minute,jV p0.Bib,jV p0.Much,jV p0.About]
 refine ZB (cs:=B0) rfl rfl rfl rfl rfl rfl (by rfl) hS ?_
 intro W1 b2 ao
 refine oA Z Z (eN (zK (sR (wEz (.fx 3 (wQA gCe) .stop)) Z (oR Z (zC Z Z ZP Z Tryz.sizeOf134) (oL Z (ao.ldC (f:=1) aZ (v:=.func (.func 87) #[] #[.pointer (some ⟨pb1f,0,none⟩)]) Z Z Tryz.isAgg134 Z) (oL Z (ao.ldBA (j:=0) Z Z Z ZZ zw (vs:=B0) Z Z) ?_))))))
 have q:=bnd hm
 obtain ⟨⟨x5,x6⟩,h7,aw⟩:=q
 try dsimp only at aw
 refine zI 0 Z Z Z Z (zJ Z Z Tryz.call87 (zA Z zM) Z) ao (fun hs=>wGy p0 p1 pb1f pb1fe pq1fd pA1fd_0_1 pc1fd_0_1 pA1fd_0_2 pc1fd_0_2 pm1fd_1 pe1fd_1 pk1fd_1 pm1fd_2 pe1fd_2 pk1fd_2 pb1fv W1 U hs ba bb be bg bh bi bj h7) (.inr Z) ?_
 rintro U9 bx bC aN ax aT ⟨rfl,rfl⟩
 have aU:sW w U U9 [.blk b2 46 B0] aN:=aT
 refine oM Z Z (oR Z (ZL Z Z (v:=.agg #[jV x5.Number,jV x5.Kind,jV x5.Minute,jV x5.Bib,jV x5.Much,jV x5.About]) Z) (oR Z (ZL Z Z (v:=.bool x6) Z) (zy (cs:=[jV 0,jV 0,jV 0,jV 0,jV 0,jV 0]) Z Z Z Z Z yH Z aU ?_)))
 intro bA au aV
 let B1:List Value:=[jV x5.Number,jV x5.Kind,jV x5.Minute,jV x5.Bib,jV x5.Much,jV x5.About]
 refine ZA (j:=0) (vs:=B1) Z Z Z Z aV Z Z Z Z zw (zB Z) Z Z Z ?_
 intro aq aW
 have ag:sW w U U9 [.blk au 46 B1,.blk b2 46 B0] aq:=aW
 refine oA Z Z (eN (sR fL1 Z (oM Z Z (eN (ifc aw ?_ ?_)))))
 intro an av
 refine zx (congrArg nH an.out) (sR fL4 Z (oR Z (zC Z Z zd Z Zi) (oL Z (ag.ldB (j:=0) Z Z Z Zo (v:=jV x5.Kind) Z) (oR Z (Zw Z Z Z) (oA Z Z (eN (zP (zZ ?_))))))))
 first | (obtain rfl:=hM av) | cases av
 exact ⟨rfl,_,(zj rfl),U9,_,(ag.pick [] _ (by decide) rfl),rfl,rfl⟩
 intro an bn
 refine zg (congrArg nH (nI.2 an.out)) (kN (sR (wEz gCa) Z ?_))
 have aP:=bk.le ax
 refine oL Z (ag.ldC (f:=0) aP (v:=.slice ai p2.length aj) Z Z zu Z) (oR Z (zC Z Z zd Z zD) (oL Z (ag.ldB (j:=1) Z Z Z zN (v:=jV p0.Number) Z) ?_))
 have aQ:=bm.le ax
 refine bnK bn fun bE aR bp=>zI 0 Z Z Z Z (zJ Z Z Tryz.call32 (zA Z (zA Z zM)) Z) ag (fun hs=>wEE p2 ai aj p0.Number aq U9 hs aQ aR) (.inr Z) ?_
 rintro ap bz bD aO bB aX ⟨rfl,rfl⟩
 have aY:sW w U ap [.blk au 46 B1,.blk b2 46 B0] aO:=aX
 refine oA Z Z (eN (zP ?_))
 have hE:=hM bp;first | subst r | cases hE
 exact ⟨rfl,_,(zj rfl),ap,_,(aY.pick [] _ (by decide) rfl),rfl,rfl⟩
theorem wGT (p0:Int) (w:World) (U:PHeap) (hS:St0 w U [])  {r:Bool} (hm:wCZ p0=some r):Gv Tryz.prog 90 [jV p0] w (wBj w [] U (fun U_ L_ v=>v=.bool r/\L_=[])):=by
 unfold wCZ at hm
 refine Gv.of Tryz.func90 Z Tryz.ntmps90 Tryz.results90 Z (sR fL1 Z (oA Z Z (eN (sR fL3 Z (oM Z Z (oR Z (Zw Z Z Z) (oA Z Z (eN (zP ?_)))))))))
 first | (obtain rfl:=hM hm) | cases hm
 exact ⟨Z,_,(zj Z),U,_,hS,Z,Z⟩
theorem wHA (p0:wAC) (p1:wAX) (ao:Nat) (pb1e:Nat) (pq1d:Nat) (pA1d_0_1:Option Addr) (pc1d_0_1:Nat) (pA1d_0_2:Option Addr) (pc1d_0_2:Nat) (pm1d_1:Nat) (pe1d_1:Array MapEntry) (pk1d_1:Nat) (pm1d_2:Nat) (pe1d_2:Array MapEntry) (pk1d_2:Nat) (pb1v:Nat) (w:World) (U:PHeap) (hS:St0 w U []) (aP:Cl U ao 0 [.func (.func 84) #[] #[.pointer (some ⟨pb1e,0,none⟩),.pointer (some ⟨pb1v,0,none⟩)]]) (aQ:Cl U pb1e 0 [.pointer (some ⟨pq1d,0,none⟩)]) (aR:Cl U pq1d 0 [jV p1.Record.Deadline,.slice pA1d_0_1 p1.Record.Skiers.length pc1d_0_1,.slice pA1d_0_2 p1.Record.Decisions.length pc1d_0_2,.map (some pm1d_1),.map (some pm1d_2)]) (aS:Sl U 2 pA1d_0_1 pc1d_0_1 p1.Record.Skiers.length (hD wAF p1.Record.Skiers)) (aT:Sl U 6 pA1d_0_2 pc1d_0_2 p1.Record.Decisions.length (hD wAE p1.Record.Decisions)) (aU:MpF U pm1d_1 pe1d_1 pk1d_1 wFZ wFo p1.at_) (aV:MpF U pm1d_2 pe1d_2 pk1d_2 wFa wFp p1.about) {r:wAC × Bool} (hm:wEV p0 p1=some r):Gv Tryz.prog 89 [.agg #[jV p0.Number,jV p0.Kind,jV p0.Minute,jV p0.Bib,jV p0.Much,jV p0.About],.pointer (some ⟨ao,0,none⟩)] w (wBj w [] U (fun U_ L_ v=>v=.tuple #[.agg #[jV r.1.Number,jV r.1.Kind,jV r.1.Minute,jV r.1.Bib,jV r.1.Much,jV r.1.About],.bool r.2]/\L_=[])):=by
 unfold wEV at hm
 refine Gv.of Tryz.func89 Z Tryz.ntmps89 Tryz.results89 Z (sR gCf Z ?_)
 let B0:List Value:=[jV p0.Number,jV p0.Kind,jV p0.Minute,jV p0.Bib,jV p0.Much,jV p0.About]
 refine ZB (cs:=B0) rfl rfl rfl rfl rfl rfl (by rfl) hS ?_
 intro W1 b2 aO
 let B1:List Value:=[jV 0,jV 0,jV 0,jV 0,jV 0,jV 0]
 refine zy (cs:=B1) Z Z Z Z Z yH Z aO ?_
 intro W5 b6 ah
 refine oA Z Z (eN (sR (.fl 0 (.fl 1 (.fx 2 (.fl 3 (.fl 4 gCb)) .stop))) Z (oL Z (ah.ldC (f:=0) aP (v:=.func (.func 84) #[] #[.pointer (some ⟨pb1e,0,none⟩),.pointer (some ⟨pb1v,0,none⟩)]) Z Z Tryz.isAgg219 Z) (oL Z (ah.ldBA (j:=1) Z Z Z ZZ zw (vs:=B0) Z Z) ?_))))
 have ay:FnOK Tryz.prog U (.func (.func 90) #[] #[]) wOY wOZ wCZ:=⟨90,[],[],rfl,Tryz.call90,fun U1 w1 x y vs le hs ha hm=>by obtain rfl:=ha;exact wGT x w1 U1 hs  hm⟩
 have q:=bnd hm
 obtain ⟨⟨ab,ap⟩,ax,an⟩:=q
 try dsimp only at an
 refine zI 0 Z Z Z Z (zJ Z Z Tryz.call84 (zA Z (zA Z zM)) Z) ah (fun hs=>wFH p0 wCZ (.func (.func 90) #[] #[]) p1 pb1e pq1d pA1d_0_1 pc1d_0_1 pA1d_0_2 pc1d_0_2 pm1d_1 pe1d_1 pk1d_1 pm1d_2 pe1d_2 pk1d_2 () pb1v W5 U hs ay aQ aR aS aT aU aV ax) (.inr Z) ?_
 rintro ag aX ba au aZ az ⟨rfl,rfl⟩
 have aM:sW w U ag [.blk b6 46 B1,.blk b2 46 B0] au:=az
 refine oR Z (ZL Z Z (v:=.agg #[jV ab.Number,jV ab.Kind,jV ab.Minute,jV ab.Bib,jV ab.Much,jV ab.About]) Z) (oR Z (ZL Z Z (v:=.bool ap) Z) ?_)
 let B2:List Value:=[jV ab.Number,jV ab.Kind,jV ab.Minute,jV ab.Bib,jV ab.Much,jV ab.About]
 refine ZA (j:=0) (vs:=B2) Z Z Z Z aM Z Z Z Z zw (zB Z) Z Z Z ?_
 intro av aN
 have am:sW w U ag [.blk b6 46 B2,.blk b2 46 B0] av:=aN
 refine oA Z Z (eN (zP ?_))
 cases an
 exact ⟨rfl,_,(wIz (rs:=[.cell 3 46,.tmp 4]) (vs:=[.agg B2.toArray,.bool ap]) ⟨⟨_,rfl,(wFi ZZ zw (am.blkAt (k:=0) rfl) (vs:=B2) rfl rfl)⟩,⟨rfl,trivial⟩⟩ rfl),ag,_,(am.pick [] _ (by decide) rfl),rfl,rfl⟩
theorem wBJ (p0:wAC) (p1:wAX) (ag:Nat) (aY:Value) (aZ:Value) (ba:Value) (pb1f:Nat) (pb1fe:Nat) (pq1fd:Nat) (pA1fd_0_1:Option Addr) (pc1fd_0_1:Nat) (pA1fd_0_2:Option Addr) (pc1fd_0_2:Nat) (pm1fd_1:Nat) (pe1fd_1:Array MapEntry) (pk1fd_1:Nat) (pm1fd_2:Nat) (pe1fd_2:Array MapEntry) (pk1fd_2:Nat) (pb1fv:Nat) (w:World) (U:PHeap) (hS:St0 w U []) (an:Cl U ag 0 [aY,aZ,ba,.func (.func 91) #[] #[.pointer (some ⟨ag,0,none⟩)],.func (.func 89) #[] #[.pointer (some ⟨pb1f,0,none⟩)]]) (aO:Cl U pb1f 0 [.func (.func 84) #[] #[.pointer (some ⟨pb1fe,0,none⟩),.pointer (some ⟨pb1fv,0,none⟩)]]) (aP:Cl U pb1fe 0 [.pointer (some ⟨pq1fd,0,none⟩)]) (aQ:Cl U pq1fd 0 [jV p1.Record.Deadline,.slice pA1fd_0_1 p1.Record.Skiers.length pc1fd_0_1,.slice pA1fd_0_2 p1.Record.Decisions.length pc1fd_0_2,.map (some pm1fd_1),.map (some pm1fd_2)]) (aR:Sl U 2 pA1fd_0_1 pc1fd_0_1 p1.Record.Skiers.length (hD wAF p1.Record.Skiers)) (aS:Sl U 6 pA1fd_0_2 pc1fd_0_2 p1.Record.Decisions.length (hD wAE p1.Record.Decisions)) (aT:MpF U pm1fd_1 pe1fd_1 pk1fd_1 wFZ wFo p1.at_) (aU:MpF U pm1fd_2 pe1fd_2 pk1fd_2 wFa wFp p1.about) {r:Int} (hm:wAW p0 p1=some r):Gv Tryz.prog 91 [.agg #[jV p0.Number,jV p0.Kind,jV p0.Minute,jV p0.Bib,jV p0.Much,jV p0.About],.pointer (some ⟨ag,0,none⟩)] w (wBj w [] U (fun U_ L_ v=>v=jV r/\L_=[])):=by
 unfold wAW at hm
 refine Gv.of Tryz.func91 Z Tryz.ntmps91 Tryz.results91 Z (sR gBz Z ?_)
 let B0:List Value:=[jV p0.Number,jV p0.Kind,jV p0.Minute,jV p0.Bib,jV p0.Much,jV p0.About]
 refine ZB (cs:=B0) rfl rfl rfl rfl rfl rfl (by rfl) hS ?_
 intro W1 b2 ak
 refine oA Z Z (eN (zK (sR (wEz (.fx 3 (wQA gCe) .stop)) Z (oR Z (zC Z Z ZP Z Tryz.sizeOf134) (oL Z (ak.ldC (f:=4) an (v:=.func (.func 89) #[] #[.pointer (some ⟨pb1f,0,none⟩)]) Z Z Tryz.isAgg134 Z) (oL Z (ak.ldBA (j:=0) Z Z Z ZZ zw (vs:=B0) Z Z) ?_))))))
 have q:=bnd hm
 obtain ⟨⟨x5,x6⟩,h7,ao⟩:=q
 try dsimp only at ao
 refine zI 0 Z Z Z Z (zJ Z Z Tryz.call89 (zA Z zM) Z) ak (fun hs=>wHA p0 p1 pb1f pb1fe pq1fd pA1fd_0_1 pc1fd_0_1 pA1fd_0_2 pc1fd_0_2 pm1fd_1 pe1fd_1 pk1fd_1 pm1fd_2 pe1fd_2 pk1fd_2 pb1fv W1 U hs aO aP aQ aR aS aT aU h7) (.inr Z) ?_
 rintro U9 be bh aq aX ay ⟨rfl,rfl⟩
 have az:sW w U U9 [.blk b2 46 B0] aq:=ay
 refine oM Z Z (oR Z (ZL Z Z (v:=.agg #[jV x5.Number,jV x5.Kind,jV x5.Minute,jV x5.Bib,jV x5.Much,jV x5.About]) Z) (oR Z (ZL Z Z (v:=.bool x6) Z) (zy (cs:=[jV 0,jV 0,jV 0,jV 0,jV 0,jV 0]) Z Z Z Z Z yH Z az ?_)))
 intro bg av aM
 let B1:List Value:=[jV x5.Number,jV x5.Kind,jV x5.Minute,jV x5.Bib,jV x5.Much,jV x5.About]
 refine ZA (j:=0) (vs:=B1) Z Z Z Z aM Z Z Z Z zw (zB Z) Z Z Z ?_
 intro au aN
 have af:sW w U U9 [.blk av 46 B1,.blk b2 46 B0] au:=aN
 refine oA Z Z (eN (sR fL1 Z (oM Z Z (eN (ifc ao ?_ ?_)))))
 intro aj aV
 refine zx (congrArg nH aj.out) (sR (wEz gCa) Z (oR Z (zC Z Z ZP Z yL) ?_))
 have aw:=an.le aX
 refine oL Z (af.ldC (f:=3) aw (v:=.func (.func 91) #[] #[.pointer (some ⟨ag,0,none⟩)]) Z Z yc Z) (oL Z (af.ldBA (j:=0) Z Z Z ZZ zw (vs:=B1) Z Z) ?_)
 cases aV
 intro aj aW
 refine zg (congrArg nH (nI.2 aj.out)) (kN (sR fL3 Z (oR Z (zC Z Z zd Z zD) (oL Z (af.ldB (j:=1) Z Z Z zN (v:=jV p0.Much) Z) (oA Z Z (eN (zP ?_)))))))
 cases aW
 exact ⟨rfl,_,(zj rfl),U9,_,(af.pick [] _ (by decide) rfl),rfl,rfl⟩
theorem wHj (p0:wAX) (aq:Nat) (bm:Option Addr) (bp:Nat) (bn:Option Addr) (bq:Nat) (br:Nat) (cO:Array MapEntry) (cQ:Nat) (bs:Nat) (cP:Array MapEntry) (cR:Nat) (p1:List Int) (aP:Option Addr) (aQ:Nat) (w:World) (U:PHeap) (hS:St0 w U []) (cZ:Cl U aq 0 [jV p0.Record.Deadline,.slice bm p0.Record.Skiers.length bp,.slice bn p0.Record.Decisions.length bq,.map (some br),.map (some bs)]) (c7:Sl U 2 bm bp p0.Record.Skiers.length (hD wAF p0.Record.Skiers)) (c8:Sl U 6 bn bq p0.Record.Decisions.length (hD wAE p0.Record.Decisions)) (da:MpF U br cO cQ wFZ wFo p0.at_) (db:MpF U bs cP cR wFa wFp p0.about) (dd:Sl U 1 aP aQ p1.length (hD KL.encI p1)) {r:(List (Int × Bool))} (hm:wEH p0 p1=some r):Gv Tryz.prog 36 [.pointer (some ⟨aq,0,none⟩),.slice aP p1.length aQ] w (wBj w [] U (fun U_ L_ v=>∃ (bt:Nat) (bl:Nat) (bd:Nat) (bv:Nat) (bf:Nat) (bo:Nat) (m:Nat) (es:Array MapEntry) (ck:Nat),v=.agg #[.func (.func 85) #[] #[.pointer (some ⟨bt,0,none⟩),.pointer (some ⟨bl,0,none⟩),.pointer (some ⟨bd,0,none⟩),.pointer (some ⟨bv,0,none⟩)],.func (.func 87) #[] #[.pointer (some ⟨bf,0,none⟩)],.func (.func 88) #[] #[.pointer (some ⟨bv,0,none⟩),.pointer (some ⟨bo,0,none⟩)],.func (.func 91) #[] #[.pointer (some ⟨bv,0,none⟩)],.func (.func 89) #[] #[.pointer (some ⟨bf,0,none⟩)]]/\L_=[.obj m (.map es ck)]/\Cl U_ bt 0 [.map (some m)]/\Cl U_ bl 0 [.func (.func 83) #[.pointer (some ⟨aq,0,none⟩)] #[]]/\Cl U_ bd 0 [.pointer (some ⟨aq,0,none⟩)]/\Cl U_ bv 0 [.func (.func 85) #[] #[.pointer (some ⟨bt,0,none⟩),.pointer (some ⟨bl,0,none⟩),.pointer (some ⟨bd,0,none⟩),.pointer (some ⟨bv,0,none⟩)],.func (.func 87) #[] #[.pointer (some ⟨bf,0,none⟩)],.func (.func 88) #[] #[.pointer (some ⟨bv,0,none⟩),.pointer (some ⟨bo,0,none⟩)],.func (.func 91) #[] #[.pointer (some ⟨bv,0,none⟩)],.func (.func 89) #[] #[.pointer (some ⟨bf,0,none⟩)]]/\Cl U_ bf 0 [.func (.func 84) #[] #[.pointer (some ⟨bd,0,none⟩),.pointer (some ⟨bv,0,none⟩)]]/\Cl U_ bo 0 [.slice aP p1.length aQ]/\MpR es wED wEL r)):=by
 unfold wEH at hm
 refine Gv.of Tryz.func36 Z Tryz.ntmps36 Tryz.results36 Z (sR gCg Z ?_)
 let B0:List Value:=[.pointer (some ⟨aq,0,none⟩)]
 refine ZB (cs:=B0) rfl rfl rfl rfl rfl rfl (by rfl) hS ?_
 intro W1 b2 bY
 have q:=bY.freeze (k:=0) rfl
 obtain ⟨U5,de,aM,cE⟩:=q
 replace aM:=Cl.of aM
 have cK:sW w U U5 [] W1:=cE
 replace aM:Cl U5 b2 0 B0:=aM
 refine ZB (cs:=[.slice aP p1.length aQ]) rfl rfl rfl rfl rfl rfl (by rfl) cK ?_
 intro bw ap bS
 have q:=bS.freeze (k:=0) rfl
 obtain ⟨av,cN,aw,bT⟩:=q
 replace aw:=Cl.of aw
 have bU:sW w U av [] bw:=bT
 replace aw:Cl av ap 0 [.slice aP p1.length aQ]:=aw
 let B1:List Value:=[.nilFunc,.nilFunc,.nilFunc,.nilFunc,.nilFunc]
 refine zy (cs:=B1) Z Z Z Z Z Tryz.zeroValue137 Z bU ?_
 intro cS af bV
 refine eN (sR (.fx 0 .nil .stop) Z (zy (cs:=B1) Z Z Z Z Z Tryz.zeroValue137 Z bV ?_))
 intro cU aa bW
 refine eN (sR gCg Z (OKS.makeMap Z Z Z Z Z bW ?_))
 intro cV ac bX
 have cM:=MpR.nil wED wEL
 refine zy (cs:=[.map none]) Z Z Z Z Z Tryz.zeroValue178 Z bX ?_
 intro cW ak bZ
 refine ZA (j:=0) (vs:=[.map (some ac)]) Z Z Z Z bZ Z Z Z Z Tryz.sizeOf178 (zB Z) Z Z Z ?_
 intro bx ca
 let B2:Res:=.blk ak 178 [.map (some ac)]
 have bh:sW w U av [B2,.obj ac (.map #[] 0),.blk aa 137 B1,.blk af 137 B1] bx:=ca
 refine eN (sR gCk Z ?_)
 have bg:=aM.le cN
 refine oL Z (bh.ldC (f:=0) bg (v:=.pointer (some ⟨aq,0,none⟩)) Z Z Tryz.isAgg129 Z) (oR Z (yW Z (zA Z zM) zM) (zy (cs:=[.nilFunc]) Z Z Z Z Z Tryz.zeroValue133 Z bh ?_))
 intro cX ag cc
 let B3:List Value:=[.func (.func 83) B0.toArray #[]]
 refine ZA (j:=0) (vs:=B3) Z Z Z Z cc Z Z Z Z YN (zB Z) Z Z Z ?_
 intro bz cd
 have cg:sW w U av [.blk ag 133 B3,B2,.obj ac (.map #[] 0),.blk aa 137 B1,.blk af 137 B1] bz:=cd
 refine eN (sR (.fl 0 gCc) Z (oR Z (yW Z zM (zA Z (zA Z zM))) (zy (cs:=[.nilFunc]) Z Z Z Z Z Tryz.zeroValue219 Z cg ?_)))
 intro cY ae ch
 let B4:List Value:=[.func (.func 84) #[] #[.pointer (some ⟨b2,0,none⟩),.pointer (some ⟨aa,0,none⟩)]]
 refine ZA (j:=0) (vs:=B4) Z Z Z Z ch Z Z Z Z Tryz.sizeOf219 (zB Z) Z Z Z ?_
 intro aW ci
 have cj:sW w U av [.blk ae 219 B4,.blk ag 133 B3,B2,.obj ac (.map #[] 0),.blk aa 137 B1,.blk af 137 B1] aW:=ci
 refine eN (sR gCh Z ?_)
 have q:=cj.freeze (k:=2) rfl
 obtain ⟨ba,bk,ax,cm⟩:=q
 replace ax:=Cl.of ax
 have co:sW w U ba [.blk ae 219 B4,.blk ag 133 B3,.obj ac (.map #[] 0),.blk aa 137 B1,.blk af 137 B1] aW:=cm
 replace ax:Cl ba ak 0 [.map (some ac)]:=ax
 have q:=co.freeze (k:=1) rfl
 obtain ⟨aU,aX,ay,cp⟩:=q
 replace ay:=Cl.of ay
 have cr:sW w U aU [.blk ae 219 B4,.obj ac (.map #[] 0),.blk aa 137 B1,.blk af 137 B1] aW:=cp
 replace ay:Cl aU ag 0 B3:=ay
 refine oR Z (yW Z zM (zA Z (zA Z (zA Z (zA Z zM))))) (oR Z (zC Z Z ZP Z YN) (ZA (j:=2) (vs:=[.func (.func 85) #[] #[.pointer (some ⟨ak,0,none⟩),.pointer (some ⟨ag,0,none⟩),.pointer (some ⟨b2,0,none⟩),.pointer (some ⟨aa,0,none⟩)]]) Z Z Z Z cr Z Z Z Z YN (zB Z) Z Z Z ?_))
 intro bb ct
 let B5:Res:=.blk aa 137 [.func (.func 85) #[] #[.pointer (some ⟨ak,0,none⟩),.pointer (some ⟨ag,0,none⟩),.pointer (some ⟨b2,0,none⟩),.pointer (some ⟨aa,0,none⟩)],.nilFunc,.nilFunc,.nilFunc,.nilFunc]
 have cw:sW w U aU [.blk ae 219 B4,.obj ac (.map #[] 0),B5,.blk af 137 B1] bb:=ct
 refine eN (sR gCh Z ?_)
 have q:=cw.freeze (k:=0) rfl
 obtain ⟨am,aR,az,cx⟩:=q
 replace az:=Cl.of az
 have cy:sW w U am [.obj ac (.map #[] 0),B5,.blk af 137 B1] bb:=cx
 replace az:Cl am ae 0 B4:=az
 refine oR Z (yW Z zM (zA Z zM)) (oR Z (zC Z Z ZP Z Tryz.sizeOf134) (ZA (j:=1) (vs:=[.func (.func 87) #[] #[.pointer (some ⟨ae,0,none⟩)]]) Z Z Z Z cy Z Z Z Z Tryz.sizeOf134 (zB Z) Z Z Z ?_))
 intro bA cz
 have cA:sW w U am [.obj ac (.map #[] 0),.blk aa 137 [.func (.func 85) #[] #[.pointer (some ⟨ak,0,none⟩),.pointer (some ⟨ag,0,none⟩),.pointer (some ⟨b2,0,none⟩),.pointer (some ⟨aa,0,none⟩)],.func (.func 87) #[] #[.pointer (some ⟨ae,0,none⟩)],.nilFunc,.nilFunc,.nilFunc],.blk af 137 B1] bA:=cz
 refine eN (sR gCh Z (oR Z (yW Z zM (zA Z (zA Z zM))) (oR Z (zC Z Z ZP Z YN) (ZA (j:=1) (vs:=[.func (.func 88) #[] #[.pointer (some ⟨aa,0,none⟩),.pointer (some ⟨ap,0,none⟩)]]) Z Z Z Z cA Z Z Z Z YN (zB Z) Z Z Z ?_))))
 intro bB cB
 have cC:sW w U am [.obj ac (.map #[] 0),.blk aa 137 [.func (.func 85) #[] #[.pointer (some ⟨ak,0,none⟩),.pointer (some ⟨ag,0,none⟩),.pointer (some ⟨b2,0,none⟩),.pointer (some ⟨aa,0,none⟩)],.func (.func 87) #[] #[.pointer (some ⟨ae,0,none⟩)],.func (.func 88) #[] #[.pointer (some ⟨aa,0,none⟩),.pointer (some ⟨ap,0,none⟩)],.nilFunc,.nilFunc],.blk af 137 B1] bB:=cB
 refine eN (sR gCh Z (oR Z (yW Z zM (zA Z zM)) (oR Z (zC Z Z ZP Z Tryz.sizeOf134) (ZA (j:=1) (vs:=[.func (.func 89) #[] #[.pointer (some ⟨ae,0,none⟩)]]) Z Z Z Z cC Z Z Z Z Tryz.sizeOf134 (zB Z) Z Z Z ?_))))
 intro bC cD
 have cG:sW w U am [.obj ac (.map #[] 0),.blk aa 137 [.func (.func 85) #[] #[.pointer (some ⟨ak,0,none⟩),.pointer (some ⟨ag,0,none⟩),.pointer (some ⟨b2,0,none⟩),.pointer (some ⟨aa,0,none⟩)],.func (.func 87) #[] #[.pointer (some ⟨ae,0,none⟩)],.func (.func 88) #[] #[.pointer (some ⟨aa,0,none⟩),.pointer (some ⟨ap,0,none⟩)],.nilFunc,.func (.func 89) #[] #[.pointer (some ⟨ae,0,none⟩)]],.blk af 137 B1] bC:=cD
 refine eN (sR gCh Z (oR Z (yW Z zM (zA Z zM)) (oR Z (zC Z Z ZP Z yL) (ZA (j:=1) (vs:=[.func (.func 91) #[] #[.pointer (some ⟨aa,0,none⟩)]]) Z Z Z Z cG Z Z Z Z yL (zB Z) Z Z Z ?_))))
 intro bD cH
 let B6:List Value:=[.func (.func 85) #[] #[.pointer (some ⟨ak,0,none⟩),.pointer (some ⟨ag,0,none⟩),.pointer (some ⟨b2,0,none⟩),.pointer (some ⟨aa,0,none⟩)],.func (.func 87) #[] #[.pointer (some ⟨ae,0,none⟩)],.func (.func 88) #[] #[.pointer (some ⟨aa,0,none⟩),.pointer (some ⟨ap,0,none⟩)],.func (.func 91) #[] #[.pointer (some ⟨aa,0,none⟩)],.func (.func 89) #[] #[.pointer (some ⟨ae,0,none⟩)]]
 have bi:sW w U am [.obj ac (.map #[] 0),.blk aa 137 B6,.blk af 137 B1] bD:=cH
 refine eN (sR gCd Z (oL Z (bi.ldBA (j:=1) Z Z Z Tryz.isAgg137 Tryz.sizeOf137 (vs:=B6) Z Z) (ZA (j:=2) (vs:=B6) Z Z Z Z bi Z Z Z Z Tryz.sizeOf137 (zB Z) Z Z Z ?_)))
 intro be cI
 have cJ:sW w U am [.obj ac (.map #[] 0),.blk aa 137 B6,.blk af 137 B6] be:=cI
 refine eN (zP ?_)
 have q:=cJ.freeze (k:=1) rfl
 obtain ⟨aV,aO,aN,cL⟩:=q
 replace aN:=Cl.of aN
 have bj:sW w U aV [.obj ac (.map #[] 0),.blk af 137 B6] be:=cL
 replace aN:Cl aV aa 0 B6:=aN
 have bK:=ax.le aX
 have bL:=bK.le aR
 have bM:=bL.le aO
 have bN:=ay.le aR
 have bO:=bN.le aO
 have bP:=bg.le bk
 have bQ:=bP.le aX
 have bR:=bQ.le aR
 have bE:=bR.le aO
 have bF:=az.le aO
 have bG:=aw.le bk
 have bH:=bG.le aX
 have bI:=bH.le aR
 have bJ:=bI.le aO
 cases hm
 exact ⟨rfl,_,(wHI (v:=.agg B6.toArray) ⟨⟨_,rfl,(wFi Tryz.isAgg137 Tryz.sizeOf137 (bj.blkAt (k:=1) rfl) (vs:=B6) rfl rfl)⟩,trivial⟩),aV,_,(bj.pick [0] _ (by decide) rfl),ak,ag,b2,aa,ae,ap,ac,#[],0,rfl,rfl,bM,bO,bE,aN,bF,bJ,cM⟩
theorem wIM (p0:(wAX × List Int × List (Int × Bool))) (pb0a:Nat) (pb0b:Nat) (pb0c:Nat) (pb0v:Nat) (pb0f:Nat) (pb0g:Nat) (pq0d:Nat) (pA0d_0_1:Option Addr) (pc0d_0_1:Nat) (pA0d_0_2:Option Addr) (pc0d_0_2:Nat) (pm0d_1:Nat) (pe0d_1:Array MapEntry) (pk0d_1:Nat) (pm0d_2:Nat) (pe0d_2:Array MapEntry) (pk0d_2:Nat) (pm0t:Nat) (pe0t:Array MapEntry) (pk0t:Nat) (pA0o:Option Addr) (pc0o:Nat) (p1:wAC) (p2:Int) (w:World) (U:PHeap) (hS:St0 w U [.obj pm0t (.map pe0t pk0t)]) (bG:Cl U pb0a 0 [.map (some pm0t)]) (bH:Cl U pb0b 0 [.func (.func 83) #[.pointer (some ⟨pq0d,0,none⟩)] #[]]) (bK:Cl U pb0c 0 [.pointer (some ⟨pq0d,0,none⟩)]) (bL:Cl U pb0v 0 [.func (.func 85) #[] #[.pointer (some ⟨pb0a,0,none⟩),.pointer (some ⟨pb0b,0,none⟩),.pointer (some ⟨pb0c,0,none⟩),.pointer (some ⟨pb0v,0,none⟩)],.func (.func 87) #[] #[.pointer (some ⟨pb0f,0,none⟩)],.func (.func 88) #[] #[.pointer (some ⟨pb0v,0,none⟩),.pointer (some ⟨pb0g,0,none⟩)],.func (.func 91) #[] #[.pointer (some ⟨pb0v,0,none⟩)],.func (.func 89) #[] #[.pointer (some ⟨pb0f,0,none⟩)]]) (bM:Cl U pb0f 0 [.func (.func 84) #[] #[.pointer (some ⟨pb0c,0,none⟩),.pointer (some ⟨pb0v,0,none⟩)]]) (bN:Cl U pb0g 0 [.slice pA0o p0.2.1.length pc0o]) (bO:Cl U pq0d 0 [jV p0.1.Record.Deadline,.slice pA0d_0_1 p0.1.Record.Skiers.length pc0d_0_1,.slice pA0d_0_2 p0.1.Record.Decisions.length pc0d_0_2,.map (some pm0d_1),.map (some pm0d_2)]) (bP:Sl U 2 pA0d_0_1 pc0d_0_1 p0.1.Record.Skiers.length (hD wAF p0.1.Record.Skiers)) (bQ:Sl U 6 pA0d_0_2 pc0d_0_2 p0.1.Record.Decisions.length (hD wAE p0.1.Record.Decisions)) (bR:MpF U pm0d_1 pe0d_1 pk0d_1 wFZ wFo p0.1.at_) (bI:MpF U pm0d_2 pe0d_2 pk0d_2 wFa wFp p0.1.about) (aQ:MpR pe0t wED wEL p0.2.2) (bJ:Sl U 1 pA0o pc0o p0.2.1.length (hD KL.encI p0.2.1)) {r:Bool × (List (Int × Bool))} (hm:wDP p0 p1 p2=some r):Gv Tryz.prog 136 [.agg #[.func (.func 85) #[] #[.pointer (some ⟨pb0a,0,none⟩),.pointer (some ⟨pb0b,0,none⟩),.pointer (some ⟨pb0c,0,none⟩),.pointer (some ⟨pb0v,0,none⟩)],.func (.func 87) #[] #[.pointer (some ⟨pb0f,0,none⟩)],.func (.func 88) #[] #[.pointer (some ⟨pb0v,0,none⟩),.pointer (some ⟨pb0g,0,none⟩)],.func (.func 91) #[] #[.pointer (some ⟨pb0v,0,none⟩)],.func (.func 89) #[] #[.pointer (some ⟨pb0f,0,none⟩)]],.agg #[jV p1.Number,jV p1.Kind,jV p1.Minute,jV p1.Bib,jV p1.Much,jV p1.About],jV p2] w (wBj w [.obj pm0t (.map pe0t pk0t)] U (fun U_ L_ v=>∃ (es_0:Array MapEntry) (ck_0:Nat),v=.bool r.1/\L_=[.obj pm0t (.map es_0 ck_0)]/\MpR es_0 wED wEL r.2)):=by
 unfold wDP at hm
 refine Gv.of Tryz.func136 Z Tryz.ntmps136 Tryz.results136 Z (sR gCf Z ?_)
 let B0:List Value:=[.func (.func 85) #[] #[.pointer (some ⟨pb0a,0,none⟩),.pointer (some ⟨pb0b,0,none⟩),.pointer (some ⟨pb0c,0,none⟩),.pointer (some ⟨pb0v,0,none⟩)],.func (.func 87) #[] #[.pointer (some ⟨pb0f,0,none⟩)],.func (.func 88) #[] #[.pointer (some ⟨pb0v,0,none⟩),.pointer (some ⟨pb0g,0,none⟩)],.func (.func 91) #[] #[.pointer (some ⟨pb0v,0,none⟩)],.func (.func 89) #[] #[.pointer (some ⟨pb0f,0,none⟩)]]
 refine ZB (cs:=B0) rfl rfl rfl rfl rfl rfl (by rfl) hS ?_
 intro W2 b3 bC
 let B1:List Value:=[jV p1.Number,jV p1.Kind,jV p1.Minute,jV p1.Bib,jV p1.Much,jV p1.About]
 refine ZB (cs:=B1) rfl rfl rfl rfl rfl rfl (by rfl) bC ?_
 intro W6 b7 aU
 refine oA Z Z (eN (sR (.fl 0 (.fl 1 (.fx 2 (wPx (.fx 13 (wPD (.fx 23 (wNL (.nil)) .stop)) .stop)) .stop))) Z (oR Z (zC Z Z zd Z Zi) (oL Z (aU.ldB (j:=0) Z Z Z Zo (v:=jV p1.Kind) Z) (bnK hm fun cr aZ bS=>zI 0 Z Z Z Z (zJ Z Z Tryz.call210 (zA Z zM) Z) aU (fun hs=>wDH p1.Kind W6 U hs aZ) (.inr Z) ?_)))))
 rintro ao cd cm ax ae bA ⟨rfl,rfl⟩
 have ak:SW w [.obj pm0t (.map pe0t pk0t)] U ao [.blk b7 46 B1,.blk b3 137 B0,.obj pm0t (.map pe0t pk0t)] ax:=bA
 refine oM Z Z (ifc bS ?_ ?_)
 intro af bT
 refine zT Z Z Z (zL Z Z (congrArg nH af.out)) (fun _=>zC Z Z zd Z zD) (zn Z Z Z (zL Z Z (congrArg nH af.out)) (ak.ldB (j:=0) Z Z Z zN (v:=jV p1.Bib) Z) Z (zO Z Z Z (zL Z Z (congrArg nH af.out)) Z Z (zT Z Z Z (zL Z Z (congrArg nH af.out)) (fun _=>Zw Z Z Z) (oR Z (zV Z (congrArg nH af.out) Z) (oM Z Z (ifc bT ?_ ?_))))))
 intro ag bU
 refine rU Z (wT Z ag) (zC Z Z ZP Z YN) (zn Z Z Z (wT Z ag) (ak.ldB (j:=1) Z Z Z Tryz.isAgg133 (v:=.func (.func 85) #[] #[.pointer (some ⟨pb0a,0,none⟩),.pointer (some ⟨pb0b,0,none⟩),.pointer (some ⟨pb0c,0,none⟩),.pointer (some ⟨pb0v,0,none⟩)]) Z) Z (zn Z Z Z (wT Z ag) (ak.ldBA (j:=0) Z Z Z ZZ zw (vs:=B1) Z Z) Z ?_))
 have ba:=bG.le ae
 have bb:=bH.le ae
 have ay:=bO.le ae
 have az:=bP.le ae
 have aM:=bQ.le ae
 have aN:=bR.le ae
 have aO:=bI.le ae
 have aT:=bK.le ae
 have q:=bnd bU
 obtain ⟨⟨ct,cw⟩,be,aV⟩:=q
 try dsimp only at aV
 have bB:SW w [.obj pm0t (.map pe0t pk0t)] U ao [.obj pm0t (.map pe0t pk0t),.blk b7 46 B1,.blk b3 137 B0] ax:=ak.pick [2,0,1] _ (by decide) rfl
 refine zI 1 Z Z Z (wT Z ag) (zJ Z Z Tryz.call85 (zA Z zM) Z) bB (fun hs=>wGx p1 p0.2.2 pb0a pm0t pe0t pk0t p0.1 pb0b pq0d pA0d_0_1 pc0d_0_1 pA0d_0_2 pc0d_0_2 pm0d_1 pe0d_1 pk0d_1 pm0d_2 pe0d_2 pk0d_2 p0.1 pb0c pq0d pA0d_0_1 pc0d_0_1 pA0d_0_2 pc0d_0_2 pm0d_1 pe0d_1 pk0d_1 pm0d_2 pe0d_2 pk0d_2 () pb0v ax ao hs ba aQ bb ay az aM aN aO aT ay az aM aN aO be) (.inl Z) ?_
 rintro au cg co aS ai bD ⟨aq,ap,rfl,rfl,aP⟩
 have am:SW w [.obj pm0t (.map pe0t pk0t)] U au [.obj pm0t (.map aq ap),.blk b7 46 B1,.blk b3 137 B0] aS:=bD
 refine oR Z (zV Z (ZO ag.out) Z) (oM Z Z (ifc aV ?_ ?_))
 intro ac bV
 refine zT Z Z Z (zL Z Z (congrArg nH ac.out)) (fun _=>zC Z Z zd Z Zi) (zn Z Z Z (zL Z Z (congrArg nH ac.out)) (am.ldB (j:=1) Z Z Z Zo (v:=jV p1.Kind) Z) Z (zT Z Z Z (zL Z Z (congrArg nH ac.out)) (fun _=>Ze Z Z Z) (zO Z Z Z (zL Z Z (congrArg nH ac.out)) Z Z (ifc bV ?_ ?_))))
 intro ah bW
 refine zT Z Z Z (zL Z Z (zo (fun h=>h ah.out))) (fun _=>zC Z Z ZP Z YN) (zn Z Z Z (zL Z Z (zo (fun h=>h ah.out))) (am.ldB (j:=2) Z Z Z Tryz.isAgg133 (v:=.func (.func 88) #[] #[.pointer (some ⟨pb0v,0,none⟩),.pointer (some ⟨pb0g,0,none⟩)]) Z) Z (zn Z Z Z (zL Z Z (zo (fun h=>h ah.out))) (am.ldBA (j:=1) Z Z Z ZZ zw (vs:=B1) Z Z) Z ?_))
 have bg:=bL.le ae
 have bh:=bg.le ai
 have bi:=bM.le ae
 have bj:=bi.le ai
 have bk:=aT.le ai
 have bm:=ay.le ai
 have bn:=az.le ai
 have bp:=aM.le ai
 have bq:=aN.le ai
 have br:=aO.le ai
 have bs:=bN.le ae
 have bu:=bs.le ai
 have bw:=bJ.le ae
 have bx:=bw.le ai
 refine bnK bW fun cx bz bX=>zI 0 Z Z Z (zL Z Z (zo (fun h=>h ah.out))) (zJ Z Z Tryz.call88 (zA Z zM) Z) am (fun hs=>wGz p1 p0.1 pb0v (.func (.func 85) #[] #[.pointer (some ⟨pb0a,0,none⟩),.pointer (some ⟨pb0b,0,none⟩),.pointer (some ⟨pb0c,0,none⟩),.pointer (some ⟨pb0v,0,none⟩)]) pb0f pb0c pq0d pA0d_0_1 pc0d_0_1 pA0d_0_2 pc0d_0_2 pm0d_1 pe0d_1 pk0d_1 pm0d_2 pe0d_2 pk0d_2 pb0v (.func (.func 88) #[] #[.pointer (some ⟨pb0v,0,none⟩),.pointer (some ⟨pb0g,0,none⟩)]) (.func (.func 91) #[] #[.pointer (some ⟨pb0v,0,none⟩)]) (.func (.func 89) #[] #[.pointer (some ⟨pb0f,0,none⟩)]) p0.2.1 pb0g pA0o pc0o aS au hs bh bj bk bm bn bp bq br bu bx bz) (.inr Z) ?_
 rintro aR ch cp aY cj bE ⟨rfl,rfl⟩
 have bF:SW w [.obj pm0t (.map pe0t pk0t)] U aR [.obj pm0t (.map aq ap),.blk b7 46 B1,.blk b3 137 B0] aY:=bE
 refine zT Z Z Z (zL Z Z (congrArg nH ac.out)) (fun _=>zS Z (zo (fun h=>h ah.out)) Z) (oR Z (zV Z (congrArg nH ac.out) Z) (oA Z Z (eN (zP ?_))))
 cases bX
 exact ⟨rfl,_,(zj rfl),aR,_,(bF.pick [0] _ (by decide) rfl),aq,ap,rfl,rfl,aP⟩
 intro ah bY
 refine oT Z ah (oT Z ah (oT Z ah (Zl Z Z Z (zY Z Z (ZO ah.out) Z) (zT Z Z Z (zL Z Z (congrArg nH ac.out)) (fun _=>zV Z (ZO ah.out) Z) (oR Z (zV Z (congrArg nH ac.out) Z) (oA Z Z (eN (zP ?_))))))))
 cases bY
 exact ⟨rfl,_,(zj rfl),au,_,(am.pick [0] _ (by decide) rfl),aq,ap,rfl,rfl,aP⟩
 intro ac bZ
 refine zW Z Z Z (zY Z Z (congrArg nH (nI.2 ac.out)) Z) (zW Z Z Z (zY Z Z (congrArg nH (nI.2 ac.out)) Z) (zW Z Z Z (zY Z Z (congrArg nH (nI.2 ac.out)) Z) (zW Z Z Z (zY Z Z (congrArg nH (nI.2 ac.out)) Z) (zW Z Z Z (wAP Z Z Z) (zW Z Z Z (wAP Z Z Z) (zW Z Z Z (wAP Z Z Z) (Zl Z Z Z (wAP Z Z Z) (zW Z Z Z (zY Z Z (congrArg nH (nI.2 ac.out)) Z) (oR Z (zS Z (congrArg nH (nI.2 ac.out)) Z) (oA Z Z (eN (zP ?_))))))))))))
 cases bZ
 exact ⟨rfl,_,(zj rfl),au,_,(am.pick [0] _ (by decide) rfl),aq,ap,rfl,rfl,aP⟩
 intro ag ca
 refine oF Z ag (oF Z ag (oF Z ag (Zl Z Z Z (zY Z Z (zo ag.out) Z) (oR Z (zS Z (zo ag.out) Z) (oM Z Z (oN Z (oN Z (oN Z (oN Z (zW Z Z Z (wAP Z Z Z) (zW Z Z Z (wAP Z Z Z) (zW Z Z Z (wAP Z Z Z) (Zl Z Z Z (wAP Z Z Z) (oN Z (oR Z (zS Z Z Z) (oA Z Z (eN (zP ?_))))))))))))))))))
 cases ca
 exact ⟨rfl,_,(zj rfl),ao,_,(ak.pick [2] _ (by decide) rfl),pe0t,pk0t,rfl,rfl,aQ⟩
 intro af cc
 refine zW Z Z Z (zY Z Z (congrArg nH (nI.2 af.out)) Z) (zW Z Z Z (zY Z Z (congrArg nH (nI.2 af.out)) Z) (zW Z Z Z (zY Z Z (congrArg nH (nI.2 af.out)) Z) (zW Z Z Z (zY Z Z (congrArg nH (nI.2 af.out)) Z) (oR Z (zS Z (congrArg nH (nI.2 af.out)) Z) (oM Z Z (oN Z (oN Z (oN Z (Zl Z Z Z (zY Z Z Z Z) (oR Z (zS Z Z Z) (oM Z Z (oN Z (oN Z (oN Z (oN Z (zW Z Z Z (wAP Z Z Z) (zW Z Z Z (wAP Z Z Z) (zW Z Z Z (wAP Z Z Z) (Zl Z Z Z (wAP Z Z Z) (oN Z (oR Z (zS Z Z Z) (oA Z Z (eN (zP ?_))))))))))))))))))))))))
 cases cc
 exact ⟨rfl,_,(zj rfl),ao,_,(ak.pick [2] _ (by decide) rfl),pe0t,pk0t,rfl,rfl,aQ⟩
theorem wEI (p0:Int) (p1:Int) (w:World) (U:PHeap) (hS:St0 w U [])  {r:Int} (hm:wBG p0 p1=some r):Gv Tryz.prog 214 [jV p0,jV p1] w (wBj w [] U (fun U_ L_ v=>v=jV r/\L_=[])):=by
 unfold wBG at hm
 refine Gv.of Tryz.func214 Z Tryz.ntmps214 Tryz.results214 Z (sR fL1 Z (oA Z Z (eN (sR fL4 Z (oM Z Z (oM Z Z (oR Z (zX Z Z Z) (oA Z Z (eN (zP ?_))))))))))
 cases hm
 exact ⟨Z,_,(zj Z),U,_,hS,Z,Z⟩
theorem wFk (p0:Int) (p1:Int) (w:World) (U:PHeap) (hS:St0 w U [])  {r:Int} (hm:wCr p0 p1=some r):Gv Tryz.prog 215 [jV p0,jV p1] w (wBj w [] U (fun U_ L_ v=>v=jV r/\L_=[])):=by
 unfold wCr at hm
 refine Gv.of Tryz.func215 Z Tryz.ntmps215 Tryz.results215 Z (sR fL1 Z (oA Z Z (eN (sR fL4 Z (oM Z Z (oM Z Z (oR Z (ZN Z Z Z) (oA Z Z (eN (zP ?_))))))))))
 cases hm
 exact ⟨Z,_,(zj Z),U,_,hS,Z,Z⟩
theorem wFl (p0:Int) (p1:Int) (w:World) (U:PHeap) (hS:St0 w U [])  {r:Int} (hm:wCD p0 p1=some r):Gv Tryz.prog 216 [jV p0,jV p1] w (wBj w [] U (fun U_ L_ v=>v=jV r/\L_=[])):=by
 unfold wCD at hm
 refine Gv.of Tryz.func216 Z Tryz.ntmps216 Tryz.results216 Z (sR fL1 Z (oA Z Z (eN (sR fL5 Z (oM Z Z (oM Z Z (oR Z (YK Z Z Z) (oR Z (zX Z Z Z) (oA Z Z (eN (zP ?_)))))))))))
 cases hm
 exact ⟨Z,_,(zj Z),U,_,hS,Z,Z⟩
theorem wFm (p0:Int) (p1:Int) (w:World) (U:PHeap) (hS:St0 w U [])  {r:Int} (hm:wCs p0 p1=some r):Gv Tryz.prog 217 [jV p0,jV p1] w (wBj w [] U (fun U_ L_ v=>v=jV r/\L_=[])):=by
 unfold wCs at hm
 refine Gv.of Tryz.func217 Z Tryz.ntmps217 Tryz.results217 Z (sR fL1 Z (oA Z Z (eN (sR fL2 Z (oM Z Z (oA Z Z (eN (zP ?_))))))))
 have hE:=hM hm;first | subst r | cases hE
 exact ⟨Z,_,(zj Z),U,_,hS,Z,Z⟩
theorem wBu  (w:World) (U:PHeap) (hS:St0 w U [])  {r:Unit} (hm:wAZ =some r):Gv Tryz.prog 137 [] w (wBj w [] U (fun U_ L_ v=>v=.agg #[.func (.func 214) #[] #[],.func (.func 215) #[] #[],.func (.func 216) #[] #[],.func (.func 217) #[] #[],.func (.func 214) #[] #[]]/\L_=[])):=by
 unfold wAZ at hm
 refine Gv.of Tryz.func137 Z Tryz.ntmps137 Tryz.results137 Z (sR (.fx 0 .nil .stop) Z ?_)
 let B0:List Value:=[.nilFunc,.nilFunc,.nilFunc,.nilFunc,.nilFunc]
 refine zy (cs:=B0) Z Z Z Z Z Tryz.zeroValue276 Z hS ?_
 intro W1 b2 ah
 refine eN (sR fL1 Z (oA Z Z (eN (sR (wPB (.fx 8 .nil .stop)) Z (oM Z Z ?_)))))
 let B1:List Value:=[.func (.func 214) #[] #[]]
 refine oR Z (ZI (pv:=[(0,.func (.func 214) #[] #[])]) (z:=[.nilFunc]) (cs:=B1) Z (wAH Z wAY) Tryz.zeroValue275 wFz Z Z) (oR Z (ZI (pv:=[(0,.func (.func 215) #[] #[])]) (z:=[.nilFunc]) (cs:=[.func (.func 215) #[] #[]]) Z (wAH Z wAY) Tryz.zeroValue275 wFz Z Z) (oR Z (ZI (pv:=[(0,.func (.func 216) #[] #[])]) (z:=[.nilFunc]) (cs:=[.func (.func 216) #[] #[]]) Z (wAH Z wAY) Tryz.zeroValue275 wFz Z Z) (oR Z (ZI (pv:=[(0,.func (.func 217) #[] #[])]) (z:=[.nilFunc]) (cs:=[.func (.func 217) #[] #[]]) Z (wAH Z wAY) Tryz.zeroValue275 wFz Z Z) (oM Z Z (oR Z (ZI (pv:=[(0,.func (.func 214) #[] #[])]) (z:=[.nilFunc]) (cs:=B1) Z (wAH Z wAY) Tryz.zeroValue275 wFz Z Z) ?_)))))
 let B2:List Value:=[.func (.func 214) #[] #[],.func (.func 215) #[] #[],.func (.func 216) #[] #[],.func (.func 217) #[] #[],.func (.func 214) #[] #[]]
 refine oR Z (Runs.buildA (pv:=[(0,.agg B1.toArray),(1,.agg #[.func (.func 215) #[] #[]]),(2,.agg #[.func (.func 216) #[] #[]]),(3,.agg #[.func (.func 217) #[] #[]]),(4,.agg B1.toArray)]) (z:=B0) (cs:=B2) Z (wAH Z (wAH Z (wAH Z (wAH Z (wAH Z wAY))))) Tryz.zeroValue276 Zx Zg Z Z) (ZA (j:=0) (vs:=B2) Z Z Z Z ah Z Z Z Z Tryz.sizeOf276 (zB Z) Z Z Z ?_)
 intro W5 ai
 have ae:sW w U U [.blk b2 276 B2] W5:=ai
 refine eN (zP ?_)
 cases hm
 exact ⟨rfl,_,(wHI (v:=.agg B2.toArray) ⟨⟨_,rfl,(wFi Tryz.isAgg276 Tryz.sizeOf276 (ae.blkAt (k:=0) rfl) (vs:=B2) rfl rfl)⟩,trivial⟩),U,_,(ae.pick [] _ (by decide) rfl),rfl,rfl⟩
end Go.Proofs.YtlmekamhphnmjaaGreat
namespace Go.Proofs.YtlmekamhphnmjaaGreat
open Go.KL
set_option maxHeartbeats 4000000
theorem wIN (p0:Int) (p1:List Int) (ag:Option Addr) (ah:Nat) (w:World) (U:PHeap) (hS:St0 w U []) (aR:Sl U 1 ag ah p1.length (hD KL.encI p1)) {r:Int} (hm:wDt p0 p1=some r):Gv Tryz.prog 138 [jV p0,.slice ag p1.length ah] w (wBj w [] U (fun U_ L_ v=>v=jV r/\L_=[])):=by
 unfold wDt at hm
 refine Gv.of Tryz.func138 Z Tryz.ntmps138 Tryz.results138 Z (sR fL1 Z (oA Z Z (eN (zK (sR fL3 Z (oM Z Z (oR Z (ze Z Z zH) (oM Z Z (eN (zU (bnK hm fun bm aT aW=>?_)))))))))))
 have q:=wBM aT
 obtain ⟨af,aS⟩:=q
 replace af:=zG af
 refine CK.forN' (fun k7 x6 J_ w_=>∃ (U_:PHeap),J_ 9=jV (↑k7:Int)/\J_ 0=jV x6/\J_ 7=.slice ag p1.length ah/\J_ 8=jV (↑p1.length:Int)/\PHeap.Le U U_/\sW w U U_ [] w_) aS ?_ ?_ ?_
 exact ⟨U,Z,Z,Z,Z,(zQ _),hS⟩
 rintro k7 x6 bk aZ bb ae ⟨au,ac,ax,aj,ak,ao,an⟩ aX
 have ai:Hid ((↑k7:Int) < (↑p1.length:Int)):=zG (wBR ae)
 replace ae:=zG ae
 have aU:Hid (w64 ((↑k7:Int) + 1)=(↑(k7 + 1):Int)):=zG (by have h1:=af.out;have h2:=ai.out;rw [wAa] <;> omega)
 refine sR fL1 Z (oR Z (zR Z ac ak) (eN (zK (cT Z ai (kN (zK (zU (sR fL3 Z (bnK aX fun aY am aV=>?_)))))))))
 have aN:=aR.le ao
 have q:=aN.el (fun _=>rfl) (wAk am)
 obtain ⟨bg,bj,aO,aP⟩:=q
 refine oR Z (ZD Z aj aO ac zH zD (wBi am)) (oL Z (an.ldC (f:=0) aP (v:=jV aY) Z Z zN Z) (oA Z Z (eN (rR fL4 Z (oM Z ax (oM Z Z (oR Z (Runs.max Z Z Z) (oA Z Z (zb (za (zF (rR fL2 Z (oR Z (zr (zX Z ac Z) (congrArg (jV) aU.out)) (oM Z Z (zb ?_)))))))))))))))
 cases aV
 exact zF ⟨Z,⟨au,Z,Z,aj,ak,ao,an⟩⟩
 rintro ba be ⟨av,aM,ay,bh,az,bi,aQ⟩
 have aw:Hid (¬ ((↑(((↑p1.length:Int):Int) - 0).toNat:Int) < (↑p1.length:Int))):=zG (wAr)
 refine sR fL1 Z (oR Z (zR Z aM az) (eN (zK (cF Z aw (ZG (zc (zc (zz (zF (sR fL2 Z (oM Z ay (oA Z Z (eN (zP ?_))))))))))))))
 have hE:=hM aW;first | subst r | cases hE
 exact ⟨Z,_,(zj Z),av,_,aQ,Z,Z⟩
theorem wHR (p0:wAX) (eF:Nat) (eD:Option Addr) (eG:Nat) (bI:Option Addr) (bJ:Nat) (eH:Nat) (pg:Array MapEntry) (pi:Nat) (eI:Nat) (ph:Array MapEntry) (pj:Nat) (p1:wAI) (p2:(wAX × List Int × List (Int × Bool))) (pb2a:Nat) (pb2b:Nat) (pb2c:Nat) (pb2v:Nat) (pb2f:Nat) (pb2g:Nat) (pq2d:Nat) (pA2d_0_1:Option Addr) (pc2d_0_1:Nat) (pA2d_0_2:Option Addr) (pc2d_0_2:Nat) (pm2d_1:Nat) (pe2d_1:Array MapEntry) (pk2d_1:Nat) (pm2d_2:Nat) (pe2d_2:Array MapEntry) (pk2d_2:Nat) (pm2t:Nat) (pe2t:Array MapEntry) (pk2t:Nat) (pA2o:Option Addr) (pc2o:Nat) (w:World) (U:PHeap) (hS:St0 w U [.obj pm2t (.map pe2t pk2t)]) (mU:Cl U eF 0 [jV p0.Record.Deadline,.slice eD p0.Record.Skiers.length eG,.slice bI p0.Record.Decisions.length bJ,.map (some eH),.map (some eI)]) (qs:Sl U 2 eD eG p0.Record.Skiers.length (hD wAF p0.Record.Skiers)) (m5:Sl U 6 bI bJ p0.Record.Decisions.length (hD wAE p0.Record.Decisions)) (qt:MpF U eH pg pi wFZ wFo p0.at_) (qu:MpF U eI ph pj wFa wFp p0.about) (m6:Cl U pb2a 0 [.map (some pm2t)]) (m7:Cl U pb2b 0 [.func (.func 83) #[.pointer (some ⟨pq2d,0,none⟩)] #[]]) (m8:Cl U pb2c 0 [.pointer (some ⟨pq2d,0,none⟩)]) (m9:Cl U pb2v 0 [.func (.func 85) #[] #[.pointer (some ⟨pb2a,0,none⟩),.pointer (some ⟨pb2b,0,none⟩),.pointer (some ⟨pb2c,0,none⟩),.pointer (some ⟨pb2v,0,none⟩)],.func (.func 87) #[] #[.pointer (some ⟨pb2f,0,none⟩)],.func (.func 88) #[] #[.pointer (some ⟨pb2v,0,none⟩),.pointer (some ⟨pb2g,0,none⟩)],.func (.func 91) #[] #[.pointer (some ⟨pb2v,0,none⟩)],.func (.func 89) #[] #[.pointer (some ⟨pb2f,0,none⟩)]]) (n2:Cl U pb2f 0 [.func (.func 84) #[] #[.pointer (some ⟨pb2c,0,none⟩),.pointer (some ⟨pb2v,0,none⟩)]]) (mV:Cl U pb2g 0 [.slice pA2o p2.2.1.length pc2o]) (mW:Cl U pq2d 0 [jV p2.1.Record.Deadline,.slice pA2d_0_1 p2.1.Record.Skiers.length pc2d_0_1,.slice pA2d_0_2 p2.1.Record.Decisions.length pc2d_0_2,.map (some pm2d_1),.map (some pm2d_2)]) (mX:Sl U 2 pA2d_0_1 pc2d_0_1 p2.1.Record.Skiers.length (hD wAF p2.1.Record.Skiers)) (mY:Sl U 6 pA2d_0_2 pc2d_0_2 p2.1.Record.Decisions.length (hD wAE p2.1.Record.Decisions)) (mZ:MpF U pm2d_1 pe2d_1 pk2d_1 wFZ wFo p2.1.at_) (m2:MpF U pm2d_2 pe2d_2 pk2d_2 wFa wFp p2.1.about) (m3:MpR pe2t wED wEL p2.2.2) (m4:Sl U 1 pA2o pc2o p2.2.1.length (hD KL.encI p2.2.1)) {r:Int × Bool × (List (Int × Bool))} (hm:wCe p0 p1 p2=some r):Gv Tryz.prog 80 [.pointer (some ⟨eF,0,none⟩),.agg #[jV p1.Bib,jV p1.Time],.agg #[.func (.func 85) #[] #[.pointer (some ⟨pb2a,0,none⟩),.pointer (some ⟨pb2b,0,none⟩),.pointer (some ⟨pb2c,0,none⟩),.pointer (some ⟨pb2v,0,none⟩)],.func (.func 87) #[] #[.pointer (some ⟨pb2f,0,none⟩)],.func (.func 88) #[] #[.pointer (some ⟨pb2v,0,none⟩),.pointer (some ⟨pb2g,0,none⟩)],.func (.func 91) #[] #[.pointer (some ⟨pb2v,0,none⟩)],.func (.func 89) #[] #[.pointer (some ⟨pb2f,0,none⟩)]]] w (wBj w [.obj pm2t (.map pe2t pk2t)] U (fun U_ L_ v=>∃ (es_0:Array MapEntry) (ck_0:Nat),v=.tuple #[jV r.1,.bool r.2.1]/\L_=[.obj pm2t (.map es_0 ck_0)]/\MpR es_0 wED wEL r.2.2)):=by
 unfold wCe at hm
 refine Gv.of Tryz.func80 Z Tryz.ntmps80 Tryz.results80 Z (sR (.fx 0 (.fx 1 (.fl 2 (.fl 3 .nil)) .stop) .stop) Z ?_)
 let B0:List Value:=[jV p1.Bib,jV p1.Time]
 refine ZB (cs:=B0) rfl rfl rfl rfl rfl rfl (by rfl) hS ?_
 intro W2 b3 mc
 let B1:List Value:=[.func (.func 85) #[] #[.pointer (some ⟨pb2a,0,none⟩),.pointer (some ⟨pb2b,0,none⟩),.pointer (some ⟨pb2c,0,none⟩),.pointer (some ⟨pb2v,0,none⟩)],.func (.func 87) #[] #[.pointer (some ⟨pb2f,0,none⟩)],.func (.func 88) #[] #[.pointer (some ⟨pb2v,0,none⟩),.pointer (some ⟨pb2g,0,none⟩)],.func (.func 91) #[] #[.pointer (some ⟨pb2v,0,none⟩)],.func (.func 89) #[] #[.pointer (some ⟨pb2f,0,none⟩)]]
 refine ZB (cs:=B1) rfl rfl rfl rfl rfl rfl (by rfl) mc ?_
 intro W6 b7 mS
 refine ye rfl rfl rfl rfl rfl rfl (ye rfl rfl rfl rfl rfl rfl (eN (zK (ZQ ZK [3,1,3,3,1,3,3] fL7 (by kernel_rfl) ?_))))
 have bw:=mS.drew
 generalize hw_W11:({ W6 with drawn:=W6.drawn + 1 }:World)=qi at bw ⊢
 refine oR Z (zC Z Z yB Z zD) (oL Z (bw.ldB (j:=1) Z Z Z zN (v:=jV p1.Time) Z) (oR Z (Zw Z Z Z) (oR Z (zC Z Z yB Z zD) (oL Z (bw.ldB (j:=1) Z Z Z zN (v:=jV p1.Time) Z) (oA Z Z (oA Z Z (eN (zK (sR fL7 Z (oM Z Z (oR Z (ZJ Z Z) (oR Z (zC Z Z yb Z Zb) (oR Z (zC Z Z zq Z yA) (oL Z (bw.ldC (f:=2) mU (v:=.slice bI p0.Record.Decisions.length bJ) Z Z yN Z) (oR Z (ze Z Z ZT) (oM Z Z (eN (zU ?_))))))))))))))))))
 have q:=bnd hm
 obtain ⟨⟨rq,rt,bq⟩,n3,dY⟩:=q
 try dsimp only at dY
 have q:=wBM n3
 obtain ⟨cg,n4⟩:=q
 replace cg:=zG cg
 refine CK.forN' (fun bp (cw,dF,aM) J_ w_=>∃ (U_:PHeap) (bn:Array MapEntry) (bs:Nat),J_ 23=jV (↑bp:Int)/\J_ 4=.pointer (some ⟨b3,0,none⟩)/\J_ 5=.pointer (some ⟨b7,0,none⟩)/\J_ 8=.bool dF/\J_ 9=jV aM/\J_ 21=.slice bI p0.Record.Decisions.length bJ/\J_ 22=jV (↑p0.Record.Decisions.length:Int)/\PHeap.Le U U_/\SW w [.obj pm2t (.map pe2t pk2t)] U U_ [.blk b7 137 B1,.blk b3 40 B0,.obj pm2t (.map bn bs)] w_/\MpR bn wED wEL cw) n4 ?_ ?_ ?_
 exact ⟨U,pe2t,pk2t,Z,Z,Z,Z,Z,Z,Z,(zQ _),bw,m3⟩
 rintro bp ⟨cw,dF,aM⟩ rp pE qk cd ⟨bK,bn,bs,au,aw,an,dI,aN,ax,ay,aq,dL,jO⟩ eC
 try dsimp only at eC
 have dH:Hid ((↑bp:Int) < (↑p0.Record.Decisions.length:Int)):=zG (wBR cd)
 replace cd:=zG cd
 have n5:Hid (w64 ((↑bp:Int) + 1)=(↑(bp + 1):Int)):=zG (by have h1:=cg.out;have h2:=dH.out;rw [wAa] <;> omega)
 refine sR fL1 Z (oR Z (zR Z au ay) (eN (zK (cT Z dH (kN ?_)))))
 have q:=bnd eC
 obtain ⟨⟨oO,fg,pD⟩,oK,eA⟩:=q
 try dsimp only at eA
 refine YC (fun J_ w_=>∃ (U_:PHeap) (bL:Array MapEntry) (cc:Nat),J_ 4=.pointer (some ⟨b3,0,none⟩)/\J_ 5=.pointer (some ⟨b7,0,none⟩)/\J_ 8=.bool fg/\J_ 9=jV pD/\J_ 21=.slice bI p0.Record.Decisions.length bJ/\J_ 22=jV (↑p0.Record.Decisions.length:Int)/\J_ 23=jV (↑bp:Int)/\PHeap.Le bK U_/\SW w [.obj pm2t (.map pe2t pk2t)] U U_ [.obj pm2t (.map bL cc),.blk b7 137 B1,.blk b3 40 B0] w_/\MpR bL wED wEL oO) ?_ ?_
 refine zU (sR gCk Z (bnK oK fun ac dJ oE=>?_))
 have lk:=m5.le aq
 have q:=lk.el (fun _=>rfl) (wAk dJ)
 obtain ⟨qo,qy,lv,lw⟩:=q
 refine oR Z (ZD Z ax lv au ZT zw (wBi dJ)) (oL Z (dL.ldCA (f:=0) lw Z Z ZZ zw (us:=[jV ac.Number,jV ac.Kind,jV ac.Minute,jV ac.Bib,jV ac.Much,jV ac.About]) Z Z) (zy (cs:=[jV 0,jV 0,jV 0,jV 0,jV 0,jV 0]) Z Z Z Z Z yH Z dL ?_))
 intro qn ak mR
 let B2:List Value:=[jV ac.Number,jV ac.Kind,jV ac.Minute,jV ac.Bib,jV ac.Much,jV ac.About]
 refine ZA (j:=0) (vs:=B2) Z Z Z Z mR Z Z Z Z zw (zB Z) Z Z Z ?_
 intro bO mT
 have bM:SW w [.obj pm2t (.map pe2t pk2t)] U bK [.blk ak 46 B2,.blk b7 137 B1,.blk b3 40 B0,.obj pm2t (.map bn bs)] bO:=mT
 refine eN (sR (wEv (.fx 4 .nil .stop)) Z (oL Z (bM.ldBA (j:=1) Z Z an Tryz.isAgg137 Tryz.sizeOf137 (vs:=B1) Z Z) (oL Z (bM.ldBA (j:=0) Z Z Z ZZ zw (vs:=B2) Z Z) (oR Z (zC Z aw yB Z zD) (oL Z (bM.ldB (j:=2) Z Z Z zN (v:=jV p1.Bib) Z) ?_)))))
 have ln:=m6.le aq
 have lp:=m7.le aq
 have aP:=m8.le aq
 have aQ:=m9.le aq
 have aR:=n2.le aq
 have lq:=mV.le aq
 have aS:=mW.le aq
 have aT:=mX.le aq
 have aU:=mY.le aq
 have aV:=mZ.le aq
 have aW:=m2.le aq
 have ls:=m4.le aq
 have q:=bnd oE
 obtain ⟨⟨rn,ro⟩,lu,eB⟩:=q
 try dsimp only at eB
 have lx:SW w [.obj pm2t (.map pe2t pk2t)] U bK [.obj pm2t (.map bn bs),.blk ak 46 B2,.blk b7 137 B1,.blk b3 40 B0] bO:=bM.pick [3,0,1,2] _ (by decide) rfl
 refine zI 1 Z Z Z Z (zJ Z Z Tryz.call136 (zA Z (zA Z (zA Z zM))) Z) lx (fun hs=>wIM (p2.1,p2.2.1,cw) pb2a pb2b pb2c pb2v pb2f pb2g pq2d pA2d_0_1 pc2d_0_1 pA2d_0_2 pc2d_0_2 pm2d_1 pe2d_1 pk2d_1 pm2d_2 pe2d_2 pk2d_2 pm2t bn bs pA2o pc2o ac p1.Bib bO bK hs ln lp aP aQ aR lq aS aT aU aV aW jO ls lu) (.inl Z) ?_
 rintro av pH qz ao aa ly ⟨af,ae,rfl,rfl,aO⟩
 have az:SW w [.obj pm2t (.map pe2t pk2t)] U av [.obj pm2t (.map af ae),.blk ak 46 B2,.blk b7 137 B1,.blk b3 40 B0] ao:=ly
 refine eN (ifc eB ?_ ?_)
 intro bP n7
 refine zx (congrArg nH bP.out) (sR fL7 Z (oM Z dI (oM Z Z (ifc n7 ?_ ?_))))
 intro aX dN
 refine zW Z Z Z (zY Z Z (congrArg nH aX.out) Z) (zW Z Z Z (zY Z Z (congrArg nH aX.out) Z) (zW Z Z Z (zY Z Z (congrArg nH aX.out) Z) (oR Z (zV Z (congrArg nH aX.out) Z) (oA Z Z (eN ?_)))))
 by_cases bQ:ac.Kind=0
 have dO:=dN;rw [if_pos bQ] at dO
 refine ZQ ZK [2,3,1,3,3,3,3,1,1,2,2,3] (.fl 1 (.fl 2 (wHl gCl))) (by kernel_rfl) ?_
 have bx:=az.drew
 generalize hw_W118:({ ao with drawn:=ao.drawn + 1 }:World)=eK at bx ⊢
 refine oR Z (zC Z Z zd Z Zi) (oL Z (bx.ldB (j:=1) Z Z Z Zo (v:=jV ac.Kind) Z) (oM Z aN (oR Z (zC Z an ZP Z yL) (oL Z (bx.ldB (j:=2) Z Z Z yc (v:=.func (.func 91) #[] #[.pointer (some ⟨pb2v,0,none⟩)]) Z) (oL Z (bx.ldBA (j:=1) Z Z Z ZZ zw (vs:=B2) Z Z) ?_)))))
 have q:=bnd dO
 obtain ⟨⟨⟩,fC,dP⟩:=q
 try dsimp only at dP
 refine zI 0 Z Z Z Z (zJ Z Z yt zM Z) bx (fun hs=>wBu eK av hs fC) (.inr Z) ?_
 rintro cx pI qA df aY lz ⟨rfl,rfl⟩
 have lA:SW w [.obj pm2t (.map pe2t pk2t)] U cx [.obj pm2t (.map af ae),.blk ak 46 B2,.blk b7 137 B1,.blk b3 40 B0] df:=lz
 refine zT rfl rfl rfl rfl (fun _=>(Runs.ixA (i:=0) rfl rfl (congrArg (jV) bQ) Zx Zg (by decide) (by decide) (wEg yq Zg rfl))) (zT rfl rfl rfl rfl (fun _=>Runs.fld rfl rfl yF rfl (wEB yu (v:=.func (.func 214) #[] #[]) rfl)) ?_)
 have fD:=aQ.le aa
 have fE:=fD.le aY
 have fG:=aR.le aa
 have fH:=fG.le aY
 have fI:=aP.le aa
 have fJ:=fI.le aY
 have fK:=aS.le aa
 have fL:=fK.le aY
 have fM:=aT.le aa
 have fN:=fM.le aY
 have fO:=aU.le aa
 have fP:=fO.le aY
 have fQ:=aV.le aa
 have fR:=fQ.le aY
 have fS:=aW.le aa
 have fT:=fS.le aY
 refine bnK dP fun pm fU n8=>zI 0 Z Z Z Z (zJ Z Z YB (zA Z zM) Z) lA (fun hs=>wBJ ac p2.1 pb2v (.func (.func 85) #[] #[.pointer (some ⟨pb2a,0,none⟩),.pointer (some ⟨pb2b,0,none⟩),.pointer (some ⟨pb2c,0,none⟩),.pointer (some ⟨pb2v,0,none⟩)]) (.func (.func 87) #[] #[.pointer (some ⟨pb2f,0,none⟩)]) (.func (.func 88) #[] #[.pointer (some ⟨pb2v,0,none⟩),.pointer (some ⟨pb2g,0,none⟩)]) pb2f pb2c pq2d pA2d_0_1 pc2d_0_1 pA2d_0_2 pc2d_0_2 pm2d_1 pe2d_1 pk2d_1 pm2d_2 pe2d_2 pk2d_2 pb2v df cx hs fE fH fJ fL fN fP fR fT fU) (.inr Z) ?_
 rintro cy pJ qB dg oP lB ⟨rfl,rfl⟩
 have lC:SW w [.obj pm2t (.map pe2t pk2t)] U cy [.obj pm2t (.map af ae),.blk ak 46 B2,.blk b7 137 B1,.blk b3 40 B0] dg:=lB
 refine bnK n8 fun q9 fV n9=>zI 0 Z Z Z Z (zJ Z Z Tryz.call214 (zA Z (zA Z zM)) Z) lC (fun hs=>wEI aM pm dg cy hs fV) (.inr Z) ?_
 rintro cz pK qC eM oQ lD ⟨rfl,rfl⟩
 have lE:SW w [.obj pm2t (.map pe2t pk2t)] U cz [.obj pm2t (.map af ae),.blk ak 46 B2,.blk b7 137 B1,.blk b3 40 B0] eM:=lD
 refine oA Z Z (zb (za ?_))
 cases n9
 exact zF ⟨rfl,⟨cz,af,ae,aw,an,rfl,rfl,ax,ay,au,(((aa.trans aY).trans oP).trans oQ),(lE.pick [0,2,3] _ (by decide) rfl),aO⟩⟩
 have ch:=dN;rw [if_neg bQ] at ch
 by_cases bR:ac.Kind=1
 have dQ:=ch;rw [if_pos bR] at dQ
 refine ZQ ZK [2,3,1,3,3,3,3,1,1,2,2,3] (.fl 1 (.fl 2 (wHl gCl))) (by kernel_rfl) ?_
 have bz:=az.drew
 generalize hw_W173:({ ao with drawn:=ao.drawn + 1 }:World)=eO at bz ⊢
 refine oR Z (zC Z Z zd Z Zi) (oL Z (bz.ldB (j:=1) Z Z Z Zo (v:=jV ac.Kind) Z) (oM Z aN (oR Z (zC Z an ZP Z yL) (oL Z (bz.ldB (j:=2) Z Z Z yc (v:=.func (.func 91) #[] #[.pointer (some ⟨pb2v,0,none⟩)]) Z) (oL Z (bz.ldBA (j:=1) Z Z Z ZZ zw (vs:=B2) Z Z) ?_)))))
 have q:=bnd dQ
 obtain ⟨⟨⟩,fW,dR⟩:=q
 try dsimp only at dR
 refine zI 0 Z Z Z Z (zJ Z Z yt zM Z) bz (fun hs=>wBu eO av hs fW) (.inr Z) ?_
 rintro cA pL qD dh aZ lG ⟨rfl,rfl⟩
 have lH:SW w [.obj pm2t (.map pe2t pk2t)] U cA [.obj pm2t (.map af ae),.blk ak 46 B2,.blk b7 137 B1,.blk b3 40 B0] dh:=lG
 refine zT rfl rfl rfl rfl (fun _=>(Runs.ixA (i:=1) rfl rfl (congrArg (jV) bR) Zx Zg (by decide) (by decide) (wEg yq Zg rfl))) (zT rfl rfl rfl rfl (fun _=>Runs.fld rfl rfl yF rfl (wEB yu (v:=.func (.func 215) #[] #[]) rfl)) ?_)
 have fY:=aQ.le aa
 have fZ:=fY.le aZ
 have f0:=aR.le aa
 have f3:=f0.le aZ
 have f4:=aP.le aa
 have f7:=f4.le aZ
 have f8:=aS.le aa
 have f9:=f8.le aZ
 have gb:=aT.le aa
 have gc:=gb.le aZ
 have ge:=aU.le aa
 have gf:=ge.le aZ
 have gg:=aV.le aa
 have gh:=gg.le aZ
 have gi:=aW.le aa
 have gj:=gi.le aZ
 refine bnK dR fun pn gm oa=>zI 0 Z Z Z Z (zJ Z Z YB (zA Z zM) Z) lH (fun hs=>wBJ ac p2.1 pb2v (.func (.func 85) #[] #[.pointer (some ⟨pb2a,0,none⟩),.pointer (some ⟨pb2b,0,none⟩),.pointer (some ⟨pb2c,0,none⟩),.pointer (some ⟨pb2v,0,none⟩)]) (.func (.func 87) #[] #[.pointer (some ⟨pb2f,0,none⟩)]) (.func (.func 88) #[] #[.pointer (some ⟨pb2v,0,none⟩),.pointer (some ⟨pb2g,0,none⟩)]) pb2f pb2c pq2d pA2d_0_1 pc2d_0_1 pA2d_0_2 pc2d_0_2 pm2d_1 pe2d_1 pk2d_1 pm2d_2 pe2d_2 pk2d_2 pb2v dh cA hs fZ f3 f7 f9 gc gf gh gj gm) (.inr Z) ?_
 rintro cB pM qE di oS lI ⟨rfl,rfl⟩
 have lJ:SW w [.obj pm2t (.map pe2t pk2t)] U cB [.obj pm2t (.map af ae),.blk ak 46 B2,.blk b7 137 B1,.blk b3 40 B0] di:=lI
 refine bnK oa fun rc gq oc=>zI 0 Z Z Z Z (zJ Z Z Tryz.call215 (zA Z (zA Z zM)) Z) lJ (fun hs=>wFk aM pn di cB hs gq) (.inr Z) ?_
 rintro cC pN qF eP oU lK ⟨rfl,rfl⟩
 have lL:SW w [.obj pm2t (.map pe2t pk2t)] U cC [.obj pm2t (.map af ae),.blk ak 46 B2,.blk b7 137 B1,.blk b3 40 B0] eP:=lK
 refine oA Z Z (zb (za ?_))
 cases oc
 exact zF ⟨rfl,⟨cC,af,ae,aw,an,rfl,rfl,ax,ay,au,(((aa.trans aZ).trans oS).trans oU),(lL.pick [0,2,3] _ (by decide) rfl),aO⟩⟩
 have ci:=ch;rw [if_neg bR] at ci
 by_cases bS:ac.Kind=2
 have dS:=ci;rw [if_pos bS] at dS
 refine ZQ ZK [2,3,1,3,3,3,3,1,1,2,2,3] (.fl 1 (.fl 2 (wHl gCl))) (by kernel_rfl) ?_
 have bA:=az.drew
 generalize hw_W228:({ ao with drawn:=ao.drawn + 1 }:World)=eQ at bA ⊢
 refine oR Z (zC Z Z zd Z Zi) (oL Z (bA.ldB (j:=1) Z Z Z Zo (v:=jV ac.Kind) Z) (oM Z aN (oR Z (zC Z an ZP Z yL) (oL Z (bA.ldB (j:=2) Z Z Z yc (v:=.func (.func 91) #[] #[.pointer (some ⟨pb2v,0,none⟩)]) Z) (oL Z (bA.ldBA (j:=1) Z Z Z ZZ zw (vs:=B2) Z Z) ?_)))))
 have q:=bnd dS
 obtain ⟨⟨⟩,gr,dT⟩:=q
 try dsimp only at dT
 refine zI 0 Z Z Z Z (zJ Z Z yt zM Z) bA (fun hs=>wBu eQ av hs gr) (.inr Z) ?_
 rintro cD pO qG dm ba lM ⟨rfl,rfl⟩
 have lN:SW w [.obj pm2t (.map pe2t pk2t)] U cD [.obj pm2t (.map af ae),.blk ak 46 B2,.blk b7 137 B1,.blk b3 40 B0] dm:=lM
 refine zT rfl rfl rfl rfl (fun _=>(Runs.ixA (i:=2) rfl rfl (congrArg (jV) bS) Zx Zg (by decide) (by decide) (wEg yq Zg rfl))) (zT rfl rfl rfl rfl (fun _=>Runs.fld rfl rfl yF rfl (wEB yu (v:=.func (.func 216) #[] #[]) rfl)) ?_)
 have gu:=aQ.le aa
 have gv:=gu.le ba
 have gw:=aR.le aa
 have gx:=gw.le ba
 have gy:=aP.le aa
 have gz:=gy.le ba
 have gA:=aS.le aa
 have gB:=gA.le ba
 have gC:=aT.le aa
 have gD:=gC.le ba
 have gE:=aU.le aa
 have gF:=gE.le ba
 have gG:=aV.le aa
 have gH:=gG.le ba
 have gI:=aW.le aa
 have gJ:=gI.le ba
 refine bnK dT fun po gK od=>zI 0 Z Z Z Z (zJ Z Z YB (zA Z zM) Z) lN (fun hs=>wBJ ac p2.1 pb2v (.func (.func 85) #[] #[.pointer (some ⟨pb2a,0,none⟩),.pointer (some ⟨pb2b,0,none⟩),.pointer (some ⟨pb2c,0,none⟩),.pointer (some ⟨pb2v,0,none⟩)]) (.func (.func 87) #[] #[.pointer (some ⟨pb2f,0,none⟩)]) (.func (.func 88) #[] #[.pointer (some ⟨pb2v,0,none⟩),.pointer (some ⟨pb2g,0,none⟩)]) pb2f pb2c pq2d pA2d_0_1 pc2d_0_1 pA2d_0_2 pc2d_0_2 pm2d_1 pe2d_1 pk2d_1 pm2d_2 pe2d_2 pk2d_2 pb2v dm cD hs gv gx gz gB gD gF gH gJ gK) (.inr Z) ?_
 rintro cE pP qH dn oV lP ⟨rfl,rfl⟩
 have lQ:SW w [.obj pm2t (.map pe2t pk2t)] U cE [.obj pm2t (.map af ae),.blk ak 46 B2,.blk b7 137 B1,.blk b3 40 B0] dn:=lP
 refine bnK od fun rd gL oe=>zI 0 Z Z Z Z (zJ Z Z Tryz.call216 (zA Z (zA Z zM)) Z) lQ (fun hs=>wFl aM po dn cE hs gL) (.inr Z) ?_
 rintro cG pQ qI eR oW lR ⟨rfl,rfl⟩
 have lS:SW w [.obj pm2t (.map pe2t pk2t)] U cG [.obj pm2t (.map af ae),.blk ak 46 B2,.blk b7 137 B1,.blk b3 40 B0] eR:=lR
 refine oA Z Z (zb (za ?_))
 cases oe
 exact zF ⟨rfl,⟨cG,af,ae,aw,an,rfl,rfl,ax,ay,au,(((aa.trans ba).trans oV).trans oW),(lS.pick [0,2,3] _ (by decide) rfl),aO⟩⟩
 have cj:=ci;rw [if_neg bS] at cj
 by_cases bT:ac.Kind=3
 have dU:=cj;rw [if_pos bT] at dU
 refine ZQ ZK [2,3,1,3,3,3,3,1,1,2,2,3] (.fl 1 (.fl 2 (wHl gCl))) (by kernel_rfl) ?_
 have bB:=az.drew
 generalize hw_W283:({ ao with drawn:=ao.drawn + 1 }:World)=eS at bB ⊢
 refine oR Z (zC Z Z zd Z Zi) (oL Z (bB.ldB (j:=1) Z Z Z Zo (v:=jV ac.Kind) Z) (oM Z aN (oR Z (zC Z an ZP Z yL) (oL Z (bB.ldB (j:=2) Z Z Z yc (v:=.func (.func 91) #[] #[.pointer (some ⟨pb2v,0,none⟩)]) Z) (oL Z (bB.ldBA (j:=1) Z Z Z ZZ zw (vs:=B2) Z Z) ?_)))))
 have q:=bnd dU
 obtain ⟨⟨⟩,gM,dV⟩:=q
 try dsimp only at dV
 refine zI 0 Z Z Z Z (zJ Z Z yt zM Z) bB (fun hs=>wBu eS av hs gM) (.inr Z) ?_
 rintro cH pR qJ dp bb lT ⟨rfl,rfl⟩
 have lU:SW w [.obj pm2t (.map pe2t pk2t)] U cH [.obj pm2t (.map af ae),.blk ak 46 B2,.blk b7 137 B1,.blk b3 40 B0] dp:=lT
 refine zT rfl rfl rfl rfl (fun _=>(Runs.ixA (i:=3) rfl rfl (congrArg (jV) bT) Zx Zg (by decide) (by decide) (wEg yq Zg rfl))) (zT rfl rfl rfl rfl (fun _=>Runs.fld rfl rfl yF rfl (wEB yu (v:=.func (.func 217) #[] #[]) rfl)) ?_)
 have gN:=aQ.le aa
 have gO:=gN.le bb
 have gP:=aR.le aa
 have gQ:=gP.le bb
 have gR:=aP.le aa
 have gS:=gR.le bb
 have gT:=aS.le aa
 have gU:=gT.le bb
 have gV:=aT.le aa
 have gW:=gV.le bb
 have gX:=aU.le aa
 have gY:=gX.le bb
 have g6:=aV.le aa
 have g7:=g6.le bb
 have g8:=aW.le aa
 have g9:=g8.le bb
 refine bnK dV fun pp ib og=>zI 0 Z Z Z Z (zJ Z Z YB (zA Z zM) Z) lU (fun hs=>wBJ ac p2.1 pb2v (.func (.func 85) #[] #[.pointer (some ⟨pb2a,0,none⟩),.pointer (some ⟨pb2b,0,none⟩),.pointer (some ⟨pb2c,0,none⟩),.pointer (some ⟨pb2v,0,none⟩)]) (.func (.func 87) #[] #[.pointer (some ⟨pb2f,0,none⟩)]) (.func (.func 88) #[] #[.pointer (some ⟨pb2v,0,none⟩),.pointer (some ⟨pb2g,0,none⟩)]) pb2f pb2c pq2d pA2d_0_1 pc2d_0_1 pA2d_0_2 pc2d_0_2 pm2d_1 pe2d_1 pk2d_1 pm2d_2 pe2d_2 pk2d_2 pb2v dp cH hs gO gQ gS gU gW gY g7 g9 ib) (.inr Z) ?_
 rintro cI pS qK dq oX lV ⟨rfl,rfl⟩
 have lW:SW w [.obj pm2t (.map pe2t pk2t)] U cI [.obj pm2t (.map af ae),.blk ak 46 B2,.blk b7 137 B1,.blk b3 40 B0] dq:=lV
 refine bnK og fun re ic oh=>zI 0 Z Z Z Z (zJ Z Z Tryz.call217 (zA Z (zA Z zM)) Z) lW (fun hs=>wFm aM pp dq cI hs ic) (.inr Z) ?_
 rintro cJ pT qL eT oY lX ⟨rfl,rfl⟩
 have lY:SW w [.obj pm2t (.map pe2t pk2t)] U cJ [.obj pm2t (.map af ae),.blk ak 46 B2,.blk b7 137 B1,.blk b3 40 B0] eT:=lX
 refine oA Z Z (zb (za ?_))
 cases oh
 exact zF ⟨rfl,⟨cJ,af,ae,aw,an,rfl,rfl,ax,ay,au,(((aa.trans bb).trans oX).trans oY),(lY.pick [0,2,3] _ (by decide) rfl),aO⟩⟩
 have cm:=cj;rw [if_neg bT] at cm
 by_cases bU:ac.Kind=4
 have dW:=cm;rw [if_pos bU] at dW
 refine ZQ ZK [2,3,1,3,3,3,3,1,1,2,2,3] (.fl 1 (.fl 2 (wHl gCl))) (by kernel_rfl) ?_
 have bC:=az.drew
 generalize hw_W338:({ ao with drawn:=ao.drawn + 1 }:World)=eU at bC ⊢
 refine oR Z (zC Z Z zd Z Zi) (oL Z (bC.ldB (j:=1) Z Z Z Zo (v:=jV ac.Kind) Z) (oM Z aN (oR Z (zC Z an ZP Z yL) (oL Z (bC.ldB (j:=2) Z Z Z yc (v:=.func (.func 91) #[] #[.pointer (some ⟨pb2v,0,none⟩)]) Z) (oL Z (bC.ldBA (j:=1) Z Z Z ZZ zw (vs:=B2) Z Z) ?_)))))
 have q:=bnd dW
 obtain ⟨⟨⟩,ie,dX⟩:=q
 try dsimp only at dX
 refine zI 0 Z Z Z Z (zJ Z Z yt zM Z) bC (fun hs=>wBu eU av hs ie) (.inr Z) ?_
 rintro cK pU qM dr be l0 ⟨rfl,rfl⟩
 have l4:SW w [.obj pm2t (.map pe2t pk2t)] U cK [.obj pm2t (.map af ae),.blk ak 46 B2,.blk b7 137 B1,.blk b3 40 B0] dr:=l0
 refine zT rfl rfl rfl rfl (fun _=>(Runs.ixA (i:=4) rfl rfl (congrArg (jV) bU) Zx Zg (by decide) (by decide) (wEg yq Zg rfl))) (zT rfl rfl rfl rfl (fun _=>Runs.fld rfl rfl yF rfl (wEB yu (v:=.func (.func 214) #[] #[]) rfl)) ?_)
 have ig:=aQ.le aa
 have ii:=ig.le be
 have ij:=aR.le aa
 have ik:=ij.le be
 have il:=aP.le aa
 have im:=il.le be
 have io:=aS.le aa
 have ip:=io.le be
 have iq:=aT.le aa
 have ir:=iq.le be
 have it:=aU.le aa
 have iu:=it.le be
 have iv:=aV.le aa
 have iw:=iv.le be
 have ix:=aW.le aa
 have iy:=ix.le be
 refine bnK dX fun pq iz oj=>zI 0 Z Z Z Z (zJ Z Z YB (zA Z zM) Z) l4 (fun hs=>wBJ ac p2.1 pb2v (.func (.func 85) #[] #[.pointer (some ⟨pb2a,0,none⟩),.pointer (some ⟨pb2b,0,none⟩),.pointer (some ⟨pb2c,0,none⟩),.pointer (some ⟨pb2v,0,none⟩)]) (.func (.func 87) #[] #[.pointer (some ⟨pb2f,0,none⟩)]) (.func (.func 88) #[] #[.pointer (some ⟨pb2v,0,none⟩),.pointer (some ⟨pb2g,0,none⟩)]) pb2f pb2c pq2d pA2d_0_1 pc2d_0_1 pA2d_0_2 pc2d_0_2 pm2d_1 pe2d_1 pk2d_1 pm2d_2 pe2d_2 pk2d_2 pb2v dr cK hs ii ik im ip ir iu iw iy iz) (.inr Z) ?_
 rintro cL pV qN dt oZ l5 ⟨rfl,rfl⟩
 have l6:SW w [.obj pm2t (.map pe2t pk2t)] U cL [.obj pm2t (.map af ae),.blk ak 46 B2,.blk b7 137 B1,.blk b3 40 B0] dt:=l5
 refine bnK oj fun rf iA om=>zI 0 Z Z Z Z (zJ Z Z Tryz.call214 (zA Z (zA Z zM)) Z) l6 (fun hs=>wEI aM pq dt cL hs iA) (.inr Z) ?_
 rintro cM pW qO eV o0 ma ⟨rfl,rfl⟩
 have mb:SW w [.obj pm2t (.map pe2t pk2t)] U cM [.obj pm2t (.map af ae),.blk ak 46 B2,.blk b7 137 B1,.blk b3 40 B0] eV:=ma
 refine oA Z Z (zb (za ?_))
 cases om
 exact zF ⟨rfl,⟨cM,af,ae,aw,an,rfl,rfl,ax,ay,au,(((aa.trans be).trans oZ).trans o0),(mb.pick [0,2,3] _ (by decide) rfl),aO⟩⟩
 have dZ:=cm;rw [if_neg bU] at dZ
 cases dZ
 intro aX d5
 refine zT Z Z Z (zL Z Z (congrArg nH (nI.2 aX.out))) (fun _=>zC Z Z zd Z Zi) (zn Z Z Z (zL Z Z (congrArg nH (nI.2 aX.out))) (az.ldB (j:=1) Z Z Z Zo (v:=jV ac.Kind) Z) Z (zT Z Z Z (zL Z Z (congrArg nH (nI.2 aX.out))) (fun _=>Zw Z Z Z) (oR Z (zS Z (congrArg nH (nI.2 aX.out)) Z) (oA Z Z (eN ?_)))))
 by_cases bV:ac.Kind=0
 have d6:=d5;rw [if_pos bV] at d6
 refine ZQ ZK [2,3,1,3,3,3,3,1,1,2,2,3] (.fl 1 (.fl 2 (wHl gCl))) (by kernel_rfl) ?_
 have bD:=az.drew
 generalize hw_W394:({ ao with drawn:=ao.drawn + 1 }:World)=eW at bD ⊢
 refine oR Z (zC Z Z zd Z Zi) (oL Z (bD.ldB (j:=1) Z Z Z Zo (v:=jV ac.Kind) Z) (oM Z aN (oR Z (zC Z an ZP Z yL) (oL Z (bD.ldB (j:=2) Z Z Z yc (v:=.func (.func 91) #[] #[.pointer (some ⟨pb2v,0,none⟩)]) Z) (oL Z (bD.ldBA (j:=1) Z Z Z ZZ zw (vs:=B2) Z Z) ?_)))))
 have q:=bnd d6
 obtain ⟨⟨⟩,iB,d7⟩:=q
 try dsimp only at d7
 refine zI 0 Z Z Z Z (zJ Z Z yt zM Z) bD (fun hs=>wBu eW av hs iB) (.inr Z) ?_
 rintro cN pX qP du bg md ⟨rfl,rfl⟩
 have me:SW w [.obj pm2t (.map pe2t pk2t)] U cN [.obj pm2t (.map af ae),.blk ak 46 B2,.blk b7 137 B1,.blk b3 40 B0] du:=md
 refine zT rfl rfl rfl rfl (fun _=>(Runs.ixA (i:=0) rfl rfl (congrArg (jV) bV) Zx Zg (by decide) (by decide) (wEg yq Zg rfl))) (zT rfl rfl rfl rfl (fun _=>Runs.fld rfl rfl yF rfl (wEB yu (v:=.func (.func 214) #[] #[]) rfl)) ?_)
 have iC:=aQ.le aa
 have iD:=iC.le bg
 have iE:=aR.le aa
 have iF:=iE.le bg
 have iG:=aP.le aa
 have iH:=iG.le bg
 have iI:=aS.le aa
 have iJ:=iI.le bg
 have iK:=aT.le aa
 have iL:=iK.le bg
 have iM:=aU.le aa
 have iN:=iM.le bg
 have iO:=aV.le aa
 have iP:=iO.le bg
 have iQ:=aW.le aa
 have iR:=iQ.le bg
 refine bnK d7 fun pt iS oq=>zI 0 Z Z Z Z (zJ Z Z YB (zA Z zM) Z) me (fun hs=>wBJ ac p2.1 pb2v (.func (.func 85) #[] #[.pointer (some ⟨pb2a,0,none⟩),.pointer (some ⟨pb2b,0,none⟩),.pointer (some ⟨pb2c,0,none⟩),.pointer (some ⟨pb2v,0,none⟩)]) (.func (.func 87) #[] #[.pointer (some ⟨pb2f,0,none⟩)]) (.func (.func 88) #[] #[.pointer (some ⟨pb2v,0,none⟩),.pointer (some ⟨pb2g,0,none⟩)]) pb2f pb2c pq2d pA2d_0_1 pc2d_0_1 pA2d_0_2 pc2d_0_2 pm2d_1 pe2d_1 pk2d_1 pm2d_2 pe2d_2 pk2d_2 pb2v du cN hs iD iF iH iJ iL iN iP iR iS) (.inr Z) ?_
 rintro cO pY qQ dv o3 mf ⟨rfl,rfl⟩
 have mg:SW w [.obj pm2t (.map pe2t pk2t)] U cO [.obj pm2t (.map af ae),.blk ak 46 B2,.blk b7 137 B1,.blk b3 40 B0] dv:=mf
 refine bnK oq fun rg iT ot=>zI 0 Z Z Z Z (zJ Z Z Tryz.call214 (zA Z (zA Z zM)) Z) mg (fun hs=>wEI aM pt dv cO hs iT) (.inr Z) ?_
 rintro cP pZ qR eX o5 mh ⟨rfl,rfl⟩
 have mi:SW w [.obj pm2t (.map pe2t pk2t)] U cP [.obj pm2t (.map af ae),.blk ak 46 B2,.blk b7 137 B1,.blk b3 40 B0] eX:=mh
 refine oA Z Z (zb (za ?_))
 cases ot
 exact zF ⟨rfl,⟨cP,af,ae,aw,an,rfl,rfl,ax,ay,au,(((aa.trans bg).trans o3).trans o5),(mi.pick [0,2,3] _ (by decide) rfl),aO⟩⟩
 have co:=d5;rw [if_neg bV] at co
 by_cases bW:ac.Kind=1
 have d8:=co;rw [if_pos bW] at d8
 refine ZQ ZK [2,3,1,3,3,3,3,1,1,2,2,3] (.fl 1 (.fl 2 (wHl gCl))) (by kernel_rfl) ?_
 have bE:=az.drew
 generalize hw_W449:({ ao with drawn:=ao.drawn + 1 }:World)=eY at bE ⊢
 refine oR Z (zC Z Z zd Z Zi) (oL Z (bE.ldB (j:=1) Z Z Z Zo (v:=jV ac.Kind) Z) (oM Z aN (oR Z (zC Z an ZP Z yL) (oL Z (bE.ldB (j:=2) Z Z Z yc (v:=.func (.func 91) #[] #[.pointer (some ⟨pb2v,0,none⟩)]) Z) (oL Z (bE.ldBA (j:=1) Z Z Z ZZ zw (vs:=B2) Z Z) ?_)))))
 have q:=bnd d8
 obtain ⟨⟨⟩,iU,d9⟩:=q
 try dsimp only at d9
 refine zI 0 Z Z Z Z (zJ Z Z yt zM Z) bE (fun hs=>wBu eY av hs iU) (.inr Z) ?_
 rintro cQ p5 qS dw bh mj ⟨rfl,rfl⟩
 have ml:SW w [.obj pm2t (.map pe2t pk2t)] U cQ [.obj pm2t (.map af ae),.blk ak 46 B2,.blk b7 137 B1,.blk b3 40 B0] dw:=mj
 refine zT rfl rfl rfl rfl (fun _=>(Runs.ixA (i:=1) rfl rfl (congrArg (jV) bW) Zx Zg (by decide) (by decide) (wEg yq Zg rfl))) (zT rfl rfl rfl rfl (fun _=>Runs.fld rfl rfl yF rfl (wEB yu (v:=.func (.func 215) #[] #[]) rfl)) ?_)
 have iV:=aQ.le aa
 have iW:=iV.le bh
 have iX:=aR.le aa
 have iY:=iX.le bh
 have iZ:=aP.le aa
 have i4:=iZ.le bh
 have i5:=aS.le aa
 have i6:=i5.le bh
 have i7:=aT.le aa
 have i8:=i7.le bh
 have i9:=aU.le aa
 have ja:=i9.le bh
 have jb:=aV.le aa
 have jc:=jb.le bh
 have jd:=aW.le aa
 have je:=jd.le bh
 refine bnK d9 fun pu jf ou=>zI 0 Z Z Z Z (zJ Z Z YB (zA Z zM) Z) ml (fun hs=>wBJ ac p2.1 pb2v (.func (.func 85) #[] #[.pointer (some ⟨pb2a,0,none⟩),.pointer (some ⟨pb2b,0,none⟩),.pointer (some ⟨pb2c,0,none⟩),.pointer (some ⟨pb2v,0,none⟩)]) (.func (.func 87) #[] #[.pointer (some ⟨pb2f,0,none⟩)]) (.func (.func 88) #[] #[.pointer (some ⟨pb2v,0,none⟩),.pointer (some ⟨pb2g,0,none⟩)]) pb2f pb2c pq2d pA2d_0_1 pc2d_0_1 pA2d_0_2 pc2d_0_2 pm2d_1 pe2d_1 pk2d_1 pm2d_2 pe2d_2 pk2d_2 pb2v dw cQ hs iW iY i4 i6 i8 ja jc je jf) (.inr Z) ?_
 rintro cR p6 qT dx o6 mm ⟨rfl,rfl⟩
 have mn:SW w [.obj pm2t (.map pe2t pk2t)] U cR [.obj pm2t (.map af ae),.blk ak 46 B2,.blk b7 137 B1,.blk b3 40 B0] dx:=mm
 refine bnK ou fun rh jg ov=>zI 0 Z Z Z Z (zJ Z Z Tryz.call215 (zA Z (zA Z zM)) Z) mn (fun hs=>wFk aM pu dx cR hs jg) (.inr Z) ?_
 rintro cS p7 qU e7 o7 mo ⟨rfl,rfl⟩
 have mp:SW w [.obj pm2t (.map pe2t pk2t)] U cS [.obj pm2t (.map af ae),.blk ak 46 B2,.blk b7 137 B1,.blk b3 40 B0] e7:=mo
 refine oA Z Z (zb (za ?_))
 cases ov
 exact zF ⟨rfl,⟨cS,af,ae,aw,an,rfl,rfl,ax,ay,au,(((aa.trans bh).trans o6).trans o7),(mp.pick [0,2,3] _ (by decide) rfl),aO⟩⟩
 have cp:=co;rw [if_neg bW] at cp
 by_cases bX:ac.Kind=2
 have eb:=cp;rw [if_pos bX] at eb
 refine ZQ ZK [2,3,1,3,3,3,3,1,1,2,2,3] (.fl 1 (.fl 2 (wHl gCl))) (by kernel_rfl) ?_
 have bF:=az.drew
 generalize hw_W504:({ ao with drawn:=ao.drawn + 1 }:World)=e8 at bF ⊢
 refine oR Z (zC Z Z zd Z Zi) (oL Z (bF.ldB (j:=1) Z Z Z Zo (v:=jV ac.Kind) Z) (oM Z aN (oR Z (zC Z an ZP Z yL) (oL Z (bF.ldB (j:=2) Z Z Z yc (v:=.func (.func 91) #[] #[.pointer (some ⟨pb2v,0,none⟩)]) Z) (oL Z (bF.ldBA (j:=1) Z Z Z ZZ zw (vs:=B2) Z Z) ?_)))))
 have q:=bnd eb
 obtain ⟨⟨⟩,jh,ed⟩:=q
 try dsimp only at ed
 refine zI 0 Z Z Z Z (zJ Z Z yt zM Z) bF (fun hs=>wBu e8 av hs jh) (.inr Z) ?_
 rintro cU p8 qV dy bi mq ⟨rfl,rfl⟩
 have mr:SW w [.obj pm2t (.map pe2t pk2t)] U cU [.obj pm2t (.map af ae),.blk ak 46 B2,.blk b7 137 B1,.blk b3 40 B0] dy:=mq
 refine zT rfl rfl rfl rfl (fun _=>(Runs.ixA (i:=2) rfl rfl (congrArg (jV) bX) Zx Zg (by decide) (by decide) (wEg yq Zg rfl))) (zT rfl rfl rfl rfl (fun _=>Runs.fld rfl rfl yF rfl (wEB yu (v:=.func (.func 216) #[] #[]) rfl)) ?_)
 have ji:=aQ.le aa
 have jj:=ji.le bi
 have jk:=aR.le aa
 have jl:=jk.le bi
 have jm:=aP.le aa
 have jo:=jm.le bi
 have jp:=aS.le aa
 have jq:=jp.le bi
 have jr:=aT.le aa
 have jt:=jr.le bi
 have ju:=aU.le aa
 have jv:=ju.le bi
 have jw:=aV.le aa
 have jx:=jw.le bi
 have jy:=aW.le aa
 have jz:=jy.le bi
 refine bnK ed fun py jA ow=>zI 0 Z Z Z Z (zJ Z Z YB (zA Z zM) Z) mr (fun hs=>wBJ ac p2.1 pb2v (.func (.func 85) #[] #[.pointer (some ⟨pb2a,0,none⟩),.pointer (some ⟨pb2b,0,none⟩),.pointer (some ⟨pb2c,0,none⟩),.pointer (some ⟨pb2v,0,none⟩)]) (.func (.func 87) #[] #[.pointer (some ⟨pb2f,0,none⟩)]) (.func (.func 88) #[] #[.pointer (some ⟨pb2v,0,none⟩),.pointer (some ⟨pb2g,0,none⟩)]) pb2f pb2c pq2d pA2d_0_1 pc2d_0_1 pA2d_0_2 pc2d_0_2 pm2d_1 pe2d_1 pk2d_1 pm2d_2 pe2d_2 pk2d_2 pb2v dy cU hs jj jl jo jq jt jv jx jz jA) (.inr Z) ?_
 rintro cV p9 qW dz o8 ms ⟨rfl,rfl⟩
 have mu:SW w [.obj pm2t (.map pe2t pk2t)] U cV [.obj pm2t (.map af ae),.blk ak 46 B2,.blk b7 137 B1,.blk b3 40 B0] dz:=ms
 refine bnK ow fun ri jB ox=>zI 0 Z Z Z Z (zJ Z Z Tryz.call216 (zA Z (zA Z zM)) Z) mu (fun hs=>wFl aM py dz cV hs jB) (.inr Z) ?_
 rintro cW qa qX e9 o9 mw ⟨rfl,rfl⟩
 have mx:SW w [.obj pm2t (.map pe2t pk2t)] U cW [.obj pm2t (.map af ae),.blk ak 46 B2,.blk b7 137 B1,.blk b3 40 B0] e9:=mw
 refine oA Z Z (zb (za ?_))
 cases ox
 exact zF ⟨rfl,⟨cW,af,ae,aw,an,rfl,rfl,ax,ay,au,(((aa.trans bi).trans o8).trans o9),(mx.pick [0,2,3] _ (by decide) rfl),aO⟩⟩
 have cr:=cp;rw [if_neg bX] at cr
 by_cases bY:ac.Kind=3
 have ee:=cr;rw [if_pos bY] at ee
 refine ZQ ZK [2,3,1,3,3,3,3,1,1,2,2,3] (.fl 1 (.fl 2 (wHl gCl))) (by kernel_rfl) ?_
 have bG:=az.drew
 generalize hw_W559:({ ao with drawn:=ao.drawn + 1 }:World)=fb at bG ⊢
 refine oR Z (zC Z Z zd Z Zi) (oL Z (bG.ldB (j:=1) Z Z Z Zo (v:=jV ac.Kind) Z) (oM Z aN (oR Z (zC Z an ZP Z yL) (oL Z (bG.ldB (j:=2) Z Z Z yc (v:=.func (.func 91) #[] #[.pointer (some ⟨pb2v,0,none⟩)]) Z) (oL Z (bG.ldBA (j:=1) Z Z Z ZZ zw (vs:=B2) Z Z) ?_)))))
 have q:=bnd ee
 obtain ⟨⟨⟩,jC,eh⟩:=q
 try dsimp only at eh
 refine zI 0 Z Z Z Z (zJ Z Z yt zM Z) bG (fun hs=>wBu fb av hs jC) (.inr Z) ?_
 rintro cX qb qY dA bj my ⟨rfl,rfl⟩
 have mz:SW w [.obj pm2t (.map pe2t pk2t)] U cX [.obj pm2t (.map af ae),.blk ak 46 B2,.blk b7 137 B1,.blk b3 40 B0] dA:=my
 refine zT rfl rfl rfl rfl (fun _=>(Runs.ixA (i:=3) rfl rfl (congrArg (jV) bY) Zx Zg (by decide) (by decide) (wEg yq Zg rfl))) (zT rfl rfl rfl rfl (fun _=>Runs.fld rfl rfl yF rfl (wEB yu (v:=.func (.func 217) #[] #[]) rfl)) ?_)
 have jD:=aQ.le aa
 have jE:=jD.le bj
 have jF:=aR.le aa
 have jG:=jF.le bj
 have jH:=aP.le aa
 have jI:=jH.le bj
 have jJ:=aS.le aa
 have jK:=jJ.le bj
 have jL:=aT.le aa
 have jM:=jL.le bj
 have jN:=aU.le aa
 have jP:=jN.le bj
 have jQ:=aV.le aa
 have jR:=jQ.le bj
 have jS:=aW.le aa
 have jT:=jS.le bj
 refine bnK eh fun pz jU oy=>zI 0 Z Z Z Z (zJ Z Z YB (zA Z zM) Z) mz (fun hs=>wBJ ac p2.1 pb2v (.func (.func 85) #[] #[.pointer (some ⟨pb2a,0,none⟩),.pointer (some ⟨pb2b,0,none⟩),.pointer (some ⟨pb2c,0,none⟩),.pointer (some ⟨pb2v,0,none⟩)]) (.func (.func 87) #[] #[.pointer (some ⟨pb2f,0,none⟩)]) (.func (.func 88) #[] #[.pointer (some ⟨pb2v,0,none⟩),.pointer (some ⟨pb2g,0,none⟩)]) pb2f pb2c pq2d pA2d_0_1 pc2d_0_1 pA2d_0_2 pc2d_0_2 pm2d_1 pe2d_1 pk2d_1 pm2d_2 pe2d_2 pk2d_2 pb2v dA cX hs jE jG jI jK jM jP jR jT jU) (.inr Z) ?_
 rintro cY qc qZ dB pa mA ⟨rfl,rfl⟩
 have mB:SW w [.obj pm2t (.map pe2t pk2t)] U cY [.obj pm2t (.map af ae),.blk ak 46 B2,.blk b7 137 B1,.blk b3 40 B0] dB:=mA
 refine bnK oy fun rj jW oz=>zI 0 Z Z Z Z (zJ Z Z Tryz.call217 (zA Z (zA Z zM)) Z) mB (fun hs=>wFm aM pz dB cY hs jW) (.inr Z) ?_
 rintro cZ qd q0 fc pb mC ⟨rfl,rfl⟩
 have mD:SW w [.obj pm2t (.map pe2t pk2t)] U cZ [.obj pm2t (.map af ae),.blk ak 46 B2,.blk b7 137 B1,.blk b3 40 B0] fc:=mC
 refine oA Z Z (zb (za ?_))
 cases oz
 exact zF ⟨rfl,⟨cZ,af,ae,aw,an,rfl,rfl,ax,ay,au,(((aa.trans bj).trans pa).trans pb),(mD.pick [0,2,3] _ (by decide) rfl),aO⟩⟩
 have ct:=cr;rw [if_neg bY] at ct
 by_cases bZ:ac.Kind=4
 have ep:=ct;rw [if_pos bZ] at ep
 refine ZQ ZK [2,3,1,3,3,3,3,1,1,2,2,3] (.fl 1 (.fl 2 (wHl gCl))) (by kernel_rfl) ?_
 have bH:=az.drew
 generalize hw_W614:({ ao with drawn:=ao.drawn + 1 }:World)=fd at bH ⊢
 refine oR Z (zC Z Z zd Z Zi) (oL Z (bH.ldB (j:=1) Z Z Z Zo (v:=jV ac.Kind) Z) (oM Z aN (oR Z (zC Z an ZP Z yL) (oL Z (bH.ldB (j:=2) Z Z Z yc (v:=.func (.func 91) #[] #[.pointer (some ⟨pb2v,0,none⟩)]) Z) (oL Z (bH.ldBA (j:=1) Z Z Z ZZ zw (vs:=B2) Z Z) ?_)))))
 have q:=bnd ep
 obtain ⟨⟨⟩,jX,eu⟩:=q
 try dsimp only at eu
 refine zI 0 Z Z Z Z (zJ Z Z yt zM Z) bH (fun hs=>wBu fd av hs jX) (.inr Z) ?_
 rintro c7 qe q5 dD bk mE ⟨rfl,rfl⟩
 have mF:SW w [.obj pm2t (.map pe2t pk2t)] U c7 [.obj pm2t (.map af ae),.blk ak 46 B2,.blk b7 137 B1,.blk b3 40 B0] dD:=mE
 refine zT rfl rfl rfl rfl (fun _=>(Runs.ixA (i:=4) rfl rfl (congrArg (jV) bZ) Zx Zg (by decide) (by decide) (wEg yq Zg rfl))) (zT rfl rfl rfl rfl (fun _=>Runs.fld rfl rfl yF rfl (wEB yu (v:=.func (.func 214) #[] #[]) rfl)) ?_)
 have jY:=aQ.le aa
 have jZ:=jY.le bk
 have j4:=aR.le aa
 have j5:=j4.le bk
 have j6:=aP.le aa
 have j7:=j6.le bk
 have j8:=aS.le aa
 have j9:=j8.le bk
 have k4:=aT.le aa
 have k5:=k4.le bk
 have k6:=aU.le aa
 have k9:=k6.le bk
 have la:=aV.le aa
 have lb:=la.le bk
 have lc:=aW.le aa
 have lg:=lc.le bk
 refine bnK eu fun pC lh oB=>zI 0 Z Z Z Z (zJ Z Z YB (zA Z zM) Z) mF (fun hs=>wBJ ac p2.1 pb2v (.func (.func 85) #[] #[.pointer (some ⟨pb2a,0,none⟩),.pointer (some ⟨pb2b,0,none⟩),.pointer (some ⟨pb2c,0,none⟩),.pointer (some ⟨pb2v,0,none⟩)]) (.func (.func 87) #[] #[.pointer (some ⟨pb2f,0,none⟩)]) (.func (.func 88) #[] #[.pointer (some ⟨pb2v,0,none⟩),.pointer (some ⟨pb2g,0,none⟩)]) pb2f pb2c pq2d pA2d_0_1 pc2d_0_1 pA2d_0_2 pc2d_0_2 pm2d_1 pe2d_1 pk2d_1 pm2d_2 pe2d_2 pk2d_2 pb2v dD c7 hs jZ j5 j7 j9 k5 k9 lb lg lh) (.inr Z) ?_
 rintro c8 qf q6 dE pd mG ⟨rfl,rfl⟩
 have mH:SW w [.obj pm2t (.map pe2t pk2t)] U c8 [.obj pm2t (.map af ae),.blk ak 46 B2,.blk b7 137 B1,.blk b3 40 B0] dE:=mG
 refine bnK oB fun rk li oC=>zI 0 Z Z Z Z (zJ Z Z Tryz.call214 (zA Z (zA Z zM)) Z) mH (fun hs=>wEI aM pC dE c8 hs li) (.inr Z) ?_
 rintro da qg q7 fe pe mI ⟨rfl,rfl⟩
 have mJ:SW w [.obj pm2t (.map pe2t pk2t)] U da [.obj pm2t (.map af ae),.blk ak 46 B2,.blk b7 137 B1,.blk b3 40 B0] fe:=mI
 refine oA Z Z (zb (za ?_))
 cases oC
 exact zF ⟨rfl,⟨da,af,ae,aw,an,rfl,rfl,ax,ay,au,(((aa.trans bk).trans pd).trans pe),(mJ.pick [0,2,3] _ (by decide) rfl),aO⟩⟩
 have ey:=ct;rw [if_neg bZ] at ey
 cases ey
 intro bP oD
 refine zg (congrArg nH (nI.2 bP.out)) (ZE (za ?_))
 cases oD
 exact zF ⟨rfl,⟨av,af,ae,aw,an,dI,aN,ax,ay,au,aa,(az.pick [0,2,3] _ (by decide) rfl),aO⟩⟩
 rintro pF ql ⟨eJ,bL,cc,fj,fk,fm,fq,ft,fu,fw,pf,mK,lj⟩
 refine rR fL2 Z (oR Z (zr (zX Z fw Z) (congrArg (jV) n5.out)) (oM Z Z (zb ?_)))
 cases eA
 exact zF ⟨rfl,⟨eJ,bL,cc,rfl,fj,fk,fm,fq,ft,fu,(aq.trans pf),(mK.pick [1,2,0] _ (by decide) rfl),lj⟩⟩
 rintro pG qm ⟨db,bu,br,fB,qp,qq,fy,fz,qr,fA,qv,dM,dK⟩
 have fh:Hid (¬ ((↑(((↑p0.Record.Decisions.length:Int):Int) - 0).toNat:Int) < (↑p0.Record.Decisions.length:Int))):=zG (wAr)
 refine sR fL1 Z (oR Z (zR Z fB fA) (eN (zK (cF Z fh (ZG (zc (zc (zz (zF (zK (sR fL1 Z (oM Z fy (eN (ifc dY ?_ ?_))))))))))))))
 intro ca oG
 refine zx (congrArg nH ca.out) (sR fL2 Z (oA Z Z (oA Z Z (eN (zP (zZ ?_))))))
 cases oG
 exact ⟨rfl,_,(wHm rfl rfl),db,_,(dM.pick [2] _ (by decide) rfl),bu,br,rfl,rfl,dK⟩
 intro ca oH
 refine zg (congrArg nH (nI.2 ca.out)) (kN (sR (.fl 0 (.fx 1 (.fx 2 (.fl 3 (.fl 4 .nil)) .stop) .stop)) Z (oM Z fz (ZF (pv:=[(0,jV bq)]) (zs:=[jV 0]) (cs:=[jV bq]) Z Z Z Z Z (wAH Z wAY) zH zD Zr Z Z Z Z Z dM ?_))))
 intro bN dG mL
 have mM:SW w [.obj pm2t (.map pe2t pk2t)] U db [.row (some ⟨dG,0,none⟩) 1 3 1 (hD KL.encI [bq]),.blk b7 137 B1,.blk b3 40 B0,.obj pm2t (.map bu br)] bN:=mL
 have q:=mM.freezeR (k:=0) (n:=[bq].length) rfl (wAG (f:=KL.encI) (sz:=1) (fun _=>rfl) [bq]) (by decide)
 obtain ⟨dd,qw,oJ,mN⟩:=q
 have mO:SW w [.obj pm2t (.map pe2t pk2t)] U dd [.blk b7 137 B1,.blk b3 40 B0,.obj pm2t (.map bu br)] bN:=mN
 refine bnK oH fun rl lm oI=>zI 0 Z Z Z Z (zJ Z Z Tryz.call138 (zA Z (zA Z zM)) Z) mO (fun hs=>wIN 0 [bq] (some ⟨dG,0,none⟩) 1 bN dd hs oJ lm) (.inr Z) ?_
 rintro de qh q8 ff qx mP ⟨rfl,rfl⟩
 have mQ:SW w [.obj pm2t (.map pe2t pk2t)] U de [.blk b7 137 B1,.blk b3 40 B0,.obj pm2t (.map bu br)] ff:=mP
 refine oA Z Z (oA Z Z (eN (zP ?_)))
 cases oI
 exact ⟨rfl,_,(wHm rfl rfl),de,_,(mQ.pick [2] _ (by decide) rfl),bu,br,rfl,rfl,dK⟩
end Go.Proofs.YtlmekamhphnmjaaGreat
namespace Go.Proofs.YtlmekamhphnmjaaGreat
open Go.KL
set_option maxHeartbeats 4000000
theorem wCQ (p0:List wAA) (ae:Option Addr) (af:Nat) (p1:Int) (p2:Int) (p3:((wAA × wAA)->Option Int)) (aO:Value) (w:World) (U:PHeap) (hS:St0 w U [.row ae af 52 3 (hD wAB p0)]) (bO:FnOK Tryz.prog U aO wKZ wKa p3) {r:(List wAA)} (hm:wAi p0 p1 p2 p3=some r):Gv Tryz.prog 218 [.slice ae p0.length af,jV p1,jV p2,aO] w (wBj w [.row ae af 52 3 (hD wAB p0)] U (fun U_ L_ v=>v=.tuple #[]/\L_=[.row ae af 52 3 (hD wAB r)]/\r.length=p0.length)):=by
 unfold wAi at hm
 refine Gv.of Tryz.func218 Z Tryz.ntmps218 Tryz.results218 Z (sR fL3 Z (oM Z Z (oR Z (zX Z Z Z) (oA Z Z (eN (zU ?_))))))
 let B0:Res:=.row ae af 52 3 (hD wAB p0)
 refine YM (fun (l8,x9) J_ w_=>∃ (U_:PHeap),J_ 0=.slice ae l8.length af/\J_ 1=jV p1/\J_ 2=jV p2/\J_ 3=aO/\J_ 8=jV x9/\PHeap.Le U U_/\SW w [B0] U U_ [.row ae af 52 3 (hD wAB l8)] w_/\l8.length=p0.length) hm ?_ ?_
 exact ⟨U,Z,Z,Z,Z,Z,(zQ _),hS,Z⟩
 rintro ⟨l8,x9⟩ cB co ct ⟨aS,bC,bD,bg,bE,aV,bb,bi,bh⟩ aZ bP
 try dsimp only at aZ
 refine zK (sR fL3 Z (oM Z aV (oM Z bg (oR Z (zR Z Z Z) (eN ?_)))))
 by_cases aj:x9 < p2
 have bp:=aZ;rw [if_pos aj] at bp;replace aj:=zG aj
 refine cT Z aj (kN (zK (zU (sR fL2 Z (oM Z aV (oA Z Z (eN (zU (YM (fun (aa,ab) J_ w_=>∃ (U_:PHeap),J_ 0=.slice ae aa.length af/\J_ 1=jV p1/\J_ 2=jV p2/\J_ 3=aO/\J_ 8=jV x9/\J_ 9=jV ab/\PHeap.Le aS U_/\SW w [B0] U U_ [.row ae af 52 3 (hD wAB aa)] w_/\aa.length=p0.length) bp ?_ ?_)))))))))
 exact ⟨aS,bC,bD,bg,bE,aV,Z,(zQ _),bi,bh⟩
 rintro ⟨aa,ab⟩ cC cp be ⟨bu,ai,ax,aW,ay,aX,ak,aN,bI,aY⟩ ba bk
 try dsimp only at ba
 refine zK (zK (ZQ ZK [3,3,3,3,3,3,3,3,1,3,3,3,3,1,2,3,3] (wPt (.fx 14 (.fl 15 (.fl 16 .nil)) .stop)) (by kernel_rfl) ?_))
 have ao:=bI.drew
 generalize hw_W54:({ be with drawn:=be.drawn + 1 }:World)=cw at ao ⊢
 refine oM Z ak (oM Z ax (oR Z (yP Z Z Z) (oM Z Z ?_)))
 by_cases ac:p1 < ab
 have bq:=ba;rw [if_pos ac] at bq;replace ac:=zG ac
 refine zO Z Z Z (wT Z ac) Z ay (zO Z Z Z (wT Z ac) Z ai (zO Z Z Z (wT Z ac) Z ak (bnK bq fun _ ah bY=>?_)))
 obtain ⟨cy,ag⟩:=ao.rowSome (j:=0) rfl (by rw [wAG (f:=wAB) (sz:=3) (fun _=>rfl) aa];have hz:=wAU ah;omega)
 refine rU Z (wT Z ac) (ZU Z Z ag Z zh zf (wCS ah) (wCT ah)) ?_
 have bQ:=wBY (xs:=aa) (wAU ah)
 let B1:List Value:=[jV ((gd aa ab.toNat).Bib),jV ((gd aa ab.toNat).Place),jV ((gd aa ab.toNat).Total)]
 refine zn rfl rfl rfl (zL rfl rfl (ZO ac.out)) (ao.ldRA (j:=0) rfl ag rfl rfl Zy zf (vs:=B1) (wBE (sz:=3) (fun _=>rfl) _ _ _ bQ (by first | omega | rfl | simp) rfl) rfl) rfl (zO rfl rfl rfl (zL rfl rfl (ZO ac.out)) rfl ai (zO rfl rfl rfl (zL rfl rfl (ZO ac.out)) rfl ak (zT rfl rfl rfl (zL rfl rfl (ZO ac.out)) (fun _=>ZN rfl rfl rfl) (bnK bY fun _ an bZ=>zT rfl rfl rfl (zL rfl rfl (ZO ac.out)) (fun _=>ZU rfl rfl ag rfl zh zf (wCS an) (wCT an)) ?_))))
 have bR:=wBY (xs:=aa) (wAU an)
 let B2:List Value:=[jV ((gd aa (w64 (ab - 1)).toNat).Bib),jV ((gd aa (w64 (ab - 1)).toNat).Place),jV ((gd aa (w64 (ab - 1)).toNat).Total)]
 refine zn rfl rfl rfl (zL rfl rfl (ZO ac.out)) (ao.ldRA (j:=0) rfl ag rfl rfl Zy zf (vs:=B2) (wBE (sz:=3) (fun _=>rfl) _ _ _ bR (by first | omega | rfl | simp) rfl) rfl) rfl (bnK bZ fun cA bF ca=>?_)
 have bG:=bO.le bb
 have bH:=bG.le aN
 refine yU (a:=((gd aa ab.toNat),(gd aa (w64 (ab - 1)).toNat))) Z Z Z (wT Z ac) Z Z (zA Z (zA Z zM)) ao bH Z bF ?_
 rintro aq cr cz aT br bJ ⟨rfl,rfl⟩
 have bj:SW w [B0] U aq [.row ae af 52 3 (hD wAB aa)] aT:=bJ
 refine rU Z (wT Z ac) (zR Z Z Z) (oR Z (zV Z (ZO ac.out) Z) (eN (ifc ca ?_ ?_)))
 intro aU cc
 refine cT Z aU (kN (zK (zU (ZQ ZK [3,3,3,3,3,3,3,3,3,1,3,3,3,1,3,0,3,0] (wKK gCi) (by kernel_rfl) ?_))))
 have az:=bj.drew
 generalize hw_W80:({ aT with drawn:=aT.drawn + 1 }:World)=cx at az ⊢
 refine oM Z ai (oM Z ak (oM Z ai (oM Z ak (oR Z (ZN Z Z Z) (oM Z ai (oM Z ak (oR Z (ZN Z Z Z) (oR Z (ZU Z Z ag Z zh zf (wCS an) (wCT an)) ?_))))))))
 have bS:=wBY (xs:=aa) (wAU an)
 refine zn rfl rfl rfl rfl (az.ldRA (j:=0) rfl ag rfl rfl Zy zf (vs:=B2) (wBE (sz:=3) (fun _=>rfl) _ _ _ bS (by first | omega | rfl | simp) rfl) rfl) rfl (zO rfl rfl rfl rfl rfl ai (zO rfl rfl rfl rfl rfl ak (zT rfl rfl rfl rfl (fun _=>ZU rfl rfl ag rfl zh zf (wCS ah) (wCT ah)) ?_)))
 have bT:=wBY (xs:=aa) (wAU ah)
 refine zn rfl rfl rfl rfl (az.ldRA (j:=0) rfl ag rfl rfl Zy zf (vs:=B1) (wBE (sz:=3) (fun _=>rfl) _ _ _ bT (by first | omega | rfl | simp) rfl) rfl) rfl (zT rfl rfl rfl rfl (fun _=>ZU rfl rfl ag rfl zh zf (wCS ah) (wCT ah)) ?_)
 have bU:=wBY (xs:=aa) (wAU ah)
 refine YE (j:=0) (vs:=B2) (cs':=hD wAB (nB aa ab.toNat (gd aa (w64 (ab - 1)).toNat))) rfl rfl rfl rfl az rfl ag rfl rfl rfl zf (by rw [wAG (f:=wAB) (sz:=3) (fun _=>rfl)];have hz:=wAU ah;show _ + 3 <= _;first | omega | (simp only [nJ];omega) | (simp only [nG,nD,nE];omega)) rfl (wEK (sz:=3) (fo:=0) (fun _=>rfl) _ _ _ _ bU (by first | omega | (simp only [nJ];omega) | (simp only [nG,nD,nE];omega)) (zB rfl) rfl) rfl ?_
 intro bw bK
 have bL:SW w [B0] U aq [.row ae af 52 3 (hD wAB (nB aa ab.toNat (gd aa (w64 (ab - 1)).toNat)))] bw:=bK
 refine bnK cc fun _ au cd=>zT rfl rfl rfl rfl (fun _=>ZU rfl (nK (b:=(.slice ae aa.length af:Value)) (c:=(.slice ae ((nB aa ab.toNat (gd aa (w64 (ab - 1)).toNat)).length) af:Value)) rfl (by simp only [nA])) ag rfl zh zf (wCS au) (wCT au)) ?_
 have bV:=wBY (xs:=(nB aa ab.toNat (gd aa (w64 (ab - 1)).toNat))) (by first | exact wAU au | (have hz:=wAU au;simpa only [nA] using hz))
 refine YE (j:=0) (vs:=B1) (cs':=hD wAB (nB (nB aa ab.toNat (gd aa (w64 (ab - 1)).toNat)) (w64 (ab - 1)).toNat (gd aa ab.toNat))) rfl rfl rfl rfl bL rfl ag rfl rfl rfl zf (by rw [wAG (f:=wAB) (sz:=3) (fun _=>rfl)];have hz:=wAU au;show _ + 3 <= _;first | omega | (simp only [nA];omega) | (simp only [nG,nD,nE,nA];omega) | (simp only [nJ];omega) | (simp only [nG,nD,nE];omega)) rfl (wEK (sz:=3) (fo:=0) (fun _=>rfl) _ _ _ _ bV (by first | omega | (simp only [nJ];omega) | (simp only [nG,nD,nE];omega)) (zB rfl) rfl) rfl ?_
 intro bx bM
 have bN:SW w [B0] U aq [.row ae af 52 3 (hD wAB (nB (nB aa ab.toNat (gd aa (w64 (ab - 1)).toNat)) (w64 (ab - 1)).toNat (gd aa ab.toNat)))] bx:=bM
 refine zb (za (zF (rR fL3 Z (oM Z ak (oR Z (ZN Z Z Z) (oA Z Z (zb ?_)))))))
 have q:=hM cd
 obtain rfl:=q
 exact zF ⟨rfl,_,rfl,⟨aq,(nK (b:=(.slice ae ((nB aa ab.toNat (gd aa (w64 (ab - 1)).toNat)).length) af:Value)) (c:=(.slice ae ((nB (nB aa ab.toNat (gd aa (w64 (ab - 1)).toNat)) (w64 (ab - 1)).toNat (gd aa ab.toNat)).length) af:Value)) (nK (b:=(.slice ae aa.length af:Value)) (c:=(.slice ae ((nB aa ab.toNat (gd aa (w64 (ab - 1)).toNat)).length) af:Value)) ai (by simp only [nA])) (by simp only [nA])),ax,aW,ay,aX,rfl,(aN.trans br),bN,((nA.trans nA).trans aY)⟩⟩
 intro aU cg
 refine cF Z aU (ZG (zc ?_))
 have q:=wAq cg
 obtain ⟨cm,ch,bB⟩:=q
 have q:=bk cm bB
 obtain rfl:=q
 refine zc (zz (za (zF (rR fL3 Z (oM Z aX (oR Z (zX Z Z Z) (oA Z Z (zb ?_))))))))
 have q:=hM ch
 obtain rfl:=q
 exact zF ⟨Z,_,Z,⟨aq,ai,ax,aW,ay,Z,((bb.trans aN).trans br),bj,aY⟩⟩
 have bm:=ba;rw [if_neg ac] at bm;replace ac:=zG ac
 refine oF Z ac (oF Z ac (oF Z ac (oF Z ac (oF Z ac (oF Z ac (oF Z ac (oF Z ac (oF Z ac (oF Z ac (Zl Z Z Z (zY Z Z (zo ac.out) Z) (oF Z ac (oR Z (zS Z (zo ac.out) Z) (eN (zg Z (ZG (zc ?_))))))))))))))))
 have q:=wAq bm
 obtain ⟨ci,bW,bz⟩:=q
 have q:=bk ci bz
 obtain rfl:=q
 refine zc (zz (za (zF (rR fL3 Z (oM Z aX (oR Z (zX Z Z Z) (oA Z Z (zb ?_))))))))
 have q:=hM bW
 obtain rfl:=q
 exact zF ⟨Z,_,Z,⟨bu,ai,ax,aW,ay,Z,(bb.trans aN),ao,aY⟩⟩
 have bn:=aZ;rw [if_neg aj] at bn;replace aj:=zG aj
 refine cF Z aj (ZG (zc ?_))
 have q:=wAq bn
 obtain ⟨cj,bX,bA⟩:=q
 have q:=bP cj bA
 obtain rfl:=q
 refine zc (zz ?_)
 have hE:=hM bX;first | subst r | cases hE
 exact ⟨Z,_,(wEr),aS,_,bi,Z,Z,bh⟩
theorem wBp (p0:List wAA) (af:Option Addr) (ag:Nat) (p1:Int) (p2:Int) (p3:Int) (p4:((wAA × wAA)->Option Int)) (aS:Value) (w:World) (U:PHeap) (hS:St0 w U [.row af ag 52 3 (hD wAB p0)]) (bK:FnOK Tryz.prog U aS wKZ wKa p4) {r:(List wAA)} (hm:wAw p0 p1 p2 p3 p4=some r):Gv Tryz.prog 323 [.slice af p0.length ag,jV p1,jV p2,jV p3,aS] w (wBj w [.row af ag 52 3 (hD wAB p0)] U (fun U_ L_ v=>v=.tuple #[]/\L_=[.row af ag 52 3 (hD wAB r)]/\r.length=p0.length)):=by
 unfold wAw at hm
 refine Gv.of Tryz.func323 Z Tryz.ntmps323 Tryz.results323 Z (sR fL1 Z (oA Z Z (eN (zU (bnK hm fun bN bk bz=>?_)))))
 have q:=wBM bk
 obtain ⟨az,bm⟩:=q
 replace az:=zG az
 let B0:Res:=.row af ag 52 3 (hD wAB p0)
 refine CK.forN' (fun k8 l7 J_ w_=>∃ (U_:PHeap),J_ 10=jV (↑k8:Int)/\J_ 0=.slice af l7.length ag/\J_ 1=jV p1/\J_ 2=jV p2/\J_ 3=jV p3/\PHeap.Le U U_/\SW w [B0] U U_ [.row af ag 52 3 (hD wAB l7)] w_/\l7.length=p0.length) bm ?_ ?_ ?_
 exact ⟨U,Z,Z,Z,Z,Z,(zQ _),hS,Z⟩
 rintro k8 l7 bM bC aO ay ⟨av,ak,an,aw,ax,aQ,bB,bb,aZ⟩ bA
 have aP:Hid ((↑k8:Int) < p3):=zG (wBR ay)
 replace ay:=zG ay
 have bs:Hid (w64 ((↑k8:Int) + 1)=(↑(k8 + 1):Int)):=zG (by have h1:=az.out;have h2:=aP.out;rw [wAa] <;> omega)
 refine zK (sR fL3 rfl (zO rfl rfl rfl rfl rfl ak (zO rfl rfl rfl rfl rfl aQ (zT rfl rfl rfl rfl (fun _=>zR rfl rfl rfl) (eN (cT Z aP (kN (zK (zU (ZQ ZK [3,3,3,3,3,3,3,3,3,3,3,3,3,1,3,3,3,3,3,1,3,0,3,0] (wPv (.fx 21 (.fl 22 (.fx 23 .nil .stop)) .stop)) (by kernel_rfl) ?_))))))))))
 have ap:=bb.drew
 generalize hw_W32:({ aO with drawn:=aO.drawn + 1 }:World)=bE at ap ⊢
 refine oM Z an (oM Z aw (oM Z ak (oR Z (zX Z Z Z) (oM Z an (oM Z ax (oM Z ak (oR Z (zX Z Z Z) (oM Z an (oM Z ax (oM Z ak (oR Z (zX Z Z Z) (bnK bA fun _ aq bu=>?_))))))))))))
 obtain ⟨bG,ah⟩:=ap.rowSome (j:=0) rfl (by rw [wAG (f:=wAB) (sz:=3) (fun _=>rfl) l7];have hz:=wAU aq;omega)
 refine oR Z (ZU Z Z ah Z zh zf (wCS aq) (wCT aq)) ?_
 have bn:=wBY (xs:=l7) (wAU aq)
 let B1:List Value:=[jV ((gd l7 (w64 (p2 + (↑k8:Int))).toNat).Bib),jV ((gd l7 (w64 (p2 + (↑k8:Int))).toNat).Place),jV ((gd l7 (w64 (p2 + (↑k8:Int))).toNat).Total)]
 refine zn rfl rfl rfl rfl (ap.ldRA (j:=0) rfl ah rfl rfl Zy zf (vs:=B1) (wBE (sz:=3) (fun _=>rfl) _ _ _ bn (by first | omega | rfl | simp) rfl) rfl) rfl (zO rfl rfl rfl rfl rfl an (zO rfl rfl rfl rfl rfl aw (zO rfl rfl rfl rfl rfl ak (zT rfl rfl rfl rfl (fun _=>zX rfl rfl rfl) (bnK bu fun _ ai bw=>zT rfl rfl rfl rfl (fun _=>ZU rfl rfl ah rfl zh zf (wCS ai) (wCT ai)) ?_)))))
 have bp:=wBY (xs:=l7) (wAU ai)
 let B2:List Value:=[jV ((gd l7 (w64 (p1 + (↑k8:Int))).toNat).Bib),jV ((gd l7 (w64 (p1 + (↑k8:Int))).toNat).Place),jV ((gd l7 (w64 (p1 + (↑k8:Int))).toNat).Total)]
 refine zn rfl rfl rfl rfl (ap.ldRA (j:=0) rfl ah rfl rfl Zy zf (vs:=B2) (wBE (sz:=3) (fun _=>rfl) _ _ _ bp (by first | omega | rfl | simp) rfl) rfl) rfl (zT rfl rfl rfl rfl (fun _=>ZU rfl rfl ah rfl zh zf (wCS ai) (wCT ai)) ?_)
 have bq:=wBY (xs:=l7) (wAU ai)
 refine YE (j:=0) (vs:=B1) (cs':=hD wAB (nB l7 (w64 (p1 + (↑k8:Int))).toNat (gd l7 (w64 (p2 + (↑k8:Int))).toNat))) rfl rfl rfl rfl ap rfl ah rfl rfl rfl zf (by rw [wAG (f:=wAB) (sz:=3) (fun _=>rfl)];have hz:=wAU ai;show _ + 3 <= _;first | omega | (simp only [nJ];omega) | (simp only [nG,nD,nE];omega)) rfl (wEK (sz:=3) (fo:=0) (fun _=>rfl) _ _ _ _ bq (by first | omega | (simp only [nJ];omega) | (simp only [nG,nD,nE];omega)) (zB rfl) rfl) rfl ?_
 intro aU be
 have bg:SW w [B0] U av [.row af ag 52 3 (hD wAB (nB l7 (w64 (p1 + (↑k8:Int))).toNat (gd l7 (w64 (p2 + (↑k8:Int))).toNat)))] aU:=be
 refine bnK bw fun _ ao bx=>zT rfl rfl rfl rfl (fun _=>ZU rfl (nK (b:=(.slice af l7.length ag:Value)) (c:=(.slice af ((nB l7 (w64 (p1 + (↑k8:Int))).toNat (gd l7 (w64 (p2 + (↑k8:Int))).toNat)).length) ag:Value)) rfl (by simp only [nA])) ah rfl zh zf (wCS ao) (wCT ao)) ?_
 have br:=wBY (xs:=(nB l7 (w64 (p1 + (↑k8:Int))).toNat (gd l7 (w64 (p2 + (↑k8:Int))).toNat))) (by first | exact wAU ao | (have hz:=wAU ao;simpa only [nA] using hz))
 refine YE (j:=0) (vs:=B2) (cs':=hD wAB (nB (nB l7 (w64 (p1 + (↑k8:Int))).toNat (gd l7 (w64 (p2 + (↑k8:Int))).toNat)) (w64 (p2 + (↑k8:Int))).toNat (gd l7 (w64 (p1 + (↑k8:Int))).toNat))) rfl rfl rfl rfl bg rfl ah rfl rfl rfl zf (by rw [wAG (f:=wAB) (sz:=3) (fun _=>rfl)];have hz:=wAU ao;show _ + 3 <= _;first | omega | (simp only [nA];omega) | (simp only [nG,nD,nE,nA];omega) | (simp only [nJ];omega) | (simp only [nG,nD,nE];omega)) rfl (wEK (sz:=3) (fo:=0) (fun _=>rfl) _ _ _ _ br (by first | omega | (simp only [nJ];omega) | (simp only [nG,nD,nE];omega)) (zB rfl) rfl) rfl ?_
 intro aV bh
 have bi:SW w [B0] U av [.row af ag 52 3 (hD wAB (nB (nB l7 (w64 (p1 + (↑k8:Int))).toNat (gd l7 (w64 (p2 + (↑k8:Int))).toNat)) (w64 (p2 + (↑k8:Int))).toNat (gd l7 (w64 (p1 + (↑k8:Int))).toNat)))] aV:=bh
 refine zb (za (zF (rR fL3 Z (oM Z ak (oR Z (zr (zX Z Z Z) (congrArg (jV) bs.out)) (oA Z Z (zb ?_)))))))
 cases bx
 exact zF ⟨rfl,⟨av,rfl,(nK (b:=(.slice af ((nB l7 (w64 (p1 + (↑k8:Int))).toNat (gd l7 (w64 (p2 + (↑k8:Int))).toNat)).length) ag:Value)) (c:=(.slice af ((nB (nB l7 (w64 (p1 + (↑k8:Int))).toNat (gd l7 (w64 (p2 + (↑k8:Int))).toNat)) (w64 (p2 + (↑k8:Int))).toNat (gd l7 (w64 (p1 + (↑k8:Int))).toNat)).length) ag:Value)) (nK (b:=(.slice af l7.length ag:Value)) (c:=(.slice af ((nB l7 (w64 (p1 + (↑k8:Int))).toNat (gd l7 (w64 (p2 + (↑k8:Int))).toNat)).length) ag:Value)) an (by simp only [nA])) (by simp only [nA])),aw,ax,aQ,bB,bi,((nA.trans nA).trans aZ)⟩⟩
 rintro bD bF ⟨aT,aY,bH,bI,bJ,aX,bL,bj,ba⟩
 have aW:Hid (¬ ((↑((p3:Int) - 0).toNat:Int) < p3)):=zG (wAr)
 refine zK (sR fL3 Z (oM Z aY (oM Z aX (oR Z (zR Z Z Z) (eN (cF Z aW (ZG (zc (zc (zz ?_))))))))))
 have hE:=hM bz;first | subst r | cases hE
 exact ⟨Z,_,(wEr),aT,_,bj,Z,Z,ba⟩
theorem wDF (p0:List wAA) (aa:Option Addr) (ab:Nat) (p1:Int) (p2:Int) (p3:Int) (p4:((wAA × wAA)->Option Int)) (ak:Value) (w:World) (U:PHeap) (hS:St0 w U [.row aa ab 52 3 (hD wAB p0)]) (aN:FnOK Tryz.prog U ak wKZ wKa p4) {r:(List wAA)} (hm:wBW p0 p1 p2 p3 p4=some r):Gv Tryz.prog 268 [.slice aa p0.length ab,jV p1,jV p2,jV p3,ak] w (wBj w [.row aa ab 52 3 (hD wAB p0)] U (fun U_ L_ v=>v=.tuple #[]/\L_=[.row aa ab 52 3 (hD wAB r)]/\r.length=p0.length)):=by
 unfold wBW at hm
 refine Gv.of Tryz.func268 Z Tryz.ntmps268 Tryz.results268 Z (sR fL4 Z (oM Z Z (oM Z Z (oR Z (ZN Z Z Z) (oA Z Z (eN (sR fL4 Z (oM Z Z (oM Z Z (oR Z (ZN Z Z Z) (oA Z Z (eN ?_))))))))))))
 have q:=bnd hm
 obtain ⟨⟨l2,x3⟩,bR,ba⟩:=q
 try dsimp only at ba
 let B0:Res:=.row aa ab 52 3 (hD wAB p0)
 refine YC (fun J_ w_=>∃ (U_:PHeap),J_ 0=.slice aa l2.length ab/\J_ 2=jV p2/\J_ 4=ak/\J_ 10=jV x3/\PHeap.Le U U_/\SW w [B0] U U_ [.row aa ab 52 3 (hD wAB l2)] w_/\l2.length=p0.length) ?_ ?_
 refine zU (YM (fun (ag,am,av) J_ w_=>∃ (U_:PHeap),J_ 0=.slice aa ag.length ab/\J_ 2=jV p2/\J_ 4=ak/\J_ 10=jV am/\J_ 11=jV av/\PHeap.Le U U_/\SW w [B0] U U_ [.row aa ab 52 3 (hD wAB ag)] w_/\ag.length=p0.length) bR ?_ ?_)
 exact ⟨U,Z,Z,Z,Z,Z,(zQ _),hS,Z⟩
 rintro ⟨ag,am,av⟩ cj bX aT ⟨ax,ao,ai,ap,ac,aj,aq,aM,az⟩ aO bK
 try dsimp only at aO
 refine zK (sR fL3 Z (oM Z ac (oM Z aj (oR Z (Ze Z Z Z) (eN ?_)))))
 by_cases af:am=av
 have aY:=aO;rw [if_pos af] at aY;replace af:=zG af
 refine zg (zo (fun h=>h af.out)) (ZG (zc ?_))
 have q:=wAq aY
 obtain ⟨bV,bL,bp⟩:=q
 have q:=bK bV bp
 obtain rfl:=q
 refine zc (zz ?_)
 cases bL
 exact zF ⟨Z,⟨ax,ao,ai,ap,ac,aq,aM,az⟩⟩
 have aZ:=aO;rw [if_neg af] at aZ;replace af:=zG af
 refine cT Z af (kN (zU (sR fL3 Z (oM Z ac (oM Z aj (oR Z (yP Z Z Z) (eN (ifc aZ ?_ ?_))))))))
 intro ay bM
 refine cT Z ay (sR (wMF (.fx 7 .nil .stop)) Z (oM Z ao (oM Z ai (oM Z ac (oR Z (ZN Z Z Z) (oM Z ai (oM Z aj (oM Z ap ?_))))))))
 have bs:=aN.le aq
 refine bnK bM fun bg bu bN=>zI 1 Z Z Z Z (zJ Z Z Tryz.call323 (zA Z (zA Z (zA Z (zA Z (zA Z zM))))) Z) aM (fun hs=>wBp ag aa ab (w64 (p2 - am)) p2 av p4 ak aT ax hs bs bu) (.inl Z) ?_
 rintro aQ bZ cg bj bS bD ⟨rfl,rfl,aW⟩
 have bE:SW w [B0] U aQ [.row aa ab 52 3 (hD wAB bg)] bj:=bD
 refine eN (rR fL4 Z (oM Z ac (oM Z aj (oR Z (ZN Z Z Z) (oA Z Z (zb (za ?_)))))))
 have q:=hM bN
 obtain rfl:=q
 exact zF ⟨rfl,_,rfl,⟨aQ,(nK (b:=(.slice aa ag.length ab:Value)) (c:=(.slice aa bg.length ab:Value)) ao (by rw [aW])),ai,ap,rfl,aj,(aq.trans bS),bE,(aW.trans az)⟩⟩
 intro ay bO
 refine cF Z ay (sR (wNF (.fx 11 .nil .stop)) Z (oM Z ao (oM Z ai (oM Z ac (oR Z (ZN Z Z Z) (oM Z ai (oM Z aj (oR Z (zX Z Z Z) (oM Z ac (oR Z (ZN Z Z Z) (oM Z ac (oM Z ap ?_))))))))))))
 have bw:=aN.le aq
 refine bnK bO fun bh bx bP=>zI 1 Z Z Z Z (zJ Z Z Tryz.call323 (zA Z (zA Z (zA Z (zA Z (zA Z zM))))) Z) aM (fun hs=>wBp ag aa ab (w64 (p2 - am)) (w64 ((w64 (p2 + av)) - am)) am p4 ak aT ax hs bw bx) (.inl Z) ?_
 rintro aR ca ch bk bT bF ⟨rfl,rfl,aX⟩
 have bG:SW w [B0] U aR [.row aa ab 52 3 (hD wAB bh)] bk:=bF
 refine eN (rR fL4 Z (oM Z aj (oM Z ac (oR Z (ZN Z Z Z) (oA Z Z (zb (za ?_)))))))
 have q:=hM bP
 obtain rfl:=q
 exact zF ⟨rfl,_,rfl,⟨aR,(nK (b:=(.slice aa ag.length ab:Value)) (c:=(.slice aa bh.length ab:Value)) ao (by rw [aX])),ai,ap,ac,rfl,(aq.trans bT),bG,(aX.trans az)⟩⟩
 rintro bY bm ⟨bi,bq,aU,br,aV,bU,bH,bz⟩
 refine rR (wMF (.fx 7 .nil .stop)) Z (oM Z bq (oM Z aU (oM Z aV (oR Z (ZN Z Z Z) (oM Z aU (oM Z aV (oM Z br ?_)))))))
 have bA:=aN.le bU
 refine bnK ba fun bW bB bQ=>zI 1 Z Z Z Z (zJ Z Z Tryz.call323 (zA Z (zA Z (zA Z (zA Z (zA Z zM))))) Z) bH (fun hs=>wBp l2 aa ab (w64 (p2 - x3)) p2 x3 p4 ak bm bi hs bA bB) (.inl Z) ?_
 rintro aS cc ci bn cd bI ⟨rfl,rfl,bC⟩
 have bJ:SW w [B0] U aS [.row aa ab 52 3 (hD wAB bW)] bn:=bI
 refine zb ?_
 have hE:=hM bQ;first | subst r | cases hE
 exact ⟨Z,_,(wEr),aS,_,bJ,Z,Z,(bC.trans bz)⟩
theorem wCo (n_:Nat):∀ (p0:List wAA) (aa:Option Addr) (ab:Nat) (p1:Int) (p2:Int) (p3:Int) (p4:((wAA × wAA)->Option Int)) (am:Value) (w:World) (U:PHeap) (hS:St0 w U [.row aa ab 52 3 (hD wAB p0)]) (aP:FnOK Tryz.prog U am wKZ wKa p4) {r:(List wAA)} (hm:wAy n_ p0 p1 p2 p3 p4=some r),Gv Tryz.prog 219 [.slice aa p0.length ab,jV p1,jV p2,jV p3,am] w (wBj w [.row aa ab 52 3 (hD wAB p0)] U (fun U_ L_ v=>v=.tuple #[]/\L_=[.row aa ab 52 3 (hD wAB r)]/\r.length=p0.length)):=by
 induction n_ with
 | zero =>
  intros
  rename_i hm
  have mm:(none:Option ((List wAA)))=some _:=hm
  cases mm
 | succ n_ ih =>
  intro p0 aa ab p1 p2 p3 p4 am w U hS aP r hm
  have hm:wBl (wAy n_) p0 p1 p2 p3 p4=some r:=hm
  unfold wBl at hm
  refine Gv.of Tryz.func219 Z Tryz.ntmps219 Tryz.results219 Z (zK (sR fL4 Z (oM Z Z (oM Z Z (oR Z (ZN Z Z Z) (oR Z (Zw Z Z Z) (eN ?_)))))))
  by_cases c2:(w64 (p2 - p1))=1
  ·have gO:=hm;rw [if_pos c2] at gO;replace c2:=zG c2
   refine cT Z c2 (sR fL2 Z (oM Z Z (oA Z Z (eN (sR fL2 Z (oM Z Z (oA Z Z (eN (bnK gO fun x4 pV pn=>?_)))))))))
   let B0:Res:=.row aa ab 52 3 (hD wAB p0)
   refine YC (fun J_ w_=>∃ (U_:PHeap),J_ 0=.slice aa p0.length ab/\J_ 1=jV p1/\J_ 10=jV x4/\PHeap.Le U U_/\SW w [B0] U U_ [B0] w_) ?_ ?_
   ·refine zU (YM (fun (bZ,ca) J_ w_=>∃ (U_:PHeap),J_ 0=.slice aa p0.length ab/\J_ 1=jV p1/\J_ 4=am/\J_ 10=jV bZ/\J_ 11=jV ca/\PHeap.Le U U_/\SW w [B0] U U_ [B0] w_) pV ?_ ?_)
    ·exact ⟨U,Z,Z,Z,Z,Z,(zQ _),hS⟩
    ·rintro ⟨bZ,ca⟩ sc qq fO ⟨ig,ci,cO,eC,cR,eG,dw,gy⟩ e7 lT
     try dsimp only at e7
     refine zK (sR fL3 Z (oM Z cR (oM Z eG (oR Z (zR Z Z Z) (eN ?_)))))
     by_cases bK:bZ < ca
     ·have gQ:=e7;rw [if_pos bK] at gQ;replace bK:=zG bK
      refine cT Z bK (kN (zU (sR fL7 rfl (zO rfl rfl rfl rfl rfl cR (zO rfl rfl rfl rfl rfl eG (zT rfl rfl rfl rfl (fun _=>zX rfl rfl rfl) (zT rfl rfl rfl rfl (fun _=>Runs.cv64 rfl rfl Zm yG rfl rfl) (zT rfl rfl rfl rfl (fun _=>Runs.shr1 rfl rfl rfl) (zT rfl rfl rfl rfl (fun _=>Runs.cvw rfl rfl yG Zm rfl rfl) (ye rfl rfl rfl rfl rfl rfl (eN (zK (ZQ ZK [3,3,3,3,1,3,3,3,1,2,3] (wNx (.fx 9 (.fl 10 .nil) .stop)) (by kernel_rfl) ?_)))))))))))))
      have cy:=gy.drew
      generalize hw_W34:({ fO with drawn:=fO.drawn + 1 }:World)=q6 at cy ⊢
      refine oM Z eC (oM Z ci (oM Z Z (bnK gQ fun _ de mR=>?_)))
      obtain ⟨rh,dt⟩:=cy.rowSome (j:=0) rfl (by rw [wAG (f:=wAB) (sz:=3) (fun _=>rfl) p0];have hz:=wAU de;omega)
      refine oR Z (ZU Z Z dt Z zh zf (wCS de) (wCT de)) ?_
      have mh:=wBY (xs:=p0) (wAU de)
      refine zn rfl rfl rfl rfl (cy.ldRA (j:=0) rfl dt rfl rfl Zy zf (vs:=[jV ((gd p0 (w64 ((wBD (w64 (bZ + ca))) / 2)).toNat).Bib),jV ((gd p0 (w64 ((wBD (w64 (bZ + ca))) / 2)).toNat).Place),jV ((gd p0 (w64 ((wBD (w64 (bZ + ca))) / 2)).toNat).Total)]) (wBE (sz:=3) (fun _=>rfl) _ _ _ mh (by first | omega | rfl | simp) rfl) rfl) rfl (zO rfl rfl rfl rfl rfl ci (zO rfl rfl rfl rfl rfl cO (bnK mR fun _ eS m5=>zT rfl rfl rfl rfl (fun _=>ZU rfl rfl dt rfl zh zf (wCS eS) (wCT eS)) ?_)))
      have mi:=wBY (xs:=p0) (wAU eS)
      refine zn rfl rfl rfl rfl (cy.ldRA (j:=0) rfl dt rfl rfl Zy zf (vs:=[jV ((gd p0 p1.toNat).Bib),jV ((gd p0 p1.toNat).Place),jV ((gd p0 p1.toNat).Total)]) (wBE (sz:=3) (fun _=>rfl) _ _ _ mi (by first | omega | rfl | simp) rfl) rfl) rfl (bnK m5 fun r9 ji od=>?_)
      have jy:=aP.le dw
      refine yU (a:=((gd p0 (w64 ((wBD (w64 (bZ + ca))) / 2)).toNat),(gd p0 p1.toNat))) Z Z Z Z Z Z (zA Z (zA Z zM)) cy jy Z ji ?_
      rintro dG qK rM ix ib lw ⟨rfl,rfl⟩
      have gC:SW w [B0] U dG [B0] ix:=lw
      refine oR Z (zR Z Z Z) (eN (ifc od ?_ ?_))
      ·intro dW oI
       refine cT Z dW (rR fL3 Z (oM Z Z (oR Z (zX Z Z Z) (oA Z Z (zb (za ?_))))))
       have q:=hM oI
       obtain rfl:=q
       exact zF ⟨Z,_,Z,⟨dG,ci,cO,eC,Z,eG,(dw.trans ib),gC⟩⟩
      ·intro dW oS
       refine cF Z dW (rR fL2 Z (oM Z Z (oA Z Z (zb (za ?_)))))
       have q:=hM oS
       obtain rfl:=q
       exact zF ⟨Z,_,Z,⟨dG,ci,cO,eC,cR,Z,(dw.trans ib),gC⟩⟩
     ·have gX:=e7;rw [if_neg bK] at gX;replace bK:=zG bK
      refine cF Z bK (ZG (zc ?_))
      have q:=wAq gX
      obtain ⟨qc,oY,iN⟩:=q
      have q:=lT qc iN
      obtain rfl:=q
      refine zc (zz ?_)
      cases oY
      exact zF ⟨Z,⟨ig,ci,cO,cR,dw,gy⟩⟩
   ·rintro qz q9 ⟨fI,iV,iW,iX,rv,lH⟩
    refine zK (sR fL2 Z (oM Z iW (oA Z Z (eN (zU (YM (fun (ai,ak) J_ w_=>∃ (U_:PHeap),J_ 0=.slice aa ai.length ab/\J_ 10=jV x4/\J_ 13=jV ak/\PHeap.Le fI U_/\SW w [B0] U U_ [.row aa ab 52 3 (hD wAB ai)] w_/\ai.length=p0.length) pn ?_ ?_))))))
    ·exact ⟨fI,iV,iX,Z,(zQ _),lH,Z⟩
    ·rintro ⟨ai,ak⟩ sg qA fW ⟨cH,co,gh,cd,p6,gG,gu⟩ fc lX
     try dsimp only at fc
     refine zK (sR fL4 Z (oM Z cd (oM Z gh (oR Z (ZN Z Z Z) (oR Z (zR Z Z Z) (eN ?_))))))
     by_cases bM:ak < (w64 (x4 - 1))
     ·have gY:=fc;rw [if_pos bM] at gY;replace bM:=zG bM
      refine cT Z bM (kN (zK (zU (ZQ ZK [3,3,3,3,3,3,3,3,3,1,3,3,3,1,3,0,3,0] (wKK gCi) (by kernel_rfl) ?_))))
      have cA:=gG.drew
      generalize hw_W99:({ fW with drawn:=fW.drawn + 1 }:World)=rc at cA ⊢
      refine oM Z co (oM Z cd (oM Z co (oM Z cd (oR Z (zX Z Z Z) (oM Z co (oM Z cd (oR Z (zX Z Z Z) (bnK gY fun _ c8 mn=>?_))))))))
      obtain ⟨rd,bN⟩:=cA.rowSome (j:=0) rfl (by rw [wAG (f:=wAB) (sz:=3) (fun _=>rfl) ai];have hz:=wAU c8;omega)
      refine oR Z (ZU Z Z bN Z zh zf (wCS c8) (wCT c8)) ?_
      have lY:=wBY (xs:=ai) (wAU c8)
      let B1:List Value:=[jV ((gd ai (w64 (ak + 1)).toNat).Bib),jV ((gd ai (w64 (ak + 1)).toNat).Place),jV ((gd ai (w64 (ak + 1)).toNat).Total)]
      refine zn rfl rfl rfl rfl (cA.ldRA (j:=0) rfl bN rfl rfl Zy zf (vs:=B1) (wBE (sz:=3) (fun _=>rfl) _ _ _ lY (by first | omega | rfl | simp) rfl) rfl) rfl (zO rfl rfl rfl rfl rfl co (zO rfl rfl rfl rfl rfl cd (bnK mn fun _ bT mo=>zT rfl rfl rfl rfl (fun _=>ZU rfl rfl bN rfl zh zf (wCS bT) (wCT bT)) ?_)))
      have l0:=wBY (xs:=ai) (wAU bT)
      let B2:List Value:=[jV ((gd ai ak.toNat).Bib),jV ((gd ai ak.toNat).Place),jV ((gd ai ak.toNat).Total)]
      refine zn rfl rfl rfl rfl (cA.ldRA (j:=0) rfl bN rfl rfl Zy zf (vs:=B2) (wBE (sz:=3) (fun _=>rfl) _ _ _ l0 (by first | omega | rfl | simp) rfl) rfl) rfl (zT rfl rfl rfl rfl (fun _=>ZU rfl rfl bN rfl zh zf (wCS bT) (wCT bT)) ?_)
      have l4:=wBY (xs:=ai) (wAU bT)
      refine YE (j:=0) (vs:=B1) (cs':=hD wAB (nB ai ak.toNat (gd ai (w64 (ak + 1)).toNat))) rfl rfl rfl rfl cA rfl bN rfl rfl rfl zf (by rw [wAG (f:=wAB) (sz:=3) (fun _=>rfl)];have hz:=wAU bT;show _ + 3 <= _;first | omega | (simp only [nJ];omega) | (simp only [nG,nD,nE];omega)) rfl (wEK (sz:=3) (fo:=0) (fun _=>rfl) _ _ _ _ l4 (by first | omega | (simp only [nJ];omega) | (simp only [nG,nD,nE];omega)) (zB rfl) rfl) rfl ?_
      intro ik j5
      have j6:SW w [B0] U cH [.row aa ab 52 3 (hD wAB (nB ai ak.toNat (gd ai (w64 (ak + 1)).toNat)))] ik:=j5
      refine bnK mo fun _ cp mp=>zT rfl rfl rfl rfl (fun _=>ZU rfl (nK (b:=(.slice aa ai.length ab:Value)) (c:=(.slice aa ((nB ai ak.toNat (gd ai (w64 (ak + 1)).toNat)).length) ab:Value)) rfl (by simp only [nA])) bN rfl zh zf (wCS cp) (wCT cp)) ?_
      have l5:=wBY (xs:=(nB ai ak.toNat (gd ai (w64 (ak + 1)).toNat))) (by first | exact wAU cp | (have hz:=wAU cp;simpa only [nA] using hz))
      refine YE (j:=0) (vs:=B2) (cs':=hD wAB (nB (nB ai ak.toNat (gd ai (w64 (ak + 1)).toNat)) (w64 (ak + 1)).toNat (gd ai ak.toNat))) rfl rfl rfl rfl j6 rfl bN rfl rfl rfl zf (by rw [wAG (f:=wAB) (sz:=3) (fun _=>rfl)];have hz:=wAU cp;show _ + 3 <= _;first | omega | (simp only [nA];omega) | (simp only [nG,nD,nE,nA];omega) | (simp only [nJ];omega) | (simp only [nG,nD,nE];omega)) rfl (wEK (sz:=3) (fo:=0) (fun _=>rfl) _ _ _ _ l5 (by first | omega | (simp only [nJ];omega) | (simp only [nG,nD,nE];omega)) (zB rfl) rfl) rfl ?_
      intro il j7
      have j8:SW w [B0] U cH [.row aa ab 52 3 (hD wAB (nB (nB ai ak.toNat (gd ai (w64 (ak + 1)).toNat)) (w64 (ak + 1)).toNat (gd ai ak.toNat)))] il:=j7
      refine zb (za (zF (rR fL3 Z (oM Z cd (oR Z (zX Z Z Z) (oA Z Z (zb ?_)))))))
      have q:=hM mp
      obtain rfl:=q
      exact zF ⟨rfl,_,rfl,⟨cH,(nK (b:=(.slice aa ((nB ai ak.toNat (gd ai (w64 (ak + 1)).toNat)).length) ab:Value)) (c:=(.slice aa ((nB (nB ai ak.toNat (gd ai (w64 (ak + 1)).toNat)) (w64 (ak + 1)).toNat (gd ai ak.toNat)).length) ab:Value)) (nK (b:=(.slice aa ai.length ab:Value)) (c:=(.slice aa ((nB ai ak.toNat (gd ai (w64 (ak + 1)).toNat)).length) ab:Value)) co (by simp only [nA])) (by simp only [nA])),gh,rfl,p6,j8,((nA.trans nA).trans gu)⟩⟩
     ·have gH:=fc;rw [if_neg bM] at gH;replace bM:=zG bM
      refine cF Z bM (ZG (zc ?_))
      have q:=wAq gH
      obtain ⟨p7,mq,iI⟩:=q
      have q:=lX p7 iI
      obtain rfl:=q
      refine zc (zz (zF (zP (zZ ?_))))
      have hE:=hM mq;first | subst r | cases hE
      exact ⟨Z,_,(wEr),cH,_,gG,Z,Z,gu⟩
  ·have gI:=hm;rw [if_neg c2] at gI;replace c2:=zG c2
   refine cF Z c2 (kN (zK (sR fL4 Z (oM Z Z (oM Z Z (oR Z (ZN Z Z Z) (oR Z (Zw Z Z Z) (eN (ifc gI ?_ ?_)))))))))
   ·intro dJ mr
    refine cT Z dJ (sR fL2 Z (oM Z Z (oA Z Z (eN (sR fL2 Z (oM Z Z (oA Z Z (eN (bnK mr fun ff pS ms=>?_)))))))))
    let B3:Res:=.row aa ab 52 3 (hD wAB p0)
    refine YC (fun J_ w_=>∃ (U_:PHeap),J_ 0=.slice aa p0.length ab/\J_ 2=jV p2/\J_ 14=jV ff/\PHeap.Le U U_/\SW w [B3] U U_ [B3] w_) ?_ ?_
    ·refine zU (YM (fun (bX,bY) J_ w_=>∃ (U_:PHeap),J_ 0=.slice aa p0.length ab/\J_ 2=jV p2/\J_ 4=am/\J_ 14=jV bX/\J_ 15=jV bY/\PHeap.Le U U_/\SW w [B3] U U_ [B3] w_) pS ?_ ?_)
     ·exact ⟨U,Z,Z,Z,Z,Z,(zQ _),hS⟩
     ·rintro ⟨bX,bY⟩ sb qp fN ⟨ie,cg,cM,ee,cN,eh,dv,gv⟩ eY lS
      try dsimp only at eY
      refine zK (sR fL3 Z (oM Z cN (oM Z eh (oR Z (zR Z Z Z) (eN ?_)))))
      by_cases bG:bX < bY
      ·have gJ:=eY;rw [if_pos bG] at gJ;replace bG:=zG bG
       refine cT Z bG (kN (zU (sR fL7 rfl (zO rfl rfl rfl rfl rfl cN (zO rfl rfl rfl rfl rfl eh (zT rfl rfl rfl rfl (fun _=>zX rfl rfl rfl) (zT rfl rfl rfl rfl (fun _=>Runs.cv64 rfl rfl Zm yG rfl rfl) (zT rfl rfl rfl rfl (fun _=>Runs.shr1 rfl rfl rfl) (zT rfl rfl rfl rfl (fun _=>Runs.cvw rfl rfl yG Zm rfl rfl) (ye rfl rfl rfl rfl rfl rfl (eN (zK (ZQ ZK [3,3,3,3,1,3,3,3,1,2,3,3] (wNx (.fx 9 (.fl 10 (.fl 11 .nil)) .stop)) (by kernel_rfl) ?_)))))))))))))
       have ct:=gv.drew
       generalize hw_W157:({ fN with drawn:=fN.drawn + 1 }:World)=qX at ct ⊢
       refine oM Z ee (oM Z cg (oM Z cM (bnK gJ fun _ da mu=>?_)))
       obtain ⟨re,dq⟩:=ct.rowSome (j:=0) rfl (by rw [wAG (f:=wAB) (sz:=3) (fun _=>rfl) p0];have hz:=wAU da;omega)
       refine oR Z (ZU Z Z dq Z zh zf (wCS da) (wCT da)) ?_
       have l6:=wBY (xs:=p0) (wAU da)
       refine zn rfl rfl rfl rfl (ct.ldRA (j:=0) rfl dq rfl rfl Zy zf (vs:=[jV ((gd p0 p2.toNat).Bib),jV ((gd p0 p2.toNat).Place),jV ((gd p0 p2.toNat).Total)]) (wBE (sz:=3) (fun _=>rfl) _ _ _ l6 (by first | omega | rfl | simp) rfl) rfl) rfl (zO rfl rfl rfl rfl rfl cg (zO rfl rfl rfl rfl rfl rfl (bnK mu fun _ eQ mw=>zT rfl rfl rfl rfl (fun _=>ZU rfl rfl dq rfl zh zf (wCS eQ) (wCT eQ)) ?_)))
       have ma:=wBY (xs:=p0) (wAU eQ)
       refine zn rfl rfl rfl rfl (ct.ldRA (j:=0) rfl dq rfl rfl Zy zf (vs:=[jV ((gd p0 (w64 ((wBD (w64 (bX + bY))) / 2)).toNat).Bib),jV ((gd p0 (w64 ((wBD (w64 (bX + bY))) / 2)).toNat).Place),jV ((gd p0 (w64 ((wBD (w64 (bX + bY))) / 2)).toNat).Total)]) (wBE (sz:=3) (fun _=>rfl) _ _ _ ma (by first | omega | rfl | simp) rfl) rfl) rfl (bnK mw fun r7 iY mx=>?_)
       have iZ:=aP.le dv
       refine yU (a:=((gd p0 p2.toNat),(gd p0 (w64 ((wBD (w64 (bX + bY))) / 2)).toNat))) Z Z Z Z Z Z (zA Z (zA Z zM)) ct iZ Z iY ?_
       rintro dD qB rD im g8 j9 ⟨rfl,rfl⟩
       have gw:SW w [B3] U dD [B3] im:=j9
       refine oR Z (zR Z Z Z) (oR Z (Runs.notP Z Z) (eN (ifc mx ?_ ?_)))
       ·intro dK my
        refine zg (zo (fun h=>h dK.out)) (rR fL2 Z (oM Z Z (oA Z Z (zb (za ?_)))))
        have q:=hM my
        obtain rfl:=q
        exact zF ⟨Z,_,Z,⟨dD,cg,cM,ee,cN,Z,(dv.trans g8),gw⟩⟩
       ·intro dK mz
        refine cT Z dK (rR fL3 Z (oM Z Z (oR Z (zX Z Z Z) (oA Z Z (zb (za ?_))))))
        have q:=hM mz
        obtain rfl:=q
        exact zF ⟨Z,_,Z,⟨dD,cg,cM,ee,Z,eh,(dv.trans g8),gw⟩⟩
      ·have gK:=eY;rw [if_neg bG] at gK;replace bG:=zG bG
       refine cF Z bG (ZG (zc ?_))
       have q:=wAq gK
       obtain ⟨p8,mA,iJ⟩:=q
       have q:=lS p8 iJ
       obtain rfl:=q
       refine zc (zz ?_)
       cases mA
       exact zF ⟨Z,⟨ie,cg,cM,cN,dv,gv⟩⟩
    ·rintro qr qY ⟨fy,iO,iP,iQ,rj,k4⟩
     refine zK (sR fL2 Z (oM Z iP (oA Z Z (eN (zU (YM (fun (ah,aj) J_ w_=>∃ (U_:PHeap),J_ 0=.slice aa ah.length ab/\J_ 14=jV ff/\J_ 17=jV aj/\PHeap.Le fy U_/\SW w [B3] U U_ [.row aa ab 52 3 (hD wAB ah)] w_/\ah.length=p0.length) ms ?_ ?_))))))
     ·exact ⟨fy,iO,iQ,Z,(zQ _),k4,Z⟩
     ·rintro ⟨ah,aj⟩ sd qs fP ⟨cB,ch,fY,cc,pW,gx,gi⟩ e8 lU
      try dsimp only at e8
      refine zK (sR fL3 Z (oM Z cc (oM Z fY (oR Z (yP Z Z Z) (eN ?_)))))
      by_cases bI:ff < aj
      ·have gL:=e8;rw [if_pos bI] at gL;replace bI:=zG bI
       refine cT Z bI (kN (zK (zU (ZQ ZK [3,3,3,3,3,3,3,3,3,1,3,3,3,1,3,0,3,0] (wKK gCi) (by kernel_rfl) ?_))))
       have cw:=gx.drew
       generalize hw_W222:({ fP with drawn:=fP.drawn + 1 }:World)=qZ at cw ⊢
       refine oM Z ch (oM Z cc (oM Z ch (oM Z cc (oR Z (ZN Z Z Z) (oM Z ch (oM Z cc (oR Z (ZN Z Z Z) (bnK gL fun _ db mB=>?_))))))))
       obtain ⟨rf,bO⟩:=cw.rowSome (j:=0) rfl (by rw [wAG (f:=wAB) (sz:=3) (fun _=>rfl) ah];have hz:=wAU db;omega)
       refine oR Z (ZU Z Z bO Z zh zf (wCS db) (wCT db)) ?_
       have mb:=wBY (xs:=ah) (wAU db)
       let B4:List Value:=[jV ((gd ah (w64 (aj - 1)).toNat).Bib),jV ((gd ah (w64 (aj - 1)).toNat).Place),jV ((gd ah (w64 (aj - 1)).toNat).Total)]
       refine zn rfl rfl rfl rfl (cw.ldRA (j:=0) rfl bO rfl rfl Zy zf (vs:=B4) (wBE (sz:=3) (fun _=>rfl) _ _ _ mb (by first | omega | rfl | simp) rfl) rfl) rfl (zO rfl rfl rfl rfl rfl ch (zO rfl rfl rfl rfl rfl cc (bnK mB fun _ bU mC=>zT rfl rfl rfl rfl (fun _=>ZU rfl rfl bO rfl zh zf (wCS bU) (wCT bU)) ?_)))
       have mc:=wBY (xs:=ah) (wAU bU)
       let B5:List Value:=[jV ((gd ah aj.toNat).Bib),jV ((gd ah aj.toNat).Place),jV ((gd ah aj.toNat).Total)]
       refine zn rfl rfl rfl rfl (cw.ldRA (j:=0) rfl bO rfl rfl Zy zf (vs:=B5) (wBE (sz:=3) (fun _=>rfl) _ _ _ mc (by first | omega | rfl | simp) rfl) rfl) rfl (zT rfl rfl rfl rfl (fun _=>ZU rfl rfl bO rfl zh zf (wCS bU) (wCT bU)) ?_)
       have md:=wBY (xs:=ah) (wAU bU)
       refine YE (j:=0) (vs:=B4) (cs':=hD wAB (nB ah aj.toNat (gd ah (w64 (aj - 1)).toNat))) rfl rfl rfl rfl cw rfl bO rfl rfl rfl zf (by rw [wAG (f:=wAB) (sz:=3) (fun _=>rfl)];have hz:=wAU bU;show _ + 3 <= _;first | omega | (simp only [nJ];omega) | (simp only [nG,nD,nE];omega)) rfl (wEK (sz:=3) (fo:=0) (fun _=>rfl) _ _ _ _ md (by first | omega | (simp only [nJ];omega) | (simp only [nG,nD,nE];omega)) (zB rfl) rfl) rfl ?_
       intro io k5
       have k6:SW w [B3] U cB [.row aa ab 52 3 (hD wAB (nB ah aj.toNat (gd ah (w64 (aj - 1)).toNat)))] io:=k5
       refine bnK mC fun _ cr mD=>zT rfl rfl rfl rfl (fun _=>ZU rfl (nK (b:=(.slice aa ah.length ab:Value)) (c:=(.slice aa ((nB ah aj.toNat (gd ah (w64 (aj - 1)).toNat)).length) ab:Value)) rfl (by simp only [nA])) bO rfl zh zf (wCS cr) (wCT cr)) ?_
       have me:=wBY (xs:=(nB ah aj.toNat (gd ah (w64 (aj - 1)).toNat))) (by first | exact wAU cr | (have hz:=wAU cr;simpa only [nA] using hz))
       refine YE (j:=0) (vs:=B5) (cs':=hD wAB (nB (nB ah aj.toNat (gd ah (w64 (aj - 1)).toNat)) (w64 (aj - 1)).toNat (gd ah aj.toNat))) rfl rfl rfl rfl k6 rfl bO rfl rfl rfl zf (by rw [wAG (f:=wAB) (sz:=3) (fun _=>rfl)];have hz:=wAU cr;show _ + 3 <= _;first | omega | (simp only [nA];omega) | (simp only [nG,nD,nE,nA];omega) | (simp only [nJ];omega) | (simp only [nG,nD,nE];omega)) rfl (wEK (sz:=3) (fo:=0) (fun _=>rfl) _ _ _ _ me (by first | omega | (simp only [nJ];omega) | (simp only [nG,nD,nE];omega)) (zB rfl) rfl) rfl ?_
       intro ip k9
       have la:SW w [B3] U cB [.row aa ab 52 3 (hD wAB (nB (nB ah aj.toNat (gd ah (w64 (aj - 1)).toNat)) (w64 (aj - 1)).toNat (gd ah aj.toNat)))] ip:=k9
       refine zb (za (zF (rR fL3 Z (oM Z cc (oR Z (ZN Z Z Z) (oA Z Z (zb ?_)))))))
       have q:=hM mD
       obtain rfl:=q
       exact zF ⟨rfl,_,rfl,⟨cB,(nK (b:=(.slice aa ((nB ah aj.toNat (gd ah (w64 (aj - 1)).toNat)).length) ab:Value)) (c:=(.slice aa ((nB (nB ah aj.toNat (gd ah (w64 (aj - 1)).toNat)) (w64 (aj - 1)).toNat (gd ah aj.toNat)).length) ab:Value)) (nK (b:=(.slice aa ah.length ab:Value)) (c:=(.slice aa ((nB ah aj.toNat (gd ah (w64 (aj - 1)).toNat)).length) ab:Value)) ch (by simp only [nA])) (by simp only [nA])),fY,rfl,pW,la,((nA.trans nA).trans gi)⟩⟩
      ·have gM:=e8;rw [if_neg bI] at gM;replace bI:=zG bI
       refine cF Z bI (ZG (zc ?_))
       have q:=wAq gM
       obtain ⟨p9,mE,iK⟩:=q
       have q:=lU p9 iK
       obtain rfl:=q
       refine zc (zz (zF (zP (zZ ?_))))
       have hE:=hM mE;first | subst r | cases hE
       exact ⟨Z,_,(wEr),cB,_,gx,Z,Z,gi⟩
   ·intro dJ mF
    refine cF Z dJ (kN (sR fL7 Z (oM Z Z (oM Z Z (oR Z (zX Z Z Z) (oR Z (Runs.cv64 Z Z Zm yG Z Z) (oR Z (Runs.shr1 Z Z Z) (oR Z (Runs.cvw Z Z yG Zm Z Z) (oA Z Z (eN (sR fL4 Z (oM Z Z (oM Z Z (oR Z (zX Z Z Z) (oA Z Z (eN (sR fL2 Z (oA Z Z (oA Z Z (eN (zK (sR fL3 Z (oM Z Z (oM Z Z (oR Z (yP Z Z Z) (eN (ifc mF ?_ ?_)))))))))))))))))))))))))))
    ·intro dL mG
     refine cT Z dL (sR fL4 Z (oM Z Z (oM Z Z (oR Z (ZN Z Z Z) (oA Z Z (eN (rR fL2 Z (oM Z Z (oA Z Z (eN (sR fL3 Z (oM Z Z (oR Z (ZN Z Z Z) (oA Z Z (eN (bnK mG fun az pT mH=>?_))))))))))))))))
     let B6:Res:=.row aa ab 52 3 (hD wAB p0)
     refine YC (fun J_ w_=>∃ (U_:PHeap),J_ 0=.slice aa p0.length ab/\J_ 1=jV p1/\J_ 2=jV p2/\J_ 3=jV p3/\J_ 4=am/\J_ 18=jV (w64 ((wBD (w64 (p1 + p3))) / 2))/\J_ 19=jV (w64 ((w64 ((wBD (w64 (p1 + p3))) / 2)) + p2))/\J_ 20=jV az/\PHeap.Le U U_/\SW w [B6] U U_ [B6] w_) ?_ ?_
     ·refine zU (YM (fun (aS,aT) J_ w_=>∃ (U_:PHeap),J_ 0=.slice aa p0.length ab/\J_ 1=jV p1/\J_ 2=jV p2/\J_ 3=jV p3/\J_ 4=am/\J_ 18=jV (w64 ((wBD (w64 (p1 + p3))) / 2))/\J_ 19=jV (w64 ((w64 ((wBD (w64 (p1 + p3))) / 2)) + p2))/\J_ 20=jV aS/\J_ 21=jV aT/\J_ 22=jV (w64 ((w64 ((w64 ((wBD (w64 (p1 + p3))) / 2)) + p2)) - 1))/\PHeap.Le U U_/\SW w [B6] U U_ [B6] w_) pT ?_ ?_)
      ·exact ⟨U,Z,Z,Z,Z,Z,Z,Z,Z,Z,Z,(zQ _),hS⟩
      ·rintro ⟨aS,aT⟩ se qt fQ ⟨ii,cj,ep,eu,ey,cP,eA,eB,cQ,eD,eF,dx,gz⟩ e9 lV
       try dsimp only at e9
       refine zK (sR fL3 Z (oM Z cQ (oM Z eD (oR Z (zR Z Z Z) (eN ?_)))))
       by_cases bJ:aS < aT
       ·have gN:=e9;rw [if_pos bJ] at gN;replace bJ:=zG bJ
        refine cT Z bJ (kN (zU (sR fL7 rfl (zO rfl rfl rfl rfl rfl cQ (zO rfl rfl rfl rfl rfl eD (zT rfl rfl rfl rfl (fun _=>zX rfl rfl rfl) (zT rfl rfl rfl rfl (fun _=>Runs.cv64 rfl rfl Zm yG rfl rfl) (zT rfl rfl rfl rfl (fun _=>Runs.shr1 rfl rfl rfl) (zT rfl rfl rfl rfl (fun _=>Runs.cvw rfl rfl yG Zm rfl rfl) (ye rfl rfl rfl rfl rfl rfl (eN (zK (ZQ ZK [3,3,3,3,3,3,1,3,3,3,1,2,3,3] (wNF gCj) (by kernel_rfl) ?_)))))))))))))
        have cx:=gz.drew
        generalize hw_W285:({ fQ with drawn:=fQ.drawn + 1 }:World)=q0 at cx ⊢
        refine oM Z cP (oM Z cj (oM Z eF (oM Z Z (oR Z (ZN Z Z Z) (bnK gN fun _ dd mI=>?_)))))
        obtain ⟨rg,dr⟩:=cx.rowSome (j:=0) rfl (by rw [wAG (f:=wAB) (sz:=3) (fun _=>rfl) p0];have hz:=wAU dd;omega)
        refine oR Z (ZU Z Z dr Z zh zf (wCS dd) (wCT dd)) ?_
        have mf:=wBY (xs:=p0) (wAU dd)
        refine zn rfl rfl rfl rfl (cx.ldRA (j:=0) rfl dr rfl rfl Zy zf (vs:=[jV ((gd p0 (w64 ((w64 ((w64 ((w64 ((wBD (w64 (p1 + p3))) / 2)) + p2)) - 1)) - (w64 ((wBD (w64 (aS + aT))) / 2)))).toNat).Bib),jV ((gd p0 (w64 ((w64 ((w64 ((w64 ((wBD (w64 (p1 + p3))) / 2)) + p2)) - 1)) - (w64 ((wBD (w64 (aS + aT))) / 2)))).toNat).Place),jV ((gd p0 (w64 ((w64 ((w64 ((w64 ((wBD (w64 (p1 + p3))) / 2)) + p2)) - 1)) - (w64 ((wBD (w64 (aS + aT))) / 2)))).toNat).Total)]) (wBE (sz:=3) (fun _=>rfl) _ _ _ mf (by first | omega | rfl | simp) rfl) rfl) rfl (zO rfl rfl rfl rfl rfl cj (zO rfl rfl rfl rfl rfl rfl (bnK mI fun _ eR mJ=>zT rfl rfl rfl rfl (fun _=>ZU rfl rfl dr rfl zh zf (wCS eR) (wCT eR)) ?_)))
        have mg:=wBY (xs:=p0) (wAU eR)
        refine zn rfl rfl rfl rfl (cx.ldRA (j:=0) rfl dr rfl rfl Zy zf (vs:=[jV ((gd p0 (w64 ((wBD (w64 (aS + aT))) / 2)).toNat).Bib),jV ((gd p0 (w64 ((wBD (w64 (aS + aT))) / 2)).toNat).Place),jV ((gd p0 (w64 ((wBD (w64 (aS + aT))) / 2)).toNat).Total)]) (wBE (sz:=3) (fun _=>rfl) _ _ _ mg (by first | omega | rfl | simp) rfl) rfl) rfl (bnK mJ fun r8 i4 mK=>?_)
        have i5:=aP.le dx
        refine yU (a:=((gd p0 (w64 ((w64 ((w64 ((w64 ((wBD (w64 (p1 + p3))) / 2)) + p2)) - 1)) - (w64 ((wBD (w64 (aS + aT))) / 2)))).toNat),(gd p0 (w64 ((wBD (w64 (aS + aT))) / 2)).toNat))) Z Z Z Z Z Z (zA Z (zA Z zM)) cx i5 Z i4 ?_
        rintro dE qC rE iq g9 lb ⟨rfl,rfl⟩
        have gA:SW w [B6] U dE [B6] iq:=lb
        refine oR Z (zR Z Z Z) (oR Z (Runs.notP Z Z) (eN (ifc mK ?_ ?_)))
        ·intro dM mL
         refine zg (zo (fun h=>h dM.out)) (rR fL2 Z (oM Z Z (oA Z Z (zb (za ?_)))))
         have q:=hM mL
         obtain rfl:=q
         exact zF ⟨Z,_,Z,⟨dE,cj,ep,eu,ey,cP,eA,eB,cQ,Z,eF,(dx.trans g9),gA⟩⟩
        ·intro dM mM
         refine cT Z dM (rR fL3 Z (oM Z Z (oR Z (zX Z Z Z) (oA Z Z (zb (za ?_))))))
         have q:=hM mM
         obtain rfl:=q
         exact zF ⟨Z,_,Z,⟨dE,cj,ep,eu,ey,cP,eA,eB,Z,eD,eF,(dx.trans g9),gA⟩⟩
       ·have gP:=e9;rw [if_neg bJ] at gP;replace bJ:=zG bJ
        refine cF Z bJ (ZG (zc ?_))
        have q:=wAq gP
        obtain ⟨qa,mN,iL⟩:=q
        have q:=lV qa iL
        obtain rfl:=q
        refine zc (zz ?_)
        cases mN
        exact zF ⟨Z,⟨ii,cj,ep,eu,ey,cP,eA,eB,cQ,dx,gz⟩⟩
     ·rintro qu q5 ⟨dF,fZ,f0,cS,f3,f4,f7,iR,cU,dy,gB⟩
      refine sR fL4 Z (oM Z iR (oM Z cU (oR Z (ZN Z Z Z) (oA Z Z (eN (zK (bnK mH fun iG g6 mO=>YC (fun J_ w_=>∃ (U_:PHeap),J_ 0=.slice aa p0.length ab/\J_ 1=jV p1/\J_ 2=jV p2/\J_ 3=jV p3/\J_ 4=am/\J_ 18=jV (w64 ((wBD (w64 (p1 + p3))) / 2))/\J_ 20=jV az/\J_ 24=jV (w64 ((w64 ((w64 ((wBD (w64 (p1 + p3))) / 2)) + p2)) - az))/\J_ 185=.bool iG/\PHeap.Le dF U_/\SW w [B6] U U_ [B6] w_) ?_ ?_)))))))
      ·refine rR fL8 Z (oM Z cU (oM Z cS (oR Z (zR Z Z Z) (oM Z Z ?_))))
       by_cases ax:az < p2
       ·have gR:=g6;rw [if_pos ax] at gR;replace ax:=zG ax
        refine zO Z Z Z (wT Z ax) Z cS (zO Z Z Z (wT Z ax) Z Z (rU Z (wT Z ax) (zR Z Z Z) (oR Z (zV Z (ZO ax.out) Z) (zb ?_))))
        have q:=hM gR
        obtain rfl:=q
        exact zF ⟨Z,⟨dF,fZ,f0,cS,f3,f4,f7,cU,Z,Z,(zQ _),gB⟩⟩
       ·have gS:=g6;rw [if_neg ax] at gS;replace ax:=zG ax
        refine oF Z ax (oF Z ax (oF Z ax (oR Z (zS Z (zo ax.out) Z) (zb ?_))))
        cases gS
        exact zF ⟨Z,⟨dF,fZ,f0,cS,f3,f4,f7,cU,Z,Z,(zQ _),gB⟩⟩
      ·rintro qv cI ⟨bC,bu,cV,iS,aQ,bw,av,bR,ao,f8,dz,bP⟩
       refine ifc mO ?_ ?_
       ·intro dN mP
        refine zx (f8.trans (congrArg nH dN.out)) (rR (wEA (.fx 5 .nil .stop)) Z (oM Z bu (oM Z bR (oM Z iS (oM Z ao (oM Z bw ?_))))))
        have i6:=aP.le dy
        have df:=i6.le dz
        refine bnK mP fun bA i7 mQ=>zI 1 Z Z Z Z (zJ Z Z Tryz.call268 (zA Z (zA Z (zA Z (zA Z (zA Z zM))))) Z) bP (fun hs=>wDF p0 aa ab az p2 (w64 ((w64 ((w64 ((wBD (w64 (p1 + p3))) / 2)) + p2)) - az)) p4 am cI bC hs df i7) (.inl Z) ?_
        rintro bD qD rF cJ fd lc ⟨rfl,rfl,aN⟩
        have bV:SW w [B6] U bD [.row aa ab 52 3 (hD wAB bA)] cJ:=lc
        refine eN (zK (sR fL8 Z (oM Z cV (oM Z bR (oR Z (zR Z Z Z) (oM Z Z (ifc mQ ?_ ?_)))))))
        ·intro aY mS
         refine zO Z Z Z (wT Z aY) Z bR (zO Z Z Z (wT Z aY) Z av (rU Z (wT Z aY) (zR Z Z Z) (oR Z (zV Z (ZO aY.out) Z) (eN (ifc mS ?_ ?_)))))
         ·intro dO mT
          refine cT Z dO (rR (wEA (.fx 5 .nil .stop)) rfl (zO rfl rfl rfl rfl rfl (nK (b:=(.slice aa p0.length ab:Value)) (c:=(.slice aa bA.length ab:Value)) bu (by rw [aN])) (zO rfl rfl rfl rfl rfl cV (zO rfl rfl rfl rfl rfl bR (zO rfl rfl rfl rfl rfl av (zO rfl rfl rfl rfl rfl bw ?_))))))
          have gj:=df.le fd
          refine bnK mT fun fg i8 mU=>zI 1 Z Z Z Z (zJ Z Z yC (zA Z (zA Z (zA Z (zA Z (zA Z zM))))) Z) bV (fun hs=>ih bA aa ab p1 az (w64 ((wBD (w64 (p1 + p3))) / 2)) p4 am cJ bD hs gj i8) (.inl Z) ?_
          rintro cC qE rG fR pX lg ⟨rfl,rfl,dg⟩
          have eU:SW w [B6] U cC [.row aa ab 52 3 (hD wAB fg)] fR:=lg
          refine eN (sR fL8 Z (oM Z av (oM Z ao (oR Z (zR Z Z Z) (oM Z Z (ifc mU ?_ ?_))))))
          ·intro aZ mV
           refine zO Z Z Z (wT Z aZ) Z ao (zO Z Z Z (wT Z aZ) Z aQ (rU Z (wT Z aZ) (zR Z Z Z) (oR Z (zV Z (ZO aZ.out) Z) (eN (ifc mV ?_ ?_)))))
           ·intro dP mW
            refine cT Z dP (rR (wEA (.fx 5 .nil .stop)) rfl (zO rfl rfl rfl rfl rfl (nK (b:=(.slice aa bA.length ab:Value)) (c:=(.slice aa fg.length ab:Value)) (nK (b:=(.slice aa p0.length ab:Value)) (c:=(.slice aa bA.length ab:Value)) bu (by rw [aN])) (by rw [dg])) (zO rfl rfl rfl rfl rfl av (zO rfl rfl rfl rfl rfl ao (zO rfl rfl rfl rfl rfl aQ (zO rfl rfl rfl rfl rfl bw ?_))))))
            have i9:=gj.le pX
            refine bnK mW fun qd ja mX=>zI 1 Z Z Z Z (zJ Z Z yC (zA Z (zA Z (zA Z (zA Z (zA Z zM))))) Z) eU (fun hs=>ih fg aa ab (w64 ((wBD (w64 (p1 + p3))) / 2)) (w64 ((w64 ((w64 ((wBD (w64 (p1 + p3))) / 2)) + p2)) - az)) p3 p4 am fR cC hs i9 ja) (.inl Z) ?_
            rintro fz qF rH ir rk lh ⟨rfl,rfl,jb⟩
            have li:SW w [B6] U fz [.row aa ab 52 3 (hD wAB qd)] ir:=lh
            refine zb ?_
            have hE:=hM mX;first | subst r | cases hE
            exact ⟨Z,_,(wEr),fz,_,li,Z,Z,((jb.trans dg).trans aN)⟩
           ·intro dP mY
            refine cF Z dP (ZE ?_)
            have hE:=hM mY;first | subst r | cases hE
            exact ⟨Z,_,(wEr),cC,_,eU,Z,Z,(dg.trans aN)⟩
          ·intro aZ mZ
           refine oF Z aZ (oF Z aZ (oF Z aZ (oR Z (zS Z (zo aZ.out) Z) (eN (zg Z (ZE ?_))))))
           have hE:=hM mZ;first | subst r | cases hE
           exact ⟨Z,_,(wEr),cC,_,eU,Z,Z,(dg.trans aN)⟩
         ·intro dO m2
          refine cF Z dO (kN (sR fL8 Z (oM Z av (oM Z ao (oR Z (zR Z Z Z) (oM Z Z (ifc m2 ?_ ?_)))))))
          ·intro ba m3
           refine zO Z Z Z (wT Z ba) Z ao (zO Z Z Z (wT Z ba) Z aQ (rU Z (wT Z ba) (zR Z Z Z) (oR Z (zV Z (ZO ba.out) Z) (eN (ifc m3 ?_ ?_)))))
           ·intro dQ m4
            refine cT Z dQ (rR (wEA (.fx 5 .nil .stop)) rfl (zO rfl rfl rfl rfl rfl (nK (b:=(.slice aa p0.length ab:Value)) (c:=(.slice aa bA.length ab:Value)) bu (by rw [aN])) (zO rfl rfl rfl rfl rfl av (zO rfl rfl rfl rfl rfl ao (zO rfl rfl rfl rfl rfl aQ (zO rfl rfl rfl rfl rfl bw ?_))))))
            have jc:=df.le fd
            refine bnK m4 fun qe jd m6=>zI 1 Z Z Z Z (zJ Z Z yC (zA Z (zA Z (zA Z (zA Z (zA Z zM))))) Z) bV (fun hs=>ih bA aa ab (w64 ((wBD (w64 (p1 + p3))) / 2)) (w64 ((w64 ((w64 ((wBD (w64 (p1 + p3))) / 2)) + p2)) - az)) p3 p4 am cJ bD hs jc jd) (.inl Z) ?_
            rintro fA qG rI it rl lj ⟨rfl,rfl,je⟩
            have lk:SW w [B6] U fA [.row aa ab 52 3 (hD wAB qe)] it:=lj
            refine zb ?_
            have hE:=hM m6;first | subst r | cases hE
            exact ⟨Z,_,(wEr),fA,_,lk,Z,Z,(je.trans aN)⟩
           ·intro dQ m7
            refine cF Z dQ (ZE ?_)
            have hE:=hM m7;first | subst r | cases hE
            exact ⟨Z,_,(wEr),bD,_,bV,Z,Z,aN⟩
          ·intro ba m8
           refine oF Z ba (oF Z ba (oF Z ba (oR Z (zS Z (zo ba.out) Z) (eN (zg Z (ZE ?_))))))
           have hE:=hM m8;first | subst r | cases hE
           exact ⟨Z,_,(wEr),bD,_,bV,Z,Z,aN⟩
        ·intro aY m9
         refine oF Z aY (oF Z aY (oF Z aY (oR Z (zS Z (zo aY.out) Z) (eN (zg Z (kN (sR fL8 Z (oM Z av (oM Z ao (oR Z (zR Z Z Z) (oM Z Z (ifc m9 ?_ ?_))))))))))))
         ·intro bb n2
          refine zO Z Z Z (wT Z bb) Z ao (zO Z Z Z (wT Z bb) Z aQ (rU Z (wT Z bb) (zR Z Z Z) (oR Z (zV Z (ZO bb.out) Z) (eN (ifc n2 ?_ ?_)))))
          ·intro dR n3
           refine cT Z dR (rR (wEA (.fx 5 .nil .stop)) rfl (zO rfl rfl rfl rfl rfl (nK (b:=(.slice aa p0.length ab:Value)) (c:=(.slice aa bA.length ab:Value)) bu (by rw [aN])) (zO rfl rfl rfl rfl rfl av (zO rfl rfl rfl rfl rfl ao (zO rfl rfl rfl rfl rfl aQ (zO rfl rfl rfl rfl rfl bw ?_))))))
           have jf:=df.le fd
           refine bnK n3 fun qf jg n4=>zI 1 Z Z Z Z (zJ Z Z yC (zA Z (zA Z (zA Z (zA Z (zA Z zM))))) Z) bV (fun hs=>ih bA aa ab (w64 ((wBD (w64 (p1 + p3))) / 2)) (w64 ((w64 ((w64 ((wBD (w64 (p1 + p3))) / 2)) + p2)) - az)) p3 p4 am cJ bD hs jf jg) (.inl Z) ?_
           rintro fB qH rJ iu rn lm ⟨rfl,rfl,jh⟩
           have ln:SW w [B6] U fB [.row aa ab 52 3 (hD wAB qf)] iu:=lm
           refine zb ?_
           have hE:=hM n4;first | subst r | cases hE
           exact ⟨Z,_,(wEr),fB,_,ln,Z,Z,(jh.trans aN)⟩
          ·intro dR n5
           refine cF Z dR (ZE ?_)
           have hE:=hM n5;first | subst r | cases hE
           exact ⟨Z,_,(wEr),bD,_,bV,Z,Z,aN⟩
         ·intro bb n7
          refine oF Z bb (oF Z bb (oF Z bb (oR Z (zS Z (zo bb.out) Z) (eN (zg Z (ZE ?_))))))
          have hE:=hM n7;first | subst r | cases hE
          exact ⟨Z,_,(wEr),bD,_,bV,Z,Z,aN⟩
       ·intro dN n8
        refine zg (f8.trans (congrArg nH (nI.2 dN.out))) (kN (zK (sR fL8 Z (oM Z cV (oM Z bR (oR Z (zR Z Z Z) (oM Z Z (ifc n8 ?_ ?_))))))))
        ·intro be n9
         refine zO Z Z Z (wT Z be) Z bR (zO Z Z Z (wT Z be) Z av (rU Z (wT Z be) (zR Z Z Z) (oR Z (zV Z (ZO be.out) Z) (eN (ifc n9 ?_ ?_)))))
         ·intro dS oa
          refine cT Z dS (rR (wEA (.fx 5 .nil .stop)) Z (oM Z bu (oM Z cV (oM Z bR (oM Z av (oM Z bw ?_))))))
          have jj:=aP.le dy
          have gm:=jj.le dz
          refine bnK oa fun fj jk oc=>zI 1 Z Z Z Z (zJ Z Z yC (zA Z (zA Z (zA Z (zA Z (zA Z zM))))) Z) bP (fun hs=>ih p0 aa ab p1 az (w64 ((wBD (w64 (p1 + p3))) / 2)) p4 am cI bC hs gm jk) (.inl Z) ?_
          rintro cD qI rK fS pY lp ⟨rfl,rfl,dh⟩
          have eV:SW w [B6] U cD [.row aa ab 52 3 (hD wAB fj)] fS:=lp
          refine eN (sR fL8 Z (oM Z av (oM Z ao (oR Z (zR Z Z Z) (oM Z Z (ifc oc ?_ ?_))))))
          ·intro bg oe
           refine zO Z Z Z (wT Z bg) Z ao (zO Z Z Z (wT Z bg) Z aQ (rU Z (wT Z bg) (zR Z Z Z) (oR Z (zV Z (ZO bg.out) Z) (eN (ifc oe ?_ ?_)))))
           ·intro dT og
            refine cT Z dT (rR (wEA (.fx 5 .nil .stop)) rfl (zO rfl rfl rfl rfl rfl (nK (b:=(.slice aa p0.length ab:Value)) (c:=(.slice aa fj.length ab:Value)) bu (by rw [dh])) (zO rfl rfl rfl rfl rfl av (zO rfl rfl rfl rfl rfl ao (zO rfl rfl rfl rfl rfl aQ (zO rfl rfl rfl rfl rfl bw ?_))))))
            have jl:=gm.le pY
            refine bnK og fun qg jm oh=>zI 1 Z Z Z Z (zJ Z Z yC (zA Z (zA Z (zA Z (zA Z (zA Z zM))))) Z) eV (fun hs=>ih fj aa ab (w64 ((wBD (w64 (p1 + p3))) / 2)) (w64 ((w64 ((w64 ((wBD (w64 (p1 + p3))) / 2)) + p2)) - az)) p3 p4 am fS cD hs jl jm) (.inl Z) ?_
            rintro fC qJ rL iv ro lq ⟨rfl,rfl,jo⟩
            have ls:SW w [B6] U fC [.row aa ab 52 3 (hD wAB qg)] iv:=lq
            refine zb ?_
            have hE:=hM oh;first | subst r | cases hE
            exact ⟨Z,_,(wEr),fC,_,ls,Z,Z,(jo.trans dh)⟩
           ·intro dT oj
            refine cF Z dT (ZE ?_)
            have hE:=hM oj;first | subst r | cases hE
            exact ⟨Z,_,(wEr),cD,_,eV,Z,Z,dh⟩
          ·intro bg om
           refine oF Z bg (oF Z bg (oF Z bg (oR Z (zS Z (zo bg.out) Z) (eN (zg Z (ZE ?_))))))
           have hE:=hM om;first | subst r | cases hE
           exact ⟨Z,_,(wEr),cD,_,eV,Z,Z,dh⟩
         ·intro dS oq
          refine cF Z dS (kN (sR fL8 Z (oM Z av (oM Z ao (oR Z (zR Z Z Z) (oM Z Z (ifc oq ?_ ?_)))))))
          ·intro bh ot
           refine zO Z Z Z (wT Z bh) Z ao (zO Z Z Z (wT Z bh) Z aQ (rU Z (wT Z bh) (zR Z Z Z) (oR Z (zV Z (ZO bh.out) Z) (eN (ifc ot ?_ ?_)))))
           ·intro dU ou
            refine cT Z dU (rR (wEA (.fx 5 .nil .stop)) Z (oM Z bu (oM Z av (oM Z ao (oM Z aQ (oM Z bw ?_))))))
            have jp:=aP.le dy
            have jq:=jp.le dz
            refine bnK ou fun qh jr ov=>zI 1 Z Z Z Z (zJ Z Z yC (zA Z (zA Z (zA Z (zA Z (zA Z zM))))) Z) bP (fun hs=>ih p0 aa ab (w64 ((wBD (w64 (p1 + p3))) / 2)) (w64 ((w64 ((w64 ((wBD (w64 (p1 + p3))) / 2)) + p2)) - az)) p3 p4 am cI bC hs jq jr) (.inl Z) ?_
            rintro fD qL rN iw rp lu ⟨rfl,rfl,jt⟩
            have lv:SW w [B6] U fD [.row aa ab 52 3 (hD wAB qh)] iw:=lu
            refine zb ?_
            have hE:=hM ov;first | subst r | cases hE
            exact ⟨Z,_,(wEr),fD,_,lv,Z,Z,jt⟩
           ·intro dU ow
            refine cF Z dU (ZE ?_)
            have hE:=hM ow;first | subst r | cases hE
            exact ⟨Z,_,(wEr),bC,_,bP,Z,Z,Z⟩
          ·intro bh ox
           refine oF Z bh (oF Z bh (oF Z bh (oR Z (zS Z (zo bh.out) Z) (eN (zg Z (ZE ?_))))))
           have hE:=hM ox;first | subst r | cases hE
           exact ⟨Z,_,(wEr),bC,_,bP,Z,Z,Z⟩
        ·intro be oy
         refine oF Z be (oF Z be (oF Z be (oR Z (zS Z (zo be.out) Z) (eN (zg Z (kN (sR fL8 Z (oM Z av (oM Z ao (oR Z (zR Z Z Z) (oM Z Z (ifc oy ?_ ?_))))))))))))
         ·intro bi oz
          refine zO Z Z Z (wT Z bi) Z ao (zO Z Z Z (wT Z bi) Z aQ (rU Z (wT Z bi) (zR Z Z Z) (oR Z (zV Z (ZO bi.out) Z) (eN (ifc oz ?_ ?_)))))
          ·intro dV oB
           refine cT Z dV (rR (wEA (.fx 5 .nil .stop)) Z (oM Z bu (oM Z av (oM Z ao (oM Z aQ (oM Z bw ?_))))))
           have ju:=aP.le dy
           have jv:=ju.le dz
           refine bnK oB fun qi jw oC=>zI 1 Z Z Z Z (zJ Z Z yC (zA Z (zA Z (zA Z (zA Z (zA Z zM))))) Z) bP (fun hs=>ih p0 aa ab (w64 ((wBD (w64 (p1 + p3))) / 2)) (w64 ((w64 ((w64 ((wBD (w64 (p1 + p3))) / 2)) + p2)) - az)) p3 p4 am cI bC hs jv jw) (.inl Z) ?_
           rintro fE qM rP iy rq lx ⟨rfl,rfl,jx⟩
           have ly:SW w [B6] U fE [.row aa ab 52 3 (hD wAB qi)] iy:=lx
           refine zb ?_
           have hE:=hM oC;first | subst r | cases hE
           exact ⟨Z,_,(wEr),fE,_,ly,Z,Z,jx⟩
          ·intro dV oD
           refine cF Z dV (ZE ?_)
           have hE:=hM oD;first | subst r | cases hE
           exact ⟨Z,_,(wEr),bC,_,bP,Z,Z,Z⟩
         ·intro bi oE
          refine oF Z bi (oF Z bi (oF Z bi (oR Z (zS Z (zo bi.out) Z) (eN (zg Z (ZE ?_))))))
          have hE:=hM oE;first | subst r | cases hE
          exact ⟨Z,_,(wEr),bC,_,bP,Z,Z,Z⟩
    ·intro dL oG
     refine cF Z dL (sR fL2 Z (oM Z Z (oA Z Z (eN (rR fL2 Z (oM Z Z (oA Z Z (eN (sR fL3 Z (oM Z Z (oR Z (ZN Z Z Z) (oA Z Z (eN (bnK oG fun aM pU oH=>?_))))))))))))))
     let B7:Res:=.row aa ab 52 3 (hD wAB p0)
     refine YC (fun J_ w_=>∃ (U_:PHeap),J_ 0=.slice aa p0.length ab/\J_ 1=jV p1/\J_ 2=jV p2/\J_ 3=jV p3/\J_ 4=am/\J_ 18=jV (w64 ((wBD (w64 (p1 + p3))) / 2))/\J_ 19=jV (w64 ((w64 ((wBD (w64 (p1 + p3))) / 2)) + p2))/\J_ 20=jV aM/\PHeap.Le U U_/\SW w [B7] U U_ [B7] w_) ?_ ?_
     ·refine zU (YM (fun (aU,aV) J_ w_=>∃ (U_:PHeap),J_ 0=.slice aa p0.length ab/\J_ 1=jV p1/\J_ 2=jV p2/\J_ 3=jV p3/\J_ 4=am/\J_ 18=jV (w64 ((wBD (w64 (p1 + p3))) / 2))/\J_ 19=jV (w64 ((w64 ((wBD (w64 (p1 + p3))) / 2)) + p2))/\J_ 20=jV aU/\J_ 21=jV aV/\J_ 22=jV (w64 ((w64 ((w64 ((wBD (w64 (p1 + p3))) / 2)) + p2)) - 1))/\PHeap.Le U U_/\SW w [B7] U U_ [B7] w_) pU ?_ ?_)
      ·exact ⟨U,Z,Z,Z,Z,Z,Z,Z,Z,Z,Z,(zQ _),hS⟩
      ·rintro ⟨aU,aV⟩ sf qw fT ⟨ij,cm,eH,eI,eJ,cW,eK,eM,cX,eO,eP,dA,gD⟩ fb lW
       try dsimp only at fb
       refine zK (sR fL3 Z (oM Z cX (oM Z eO (oR Z (zR Z Z Z) (eN ?_)))))
       by_cases bL:aU < aV
       ·have gT:=fb;rw [if_pos bL] at gT;replace bL:=zG bL
        refine cT Z bL (kN (zU (sR fL7 rfl (zO rfl rfl rfl rfl rfl cX (zO rfl rfl rfl rfl rfl eO (zT rfl rfl rfl rfl (fun _=>zX rfl rfl rfl) (zT rfl rfl rfl rfl (fun _=>Runs.cv64 rfl rfl Zm yG rfl rfl) (zT rfl rfl rfl rfl (fun _=>Runs.shr1 rfl rfl rfl) (zT rfl rfl rfl rfl (fun _=>Runs.cvw rfl rfl yG Zm rfl rfl) (ye rfl rfl rfl rfl rfl rfl (eN (zK (ZQ ZK [3,3,3,3,3,3,1,3,3,3,1,2,3,3] (wNF gCj) (by kernel_rfl) ?_)))))))))))))
        have cz:=gD.drew
        generalize hw_W552:({ fT with drawn:=fT.drawn + 1 }:World)=q7 at cz ⊢
        refine oM Z cW (oM Z cm (oM Z eP (oM Z Z (oR Z (ZN Z Z Z) (bnK gT fun _ di oJ=>?_)))))
        obtain ⟨ri,du⟩:=cz.rowSome (j:=0) rfl (by rw [wAG (f:=wAB) (sz:=3) (fun _=>rfl) p0];have hz:=wAU di;omega)
        refine oR Z (ZU Z Z du Z zh zf (wCS di) (wCT di)) ?_
        have mj:=wBY (xs:=p0) (wAU di)
        refine zn rfl rfl rfl rfl (cz.ldRA (j:=0) rfl du rfl rfl Zy zf (vs:=[jV ((gd p0 (w64 ((w64 ((w64 ((w64 ((wBD (w64 (p1 + p3))) / 2)) + p2)) - 1)) - (w64 ((wBD (w64 (aU + aV))) / 2)))).toNat).Bib),jV ((gd p0 (w64 ((w64 ((w64 ((w64 ((wBD (w64 (p1 + p3))) / 2)) + p2)) - 1)) - (w64 ((wBD (w64 (aU + aV))) / 2)))).toNat).Place),jV ((gd p0 (w64 ((w64 ((w64 ((w64 ((wBD (w64 (p1 + p3))) / 2)) + p2)) - 1)) - (w64 ((wBD (w64 (aU + aV))) / 2)))).toNat).Total)]) (wBE (sz:=3) (fun _=>rfl) _ _ _ mj (by first | omega | rfl | simp) rfl) rfl) rfl (zO rfl rfl rfl rfl rfl cm (zO rfl rfl rfl rfl rfl rfl (bnK oJ fun _ eT oK=>zT rfl rfl rfl rfl (fun _=>ZU rfl rfl du rfl zh zf (wCS eT) (wCT eT)) ?_)))
        have ml:=wBY (xs:=p0) (wAU eT)
        refine zn rfl rfl rfl rfl (cz.ldRA (j:=0) rfl du rfl rfl Zy zf (vs:=[jV ((gd p0 (w64 ((wBD (w64 (aU + aV))) / 2)).toNat).Bib),jV ((gd p0 (w64 ((wBD (w64 (aU + aV))) / 2)).toNat).Place),jV ((gd p0 (w64 ((wBD (w64 (aU + aV))) / 2)).toNat).Total)]) (wBE (sz:=3) (fun _=>rfl) _ _ _ ml (by first | omega | rfl | simp) rfl) rfl) rfl (bnK oK fun sa jz oO=>?_)
        have jA:=aP.le dA
        refine yU (a:=((gd p0 (w64 ((w64 ((w64 ((w64 ((wBD (w64 (p1 + p3))) / 2)) + p2)) - 1)) - (w64 ((wBD (w64 (aU + aV))) / 2)))).toNat),(gd p0 (w64 ((wBD (w64 (aU + aV))) / 2)).toNat))) Z Z Z Z Z Z (zA Z (zA Z zM)) cz jA Z jz ?_
        rintro dH qN rQ iz ic lz ⟨rfl,rfl⟩
        have gE:SW w [B7] U dH [B7] iz:=lz
        refine oR Z (zR Z Z Z) (oR Z (Runs.notP Z Z) (eN (ifc oO ?_ ?_)))
        ·intro dX oP
         refine zg (zo (fun h=>h dX.out)) (rR fL2 Z (oM Z Z (oA Z Z (zb (za ?_)))))
         have q:=hM oP
         obtain rfl:=q
         exact zF ⟨Z,_,Z,⟨dH,cm,eH,eI,eJ,cW,eK,eM,cX,Z,eP,(dA.trans ic),gE⟩⟩
        ·intro dX oQ
         refine cT Z dX (rR fL3 Z (oM Z Z (oR Z (zX Z Z Z) (oA Z Z (zb (za ?_))))))
         have q:=hM oQ
         obtain rfl:=q
         exact zF ⟨Z,_,Z,⟨dH,cm,eH,eI,eJ,cW,eK,eM,Z,eO,eP,(dA.trans ic),gE⟩⟩
       ·have gU:=fb;rw [if_neg bL] at gU;replace bL:=zG bL
        refine cF Z bL (ZG (zc ?_))
        have q:=wAq gU
        obtain ⟨qb,oU,iM⟩:=q
        have q:=lW qb iM
        obtain rfl:=q
        refine zc (zz ?_)
        cases oU
        exact zF ⟨Z,⟨ij,cm,eH,eI,eJ,cW,eK,eM,cX,dA,gD⟩⟩
     ·rintro qx q8 ⟨dI,f9,gb,cY,gc,ge,gf,iT,cZ,dB,gF⟩
      refine sR fL4 Z (oM Z iT (oM Z cZ (oR Z (ZN Z Z Z) (oA Z Z (eN (zK (bnK oH fun iH g7 oV=>YC (fun J_ w_=>∃ (U_:PHeap),J_ 0=.slice aa p0.length ab/\J_ 1=jV p1/\J_ 2=jV p2/\J_ 3=jV p3/\J_ 4=am/\J_ 18=jV (w64 ((wBD (w64 (p1 + p3))) / 2))/\J_ 20=jV aM/\J_ 24=jV (w64 ((w64 ((w64 ((wBD (w64 (p1 + p3))) / 2)) + p2)) - aM))/\J_ 185=.bool iH/\PHeap.Le dI U_/\SW w [B7] U U_ [B7] w_) ?_ ?_)))))))
      ·refine rR fL8 Z (oM Z cZ (oM Z cY (oR Z (zR Z Z Z) (oM Z Z ?_))))
       by_cases ay:aM < p2
       ·have gV:=g7;rw [if_pos ay] at gV;replace ay:=zG ay
        refine zO Z Z Z (wT Z ay) Z cY (zO Z Z Z (wT Z ay) Z Z (rU Z (wT Z ay) (zR Z Z Z) (oR Z (zV Z (ZO ay.out) Z) (zb ?_))))
        have q:=hM gV
        obtain rfl:=q
        exact zF ⟨Z,⟨dI,f9,gb,cY,gc,ge,gf,cZ,Z,Z,(zQ _),gF⟩⟩
       ·have gW:=g7;rw [if_neg ay] at gW;replace ay:=zG ay
        refine oF Z ay (oF Z ay (oF Z ay (oR Z (zS Z (zo ay.out) Z) (zb ?_))))
        cases gW
        exact zF ⟨Z,⟨dI,f9,gb,cY,gc,ge,gf,cZ,Z,Z,(zQ _),gF⟩⟩
      ·rintro qy cK ⟨bE,bx,c7,iU,aR,bz,aw,bS,ap,gg,dC,bQ⟩
       refine ifc oV ?_ ?_
       ·intro dY oW
        refine zx (gg.trans (congrArg nH dY.out)) (rR (wEA (.fx 5 .nil .stop)) Z (oM Z bx (oM Z bS (oM Z iU (oM Z ap (oM Z bz ?_))))))
        have jB:=aP.le dB
        have dm:=jB.le dC
        refine bnK oW fun bB jC oX=>zI 1 Z Z Z Z (zJ Z Z Tryz.call268 (zA Z (zA Z (zA Z (zA Z (zA Z zM))))) Z) bQ (fun hs=>wDF p0 aa ab aM p2 (w64 ((w64 ((w64 ((wBD (w64 (p1 + p3))) / 2)) + p2)) - aM)) p4 am cK bE hs dm jC) (.inl Z) ?_
        rintro bF qO rS cL fe lA ⟨rfl,rfl,aO⟩
        have bW:SW w [B7] U bF [.row aa ab 52 3 (hD wAB bB)] cL:=lA
        refine eN (zK (sR fL8 Z (oM Z c7 (oM Z bS (oR Z (zR Z Z Z) (oM Z Z (ifc oX ?_ ?_)))))))
        ·intro bj oZ
         refine zO Z Z Z (wT Z bj) Z bS (zO Z Z Z (wT Z bj) Z aw (rU Z (wT Z bj) (zR Z Z Z) (oR Z (zV Z (ZO bj.out) Z) (eN (ifc oZ ?_ ?_)))))
         ·intro dZ o0
          refine cT Z dZ (rR (wEA (.fx 5 .nil .stop)) rfl (zO rfl rfl rfl rfl rfl (nK (b:=(.slice aa p0.length ab:Value)) (c:=(.slice aa bB.length ab:Value)) bx (by rw [aO])) (zO rfl rfl rfl rfl rfl c7 (zO rfl rfl rfl rfl rfl bS (zO rfl rfl rfl rfl rfl aw (zO rfl rfl rfl rfl rfl bz ?_))))))
          have gq:=dm.le fe
          refine bnK o0 fun fk jD o3=>zI 1 Z Z Z Z (zJ Z Z yC (zA Z (zA Z (zA Z (zA Z (zA Z zM))))) Z) bW (fun hs=>ih bB aa ab p1 aM (w64 ((wBD (w64 (p1 + p3))) / 2)) p4 am cL bF hs gq jD) (.inl Z) ?_
          rintro cE qP rT fU pZ lB ⟨rfl,rfl,dn⟩
          have eW:SW w [B7] U cE [.row aa ab 52 3 (hD wAB fk)] fU:=lB
          refine eN (sR fL8 Z (oM Z aw (oM Z ap (oR Z (zR Z Z Z) (oM Z Z (ifc o3 ?_ ?_))))))
          ·intro bk o5
           refine zO Z Z Z (wT Z bk) Z ap (zO Z Z Z (wT Z bk) Z aR (rU Z (wT Z bk) (zR Z Z Z) (oR Z (zV Z (ZO bk.out) Z) (eN (ifc o5 ?_ ?_)))))
           ·intro d5 o6
            refine cT Z d5 (rR (wEA (.fx 5 .nil .stop)) rfl (zO rfl rfl rfl rfl rfl (nK (b:=(.slice aa bB.length ab:Value)) (c:=(.slice aa fk.length ab:Value)) (nK (b:=(.slice aa p0.length ab:Value)) (c:=(.slice aa bB.length ab:Value)) bx (by rw [aO])) (by rw [dn])) (zO rfl rfl rfl rfl rfl aw (zO rfl rfl rfl rfl rfl ap (zO rfl rfl rfl rfl rfl aR (zO rfl rfl rfl rfl rfl bz ?_))))))
            have jE:=gq.le pZ
            refine bnK o6 fun qj jF o7=>zI 1 Z Z Z Z (zJ Z Z yC (zA Z (zA Z (zA Z (zA Z (zA Z zM))))) Z) eW (fun hs=>ih fk aa ab (w64 ((wBD (w64 (p1 + p3))) / 2)) (w64 ((w64 ((w64 ((wBD (w64 (p1 + p3))) / 2)) + p2)) - aM)) p3 p4 am fU cE hs jE jF) (.inl Z) ?_
            rintro fG qQ rV iA rt lC ⟨rfl,rfl,jG⟩
            have lD:SW w [B7] U fG [.row aa ab 52 3 (hD wAB qj)] iA:=lC
            refine zb ?_
            have hE:=hM o7;first | subst r | cases hE
            exact ⟨Z,_,(wEr),fG,_,lD,Z,Z,((jG.trans dn).trans aO)⟩
           ·intro d5 o8
            refine cF Z d5 (ZE ?_)
            have hE:=hM o8;first | subst r | cases hE
            exact ⟨Z,_,(wEr),cE,_,eW,Z,Z,(dn.trans aO)⟩
          ·intro bk o9
           refine oF Z bk (oF Z bk (oF Z bk (oR Z (zS Z (zo bk.out) Z) (eN (zg Z (ZE ?_))))))
           have hE:=hM o9;first | subst r | cases hE
           exact ⟨Z,_,(wEr),cE,_,eW,Z,Z,(dn.trans aO)⟩
         ·intro dZ pa
          refine cF Z dZ (kN (sR fL8 Z (oM Z aw (oM Z ap (oR Z (zR Z Z Z) (oM Z Z (ifc pa ?_ ?_)))))))
          ·intro bm pb
           refine zO Z Z Z (wT Z bm) Z ap (zO Z Z Z (wT Z bm) Z aR (rU Z (wT Z bm) (zR Z Z Z) (oR Z (zV Z (ZO bm.out) Z) (eN (ifc pb ?_ ?_)))))
           ·intro d6 pd
            refine cT Z d6 (rR (wEA (.fx 5 .nil .stop)) rfl (zO rfl rfl rfl rfl rfl (nK (b:=(.slice aa p0.length ab:Value)) (c:=(.slice aa bB.length ab:Value)) bx (by rw [aO])) (zO rfl rfl rfl rfl rfl aw (zO rfl rfl rfl rfl rfl ap (zO rfl rfl rfl rfl rfl aR (zO rfl rfl rfl rfl rfl bz ?_))))))
            have jH:=dm.le fe
            refine bnK pd fun qk jI pe=>zI 1 Z Z Z Z (zJ Z Z yC (zA Z (zA Z (zA Z (zA Z (zA Z zM))))) Z) bW (fun hs=>ih bB aa ab (w64 ((wBD (w64 (p1 + p3))) / 2)) (w64 ((w64 ((w64 ((wBD (w64 (p1 + p3))) / 2)) + p2)) - aM)) p3 p4 am cL bF hs jH jI) (.inl Z) ?_
            rintro fH qR rW iB ru lE ⟨rfl,rfl,jJ⟩
            have lG:SW w [B7] U fH [.row aa ab 52 3 (hD wAB qk)] iB:=lE
            refine zb ?_
            have hE:=hM pe;first | subst r | cases hE
            exact ⟨Z,_,(wEr),fH,_,lG,Z,Z,(jJ.trans aO)⟩
           ·intro d6 pf
            refine cF Z d6 (ZE ?_)
            have hE:=hM pf;first | subst r | cases hE
            exact ⟨Z,_,(wEr),bF,_,bW,Z,Z,aO⟩
          ·intro bm pg
           refine oF Z bm (oF Z bm (oF Z bm (oR Z (zS Z (zo bm.out) Z) (eN (zg Z (ZE ?_))))))
           have hE:=hM pg;first | subst r | cases hE
           exact ⟨Z,_,(wEr),bF,_,bW,Z,Z,aO⟩
        ·intro bj ph
         refine oF Z bj (oF Z bj (oF Z bj (oR Z (zS Z (zo bj.out) Z) (eN (zg Z (kN (sR fL8 Z (oM Z aw (oM Z ap (oR Z (zR Z Z Z) (oM Z Z (ifc ph ?_ ?_))))))))))))
         ·intro bn pi
          refine zO Z Z Z (wT Z bn) Z ap (zO Z Z Z (wT Z bn) Z aR (rU Z (wT Z bn) (zR Z Z Z) (oR Z (zV Z (ZO bn.out) Z) (eN (ifc pi ?_ ?_)))))
          ·intro d7 pj
           refine cT Z d7 (rR (wEA (.fx 5 .nil .stop)) rfl (zO rfl rfl rfl rfl rfl (nK (b:=(.slice aa p0.length ab:Value)) (c:=(.slice aa bB.length ab:Value)) bx (by rw [aO])) (zO rfl rfl rfl rfl rfl aw (zO rfl rfl rfl rfl rfl ap (zO rfl rfl rfl rfl rfl aR (zO rfl rfl rfl rfl rfl bz ?_))))))
           have jK:=dm.le fe
           refine bnK pj fun ql jL pm=>zI 1 Z Z Z Z (zJ Z Z yC (zA Z (zA Z (zA Z (zA Z (zA Z zM))))) Z) bW (fun hs=>ih bB aa ab (w64 ((wBD (w64 (p1 + p3))) / 2)) (w64 ((w64 ((w64 ((wBD (w64 (p1 + p3))) / 2)) + p2)) - aM)) p3 p4 am cL bF hs jK jL) (.inl Z) ?_
           rintro fJ qS rX iC rx lI ⟨rfl,rfl,jM⟩
           have lJ:SW w [B7] U fJ [.row aa ab 52 3 (hD wAB ql)] iC:=lI
           refine zb ?_
           have hE:=hM pm;first | subst r | cases hE
           exact ⟨Z,_,(wEr),fJ,_,lJ,Z,Z,(jM.trans aO)⟩
          ·intro d7 po
           refine cF Z d7 (ZE ?_)
           have hE:=hM po;first | subst r | cases hE
           exact ⟨Z,_,(wEr),bF,_,bW,Z,Z,aO⟩
         ·intro bn pp
          refine oF Z bn (oF Z bn (oF Z bn (oR Z (zS Z (zo bn.out) Z) (eN (zg Z (ZE ?_))))))
          have hE:=hM pp;first | subst r | cases hE
          exact ⟨Z,_,(wEr),bF,_,bW,Z,Z,aO⟩
       ·intro dY pq
        refine zg (gg.trans (congrArg nH (nI.2 dY.out))) (kN (zK (sR fL8 Z (oM Z c7 (oM Z bS (oR Z (zR Z Z Z) (oM Z Z (ifc pq ?_ ?_))))))))
        ·intro bp pt
         refine zO Z Z Z (wT Z bp) Z bS (zO Z Z Z (wT Z bp) Z aw (rU Z (wT Z bp) (zR Z Z Z) (oR Z (zV Z (ZO bp.out) Z) (eN (ifc pt ?_ ?_)))))
         ·intro d8 pu
          refine cT Z d8 (rR (wEA (.fx 5 .nil .stop)) Z (oM Z bx (oM Z c7 (oM Z bS (oM Z aw (oM Z bz ?_))))))
          have jN:=aP.le dB
          have gr:=jN.le dC
          refine bnK pu fun fm jO py=>zI 1 Z Z Z Z (zJ Z Z yC (zA Z (zA Z (zA Z (zA Z (zA Z zM))))) Z) bQ (fun hs=>ih p0 aa ab p1 aM (w64 ((wBD (w64 (p1 + p3))) / 2)) p4 am cK bE hs gr jO) (.inl Z) ?_
          rintro cG qT rY fV p5 lK ⟨rfl,rfl,dp⟩
          have eX:SW w [B7] U cG [.row aa ab 52 3 (hD wAB fm)] fV:=lK
          refine eN (sR fL8 Z (oM Z aw (oM Z ap (oR Z (zR Z Z Z) (oM Z Z (ifc py ?_ ?_))))))
          ·intro bq pz
           refine zO Z Z Z (wT Z bq) Z ap (zO Z Z Z (wT Z bq) Z aR (rU Z (wT Z bq) (zR Z Z Z) (oR Z (zV Z (ZO bq.out) Z) (eN (ifc pz ?_ ?_)))))
           ·intro d9 pC
            refine cT Z d9 (rR (wEA (.fx 5 .nil .stop)) rfl (zO rfl rfl rfl rfl rfl (nK (b:=(.slice aa p0.length ab:Value)) (c:=(.slice aa fm.length ab:Value)) bx (by rw [dp])) (zO rfl rfl rfl rfl rfl aw (zO rfl rfl rfl rfl rfl ap (zO rfl rfl rfl rfl rfl aR (zO rfl rfl rfl rfl rfl bz ?_))))))
            have jP:=gr.le p5
            refine bnK pC fun qm jQ pD=>zI 1 Z Z Z Z (zJ Z Z yC (zA Z (zA Z (zA Z (zA Z (zA Z zM))))) Z) eX (fun hs=>ih fm aa ab (w64 ((wBD (w64 (p1 + p3))) / 2)) (w64 ((w64 ((w64 ((wBD (w64 (p1 + p3))) / 2)) + p2)) - aM)) p3 p4 am fV cG hs jP jQ) (.inl Z) ?_
            rintro fK qU rZ iD ry lL ⟨rfl,rfl,jR⟩
            have lM:SW w [B7] U fK [.row aa ab 52 3 (hD wAB qm)] iD:=lL
            refine zb ?_
            have hE:=hM pD;first | subst r | cases hE
            exact ⟨Z,_,(wEr),fK,_,lM,Z,Z,(jR.trans dp)⟩
           ·intro d9 pE
            refine cF Z d9 (ZE ?_)
            have hE:=hM pE;first | subst r | cases hE
            exact ⟨Z,_,(wEr),cG,_,eX,Z,Z,dp⟩
          ·intro bq pF
           refine oF Z bq (oF Z bq (oF Z bq (oR Z (zS Z (zo bq.out) Z) (eN (zg Z (ZE ?_))))))
           have hE:=hM pF;first | subst r | cases hE
           exact ⟨Z,_,(wEr),cG,_,eX,Z,Z,dp⟩
         ·intro d8 pG
          refine cF Z d8 (kN (sR fL8 Z (oM Z aw (oM Z ap (oR Z (zR Z Z Z) (oM Z Z (ifc pG ?_ ?_)))))))
          ·intro br pH
           refine zO Z Z Z (wT Z br) Z ap (zO Z Z Z (wT Z br) Z aR (rU Z (wT Z br) (zR Z Z Z) (oR Z (zV Z (ZO br.out) Z) (eN (ifc pH ?_ ?_)))))
           ·intro eb pI
            refine cT Z eb (rR (wEA (.fx 5 .nil .stop)) Z (oM Z bx (oM Z aw (oM Z ap (oM Z aR (oM Z bz ?_))))))
            have jS:=aP.le dB
            have jT:=jS.le dC
            refine bnK pI fun qn jU pJ=>zI 1 Z Z Z Z (zJ Z Z yC (zA Z (zA Z (zA Z (zA Z (zA Z zM))))) Z) bQ (fun hs=>ih p0 aa ab (w64 ((wBD (w64 (p1 + p3))) / 2)) (w64 ((w64 ((w64 ((wBD (w64 (p1 + p3))) / 2)) + p2)) - aM)) p3 p4 am cK bE hs jT jU) (.inl Z) ?_
            rintro fL qV r5 iE rz lN ⟨rfl,rfl,jW⟩
            have lP:SW w [B7] U fL [.row aa ab 52 3 (hD wAB qn)] iE:=lN
            refine zb ?_
            have hE:=hM pJ;first | subst r | cases hE
            exact ⟨Z,_,(wEr),fL,_,lP,Z,Z,jW⟩
           ·intro eb pK
            refine cF Z eb (ZE ?_)
            have hE:=hM pK;first | subst r | cases hE
            exact ⟨Z,_,(wEr),bE,_,bQ,Z,Z,Z⟩
          ·intro br pL
           refine oF Z br (oF Z br (oF Z br (oR Z (zS Z (zo br.out) Z) (eN (zg Z (ZE ?_))))))
           have hE:=hM pL;first | subst r | cases hE
           exact ⟨Z,_,(wEr),bE,_,bQ,Z,Z,Z⟩
        ·intro bp pM
         refine oF Z bp (oF Z bp (oF Z bp (oR Z (zS Z (zo bp.out) Z) (eN (zg Z (kN (sR fL8 Z (oM Z aw (oM Z ap (oR Z (zR Z Z Z) (oM Z Z (ifc pM ?_ ?_))))))))))))
         ·intro bs pN
          refine zO Z Z Z (wT Z bs) Z ap (zO Z Z Z (wT Z bs) Z aR (rU Z (wT Z bs) (zR Z Z Z) (oR Z (zV Z (ZO bs.out) Z) (eN (ifc pN ?_ ?_)))))
          ·intro ed pO
           refine cT Z ed (rR (wEA (.fx 5 .nil .stop)) Z (oM Z bx (oM Z aw (oM Z ap (oM Z aR (oM Z bz ?_))))))
           have jX:=aP.le dB
           have jY:=jX.le dC
           refine bnK pO fun qo jZ pP=>zI 1 Z Z Z Z (zJ Z Z yC (zA Z (zA Z (zA Z (zA Z (zA Z zM))))) Z) bQ (fun hs=>ih p0 aa ab (w64 ((wBD (w64 (p1 + p3))) / 2)) (w64 ((w64 ((w64 ((wBD (w64 (p1 + p3))) / 2)) + p2)) - aM)) p3 p4 am cK bE hs jY jZ) (.inl Z) ?_
           rintro fM qW r6 iF rC lQ ⟨rfl,rfl,j4⟩
           have lR:SW w [B7] U fM [.row aa ab 52 3 (hD wAB qo)] iF:=lQ
           refine zb ?_
           have hE:=hM pP;first | subst r | cases hE
           exact ⟨Z,_,(wEr),fM,_,lR,Z,Z,j4⟩
          ·intro ed pQ
           refine cF Z ed (ZE ?_)
           have hE:=hM pQ;first | subst r | cases hE
           exact ⟨Z,_,(wEr),bE,_,bQ,Z,Z,Z⟩
         ·intro bs pR
          refine oF Z bs (oF Z bs (oF Z bs (oR Z (zS Z (zo bs.out) Z) (eN (zg Z (ZE ?_))))))
          have hE:=hM pR;first | subst r | cases hE
          exact ⟨Z,_,(wEr),bE,_,bQ,Z,Z,Z⟩
end Go.Proofs.YtlmekamhphnmjaaGreat
namespace Go.Proofs.YtlmekamhphnmjaaGreat
open Go.KL
set_option maxHeartbeats 4000000
theorem wEX (p0:List wAA) (aa:Option Addr) (ab:Nat) (p1:Int) (p2:((wAA × wAA)->Option Int)) (af:Value) (w:World) (U:PHeap) (hS:St0 w U [.row aa ab 52 3 (hD wAB p0)]) (bT:FnOK Tryz.prog U af wKZ wKa p2) {r:(List wAA)} (hm:wBX p0 p1 p2=some r):Gv Tryz.prog 139 [.slice aa p0.length ab,jV p1,af] w (wBj w [.row aa ab 52 3 (hD wAB p0)] U (fun U_ L_ v=>v=.tuple #[]/\L_=[.row aa ab 52 3 (hD wAB r)]/\r.length=p0.length)):=by
 unfold wBX at hm
 refine Gv.of Tryz.func139 Z Tryz.ntmps139 Tryz.results139 Z (sR fL1 Z (oA Z Z (eN (sR fL3 Z (oM Z Z (oA Z Z (oA Z Z (eN ?_))))))))
 have q:=bnd hm
 obtain ⟨⟨l2,x3⟩,dw,cc⟩:=q
 try dsimp only at cc
 let B0:Res:=.row aa ab 52 3 (hD wAB p0)
 refine YC (fun J_ w_=>∃ (U_:PHeap),J_ 0=.slice aa l2.length ab/\J_ 1=jV p1/\J_ 2=af/\J_ 6=jV 20/\J_ 7=jV x3/\PHeap.Le U U_/\SW w [B0] U U_ [.row aa ab 52 3 (hD wAB l2)] w_/\l2.length=p0.length) ?_ ?_
 refine zU (YM (fun (an,br,aP) J_ w_=>∃ (U_:PHeap),J_ 0=.slice aa an.length ab/\J_ 1=jV p1/\J_ 2=af/\J_ 6=jV 20/\J_ 7=jV br/\J_ 8=jV aP/\PHeap.Le U U_/\SW w [B0] U U_ [.row aa ab 52 3 (hD wAB an)] w_/\an.length=p0.length) dw ?_ ?_)
 exact ⟨U,Z,Z,Z,Z,Z,Z,(zQ _),hS,Z⟩
 rintro ⟨an,br,aP⟩ dT dG cx ⟨bz,ba,bb,be,bg,bD,ay,bp,bR,bM⟩ bj df
 try dsimp only at bj
 refine zK (sR fL3 Z (oM Z ay (oM Z bb (oR Z (Runs.leq Z Z Z) (eN ?_)))))
 by_cases aj:aP <= p1
 have bZ:=bj;rw [if_pos aj] at bZ;replace aj:=zG aj
 refine cT Z aj (kN (zU (sR (wEv (.fx 4 .nil .stop)) Z (oM Z ba (oM Z bD (oM Z ay (oM Z be ?_)))))))
 have cR:=bT.le bp
 refine bnK bZ fun cj cS dr=>zI 1 Z Z Z Z (zJ Z Z Tryz.call218 (zA Z (zA Z (zA Z (zA Z zM)))) Z) bR (fun hs=>wCQ an aa ab br aP p2 af cx bz hs cR cS) (.inl Z) ?_
 rintro bA dL dQ cy dz c7 ⟨rfl,rfl,bN⟩
 have c8:SW w [B0] U bA [.row aa ab 52 3 (hD wAB cj)] cy:=c7
 refine eN (sR fL2 Z (oM Z ay (oA Z Z (eN (rR fL4 Z (oM Z ay (oM Z bg (oR Z (zX Z Z Z) (oA Z Z (zb (za ?_)))))))))))
 have q:=hM dr
 obtain rfl:=q
 exact zF ⟨rfl,_,rfl,⟨bA,(nK (b:=(.slice aa an.length ab:Value)) (c:=(.slice aa cj.length ab:Value)) ba (by rw [bN])),bb,be,bg,rfl,rfl,(bp.trans dz),c8,(bN.trans bM)⟩⟩
 have ca:=bj;rw [if_neg aj] at ca;replace aj:=zG aj
 refine cF Z aj (ZG (zc ?_))
 have q:=wAq ca
 obtain ⟨dD,dt,cD⟩:=q
 have q:=df dD cD
 obtain rfl:=q
 refine zc (zz ?_)
 cases dt
 exact zF ⟨Z,⟨bz,ba,bb,be,bg,bD,bp,bR,bM⟩⟩
 rintro dH cz ⟨co,bE,bF,bG,cH,cI,dA,da,cU⟩
 refine sR (wEv (.fx 4 .nil .stop)) Z (oM Z bE (oM Z cI (oM Z bF (oM Z bG ?_))))
 have bh:=bT.le dA
 refine bnK cc fun cm cV du=>zI 1 Z Z Z Z (zJ Z Z Tryz.call218 (zA Z (zA Z (zA Z (zA Z zM)))) Z) da (fun hs=>wCQ l2 aa ab x3 p1 p2 af cz co hs bh cV) (.inl Z) ?_
 rintro aQ dM dR cA cd db ⟨rfl,rfl,bO⟩
 have dd:SW w [B0] U aQ [.row aa ab 52 3 (hD wAB cm)] cA:=db
 refine eN (zU (YM (fun (az,ak) J_ w_=>∃ (U_:PHeap),J_ 0=.slice aa az.length ab/\J_ 1=jV p1/\J_ 2=af/\J_ 6=jV ak/\PHeap.Le aQ U_/\SW w [B0] U U_ [.row aa ab 52 3 (hD wAB az)] w_/\az.length=p0.length) du ?_ ?_))
 exact ⟨aQ,(nK (b:=(.slice aa l2.length ab:Value)) (c:=(.slice aa cm.length ab:Value)) bE (by rw [bO])),bF,bG,cH,(zQ _),dd,(bO.trans cU)⟩
 rintro ⟨az,ak⟩ dU dI dN ⟨au,cE,bB,cG,aS,aM,bS,bH⟩ bk dg
 try dsimp only at bk
 refine zK (sR fL3 Z (oM Z aS (oM Z bB (oR Z (zR Z Z Z) (eN ?_)))))
 by_cases ah:ak < p1
 have bU:=bk;rw [if_pos ah] at bU;replace ah:=zG ah
 refine cT Z ah (kN (zU (sR fL4 Z (oM Z aS (oR Z (YK Z Z Z) (oA Z Z (oA Z Z (eN ?_))))))))
 have q:=bnd bU
 obtain ⟨⟨ap,bq⟩,dv,bV⟩:=q
 try dsimp only at bV
 refine YC (fun J_ w_=>∃ (U_:PHeap),J_ 0=.slice aa ap.length ab/\J_ 1=jV p1/\J_ 2=af/\J_ 6=jV ak/\J_ 7=jV bq/\PHeap.Le au U_/\SW w [B0] U U_ [.row aa ab 52 3 (hD wAB ap)] w_/\ap.length=p0.length) ?_ ?_
 refine zU (YM (fun (am,aN,aO) J_ w_=>∃ (U_:PHeap),J_ 0=.slice aa am.length ab/\J_ 1=jV p1/\J_ 2=af/\J_ 6=jV ak/\J_ 7=jV aN/\J_ 8=jV aO/\PHeap.Le au U_/\SW w [B0] U U_ [.row aa ab 52 3 (hD wAB am)] w_/\am.length=p0.length) dv ?_ ?_)
 exact ⟨au,cE,bB,cG,aS,Z,Z,(zQ _),bS,bH⟩
 rintro ⟨am,aN,aO⟩ dS dE cp ⟨bs,aT,aU,aV,av,aW,aw,bm,bP,bI⟩ bi de
 try dsimp only at bi
 refine zK (sR fL3 Z (oM Z aw (oM Z aU (oR Z (Runs.leq Z Z Z) (eN ?_)))))
 by_cases ai:aO <= p1
 have bW:=bi;rw [if_pos ai] at bW;replace ai:=zG ai
 refine cT Z ai (kN (zU (sR (wMF (.fx 7 .nil .stop)) Z (oM Z aT (oM Z aW (oM Z aW (oM Z av (oR Z (zX Z Z Z) (oM Z aw (oM Z aV ?_))))))))))
 have cJ:=bh.le cd
 have cK:=cJ.le aM
 have cL:=cK.le bm
 refine bnK bW fun cg cM dh=>zI 1 Z Z Z Z (zJ Z Z yC (zA Z (zA Z (zA Z (zA Z (zA Z zM))))) Z) bP (fun hs=>wCo 1000 am aa ab aN (w64 (aN + ak)) aO p2 af cp bs hs cL cM) (.inl Z) ?_
 rintro bu dJ dO cr dx cW ⟨rfl,rfl,bJ⟩
 have cX:SW w [B0] U bu [.row aa ab 52 3 (hD wAB cg)] cr:=cW
 refine eN (sR fL2 Z (oM Z aw (oA Z Z (eN (rR fL5 Z (oM Z aw (oM Z av (oR Z (YK Z Z Z) (oR Z (zX Z Z Z) (oA Z Z (zb (za ?_))))))))))))
 have q:=hM dh
 obtain rfl:=q
 exact zF ⟨rfl,_,rfl,⟨bu,(nK (b:=(.slice aa am.length ab:Value)) (c:=(.slice aa cg.length ab:Value)) aT (by rw [bJ])),aU,aV,av,rfl,rfl,(bm.trans dx),cX,(bJ.trans bI)⟩⟩
 have bX:=bi;rw [if_neg ai] at bX;replace ai:=zG ai
 refine cF Z ai (ZG (zc ?_))
 have q:=wAq bX
 obtain ⟨dB,di,cB⟩:=q
 have q:=de dB cB
 obtain rfl:=q
 refine zc (zz ?_)
 cases di
 exact zF ⟨Z,⟨bs,aT,aU,aV,av,aW,bm,bP,bI⟩⟩
 rintro dF ct ⟨bw,aX,ax,aY,aZ,bC,bn,bQ,bK⟩
 refine zK (sR fL4 Z (oM Z bC (oM Z aZ (oR Z (zX Z Z Z) (oA Z Z (eN (sR fL3 Z (oM Z Z (oM Z ax (oR Z (zR Z Z Z) (eN (ifc bV ?_ ?_))))))))))))
 intro aR dm
 refine cT Z aR (rR (wEA (.fx 5 .nil .stop)) Z (oM Z aX (oM Z bC (oM Z Z (oM Z ax (oM Z aY ?_))))))
 have cN:=bh.le cd
 have cO:=cN.le aM
 have cP:=cO.le bn
 refine bnK dm fun ch cQ dn=>zI 1 Z Z Z Z (zJ Z Z yC (zA Z (zA Z (zA Z (zA Z (zA Z zM))))) Z) bQ (fun hs=>wCo 1000 ap aa ab bq (w64 (bq + ak)) p1 p2 af ct bw hs cP cQ) (.inl Z) ?_
 rintro bx dK dP cw dy cY ⟨rfl,rfl,bL⟩
 have cZ:SW w [B0] U bx [.row aa ab 52 3 (hD wAB ch)] cw:=cY
 refine eN (rR fL3 Z (oM Z aZ (oR Z (YK Z Z Z) (oA Z Z (zb (za ?_))))))
 have q:=hM dn
 obtain rfl:=q
 exact zF ⟨rfl,_,rfl,⟨bx,(nK (b:=(.slice aa ap.length ab:Value)) (c:=(.slice aa ch.length ab:Value)) aX (by rw [bL])),ax,aY,rfl,((aM.trans bn).trans dy),cZ,(bL.trans bK)⟩⟩
 intro aR dp
 refine cF Z aR (kN (rR fL3 Z (oM Z aZ (oR Z (YK Z Z Z) (oA Z Z (zb (za ?_)))))))
 have q:=hM dp
 obtain rfl:=q
 exact zF ⟨Z,_,Z,⟨bw,aX,ax,aY,Z,(aM.trans bn),bQ,bK⟩⟩
 have bY:=bk;rw [if_neg ah] at bY;replace ah:=zG ah
 refine cF Z ah (ZG (zc ?_))
 have q:=wAq bY
 obtain ⟨dC,dq,cC⟩:=q
 have q:=dg dC cC
 obtain rfl:=q
 refine zc (zz ?_)
 have hE:=hM dq;first | subst r | cases hE
 exact ⟨Z,_,(wEr),au,_,bS,Z,Z,bH⟩
theorem wDa (p0:List wAA) (ab:Option Addr) (ac:Nat) (p1:((wAA × wAA)->Option Int)) (af:Value) (w:World) (U:PHeap) (hS:St0 w U [.row ab ac 52 3 (hD wAB p0)]) (an:FnOK Tryz.prog U af wKZ wKa p1) {r:(List wAA)} (hm:wAe p0 p1=some r):Gv Tryz.prog 81 [.slice ab p0.length ac,af] w (wBj w [.row ab ac 52 3 (hD wAB p0)] U (fun U_ L_ v=>v=.tuple #[]/\L_=[.row ab ac 52 3 (hD wAB r)]/\r.length=p0.length)):=by
 unfold wAe at hm
 refine Gv.of Tryz.func81 Z Tryz.ntmps81 Tryz.results81 Z (rR (wEv (.fx 4 .nil .stop)) Z (oM Z Z (oM Z Z (oR Z (ze Z Z zh) (oM Z Z (bnK hm fun x2 h3 ao=>zI 1 Z Z Z Z (zJ Z Z Tryz.call139 (zA Z (zA Z (zA Z zM))) Z) hS (fun hs=>wEX p0 ab ac (↑p0.length:Int) p1 af w U hs an h3) (.inl Z) ?_))))))
 rintro U5 L6 v7 W8 au ak ⟨rfl,rfl,ai⟩
 have am:SW w [.row ab ac 52 3 (hD wAB p0)] U U5 [.row ab ac 52 3 (hD wAB x2)] W8:=ak
 refine zb ?_
 have hE:=hM ao;first | subst r | cases hE
 exact ⟨Z,_,(wEr),U5,_,am,Z,Z,ai⟩
theorem wGU (p0:wAA) (p1:wAA) (w:World) (U:PHeap) (hS:St0 w U [])  {r:Int} (hm:wBT p0 p1=some r):Gv Tryz.prog 82 [.agg #[jV p0.Bib,jV p0.Place,jV p0.Total],.agg #[jV p1.Bib,jV p1.Place,jV p1.Total]] w (wBj w [] U (fun U_ L_ v=>v=jV r/\L_=[])):=by
 unfold wBT at hm
 refine Gv.of Tryz.func82 Z Tryz.ntmps82 Tryz.results82 Z (sR gCf Z ?_)
 let B0:List Value:=[jV p0.Bib,jV p0.Place,jV p0.Total]
 refine ZB (cs:=B0) rfl rfl rfl rfl rfl rfl (by rfl) hS ?_
 intro W1 b2 ap
 let B1:List Value:=[jV p1.Bib,jV p1.Place,jV p1.Total]
 refine ZB (cs:=B1) rfl rfl rfl rfl rfl rfl (by rfl) ap ?_
 intro W5 b6 ac
 refine oA Z Z (eN (sR (wEv (.fx 4 (.fl 5 .nil) .stop)) Z (oR Z (zC Z Z Zj Z zD) (oL Z (ac.ldB (j:=1) Z Z Z zN (v:=jV p0.Total) Z) (oR Z (zC Z Z Zj Z zD) (oL Z (ac.ldB (j:=0) Z Z Z zN (v:=jV p1.Total) Z) (bnK hm fun x9 am aq=>zI 0 Z Z Z Z (zJ Z Z YL (zA Z (zA Z zM)) Z) ac (fun hs=>wBg p0.Total p1.Total W5 U hs am) (.inr Z) ?_)))))))
 rintro ag au ax ah aw an ⟨rfl,rfl⟩
 have ao:sW w U ag [.blk b6 52 B1,.blk b2 52 B0] ah:=an
 refine oA Z Z (eN (zP ?_))
 have hE:=hM aq;first | subst r | cases hE
 exact ⟨rfl,_,(zj rfl),ag,_,(ao.pick [] _ (by decide) rfl),rfl,rfl⟩
theorem wHB (p0:wAX) (br:Nat) (bh:Option Addr) (bi:Nat) (bU:Option Addr) (bV:Nat) (bW:Nat) (cS:Array MapEntry) (cV:Nat) (bX:Nat) (cU:Array MapEntry) (cW:Nat) (p1:(wAX × List Int × List (Int × Bool))) (pb1a:Nat) (pb1b:Nat) (pb1c:Nat) (pb1v:Nat) (pb1f:Nat) (pb1g:Nat) (pq1d:Nat) (pA1d_0_1:Option Addr) (pc1d_0_1:Nat) (pA1d_0_2:Option Addr) (pc1d_0_2:Nat) (pm1d_1:Nat) (pe1d_1:Array MapEntry) (pk1d_1:Nat) (pm1d_2:Nat) (pe1d_2:Array MapEntry) (pk1d_2:Nat) (pm1t:Nat) (pe1t:Array MapEntry) (pk1t:Nat) (pA1o:Option Addr) (pc1o:Nat) (w:World) (U:PHeap) (hS:St0 w U [.obj pm1t (.map pe1t pk1t)]) (cM:Cl U br 0 [jV p0.Record.Deadline,.slice bh p0.Record.Skiers.length bi,.slice bU p0.Record.Decisions.length bV,.map (some bW),.map (some bX)]) (eJ:Sl U 2 bh bi p0.Record.Skiers.length (hD wAF p0.Record.Skiers)) (eU:Sl U 6 bU bV p0.Record.Decisions.length (hD wAE p0.Record.Decisions)) (eV:MpF U bW cS cV wFZ wFo p0.at_) (eW:MpF U bX cU cW wFa wFp p0.about) (eX:Cl U pb1a 0 [.map (some pm1t)]) (eY:Cl U pb1b 0 [.func (.func 83) #[.pointer (some ⟨pq1d,0,none⟩)] #[]]) (e7:Cl U pb1c 0 [.pointer (some ⟨pq1d,0,none⟩)]) (e8:Cl U pb1v 0 [.func (.func 85) #[] #[.pointer (some ⟨pb1a,0,none⟩),.pointer (some ⟨pb1b,0,none⟩),.pointer (some ⟨pb1c,0,none⟩),.pointer (some ⟨pb1v,0,none⟩)],.func (.func 87) #[] #[.pointer (some ⟨pb1f,0,none⟩)],.func (.func 88) #[] #[.pointer (some ⟨pb1v,0,none⟩),.pointer (some ⟨pb1g,0,none⟩)],.func (.func 91) #[] #[.pointer (some ⟨pb1v,0,none⟩)],.func (.func 89) #[] #[.pointer (some ⟨pb1f,0,none⟩)]]) (e9:Cl U pb1f 0 [.func (.func 84) #[] #[.pointer (some ⟨pb1c,0,none⟩),.pointer (some ⟨pb1v,0,none⟩)]]) (eK:Cl U pb1g 0 [.slice pA1o p1.2.1.length pc1o]) (eM:Cl U pq1d 0 [jV p1.1.Record.Deadline,.slice pA1d_0_1 p1.1.Record.Skiers.length pc1d_0_1,.slice pA1d_0_2 p1.1.Record.Decisions.length pc1d_0_2,.map (some pm1d_1),.map (some pm1d_2)]) (eO:Sl U 2 pA1d_0_1 pc1d_0_1 p1.1.Record.Skiers.length (hD wAF p1.1.Record.Skiers)) (eP:Sl U 6 pA1d_0_2 pc1d_0_2 p1.1.Record.Decisions.length (hD wAE p1.1.Record.Decisions)) (eQ:MpF U pm1d_1 pe1d_1 pk1d_1 wFZ wFo p1.1.at_) (eR:MpF U pm1d_2 pe1d_2 pk1d_2 wFa wFp p1.1.about) (eS:MpR pe1t wED wEL p1.2.2) (eT:Sl U 1 pA1o pc1o p1.2.1.length (hD KL.encI p1.2.1)) {r:(List wAA) × (List (Int × Bool))} (hm:wDl p0 p1=some r):Gv Tryz.prog 35 [.pointer (some ⟨br,0,none⟩),.agg #[.func (.func 85) #[] #[.pointer (some ⟨pb1a,0,none⟩),.pointer (some ⟨pb1b,0,none⟩),.pointer (some ⟨pb1c,0,none⟩),.pointer (some ⟨pb1v,0,none⟩)],.func (.func 87) #[] #[.pointer (some ⟨pb1f,0,none⟩)],.func (.func 88) #[] #[.pointer (some ⟨pb1v,0,none⟩),.pointer (some ⟨pb1g,0,none⟩)],.func (.func 91) #[] #[.pointer (some ⟨pb1v,0,none⟩)],.func (.func 89) #[] #[.pointer (some ⟨pb1f,0,none⟩)]]] w (wBj w [.obj pm1t (.map pe1t pk1t)] U (fun U_ L_ v=>∃ (A0:Option Addr) (c0:Nat) (es_0:Array MapEntry) (ck_0:Nat),v=.slice A0 r.1.length c0/\L_=[.row A0 c0 52 3 (hD wAB r.1),.obj pm1t (.map es_0 ck_0)]/\MpR es_0 wED wEL r.2)):=by
 unfold wDl at hm
 refine Gv.of Tryz.func35 Z Tryz.ntmps35 Tryz.results35 Z (sR gBz Z ?_)
 let B0:List Value:=[.func (.func 85) #[] #[.pointer (some ⟨pb1a,0,none⟩),.pointer (some ⟨pb1b,0,none⟩),.pointer (some ⟨pb1c,0,none⟩),.pointer (some ⟨pb1v,0,none⟩)],.func (.func 87) #[] #[.pointer (some ⟨pb1f,0,none⟩)],.func (.func 88) #[] #[.pointer (some ⟨pb1v,0,none⟩),.pointer (some ⟨pb1g,0,none⟩)],.func (.func 91) #[] #[.pointer (some ⟨pb1v,0,none⟩)],.func (.func 89) #[] #[.pointer (some ⟨pb1f,0,none⟩)]]
 refine ZB (cs:=B0) rfl rfl rfl rfl rfl rfl (by rfl) hS ?_
 intro W2 b3 cK
 refine oA Z Z (eN (sR fL2 Z (oA Z Z (oA Z Z (eN (zK (sR fL7 Z (oM Z Z (oR Z (ZJ Z Z) (oR Z (zC Z Z yb Z Zb) (oR Z (zC Z Z zq Z yJ) (oL Z (cK.ldC (f:=1) cM (v:=.slice bh p0.Record.Skiers.length bi) Z Z yk Z) (oR Z (ze Z Z Za) (oM Z Z (eN (zU ?_))))))))))))))))
 have q:=bnd hm
 obtain ⟨⟨gq,bj,bs⟩,fd,cP⟩:=q
 try dsimp only at cP
 have q:=wBM fd
 obtain ⟨bR,fe⟩:=q
 replace bR:=zG bR
 refine CK.forN' (fun bb (bS,be,bg) J_ w_=>∃ (U_:PHeap) (aS:Array MapEntry) (aZ:Nat) (aU:Option Addr) (aX:Nat) (aV:Option Addr) (aY:Nat),J_ 18=jV (↑bb:Int)/\J_ 0=.pointer (some ⟨br,0,none⟩)/\J_ 3=.pointer (some ⟨b3,0,none⟩)/\J_ 5=.slice aU be.length aX/\J_ 6=.slice aV bg.length aY/\J_ 16=.slice bh p0.Record.Skiers.length bi/\J_ 17=jV (↑p0.Record.Skiers.length:Int)/\PHeap.Le U U_/\SW w [.obj pm1t (.map pe1t pk1t)] U U_ [.blk b3 137 B0,.obj pm1t (.map aS aZ),.row aU aX 52 3 (hD wAB be),.row aV aY 52 3 (hD wAB bg)] w_/\MpR aS wED wEL bS) fe ?_ ?_ ?_
 have eF:=cK.nilrow 52 3
 have eG:=eF.nilrow 52 3
 exact ⟨U,pe1t,pk1t,none,0,none,0,rfl,rfl,rfl,rfl,rfl,rfl,rfl,(zQ _),(eG.pick [2,3,1,0] _ (by decide) rfl),eS⟩
 rintro bb ⟨bS,be,bg⟩ gm fQ fY bP ⟨bA,aS,aZ,aU,aX,aV,aY,bm,bH,bI,cA,cB,bJ,bK,ag,cL,dQ⟩ cQ
 try dsimp only at cQ
 have cz:Hid ((↑bb:Int) < (↑p0.Record.Skiers.length:Int)):=zG (wBR bP)
 replace bP:=zG bP
 have cN:Hid (w64 ((↑bb:Int) + 1)=(↑(bb + 1):Int)):=zG (by have h1:=bR.out;have h2:=cz.out;rw [wAa] <;> omega)
 refine sR fL1 Z (oR Z (zR Z bm bK) (eN (zK (cT Z cz (kN (zK (zU (sR gCk Z (bnK cQ fun ai cD fI=>?_)))))))))
 have cE:=eJ.le ag
 have q:=cE.el (fun _=>rfl) (wAk cD)
 obtain ⟨f3,gf,dV,dW⟩:=q
 refine oR Z (ZD Z bJ dV bm Za yI (wBi cD)) (oL Z (cL.ldCA (f:=0) dW Z Z Tryz.isAgg40 yI (us:=[jV ai.Bib,jV ai.Time]) Z Z) (zy (cs:=[jV 0,jV 0]) Z Z Z Z Z YP Z cL ?_))
 intro fZ av eH
 let B1:List Value:=[jV ai.Bib,jV ai.Time]
 refine ZA (j:=0) (vs:=B1) Z Z Z Z eH Z Z Z Z yI (zB Z) Z Z Z ?_
 intro bC eI
 let B2:Res:=.row aU aX 52 3 (hD wAB be)
 let B3:Res:=.row aV aY 52 3 (hD wAB bg)
 have bN:SW w [.obj pm1t (.map pe1t pk1t)] U bA [.blk av 40 B1,.blk b3 137 B0,.obj pm1t (.map aS aZ),B2,B3] bC:=eI
 refine eN (sR (wEz (.fx 3 (fC4_8 (.nil)) .stop)) Z (oM Z bH (oL Z (bN.ldBA (j:=0) Z Z Z Tryz.isAgg40 yI (vs:=B1) Z Z) (oL Z (bN.ldBA (j:=1) Z Z bI Tryz.isAgg137 Tryz.sizeOf137 (vs:=B0) Z Z) ?_))))
 have dR:=cM.le ag
 have dS:=eU.le ag
 have dT:=eV.le ag
 have dU:=eW.le ag
 have dy:=eX.le ag
 have dz:=eY.le ag
 have dA:=e7.le ag
 have dB:=e8.le ag
 have dC:=e9.le ag
 have dD:=eK.le ag
 have dE:=eM.le ag
 have dF:=eO.le ag
 have dG:=eP.le ag
 have dH:=eQ.le ag
 have dI:=eR.le ag
 have dJ:=eT.le ag
 have q:=bnd fI
 obtain ⟨⟨aT,fL,gi⟩,dK,cO⟩:=q
 try dsimp only at cO
 have dY:SW w [.obj pm1t (.map pe1t pk1t)] U bA [.obj pm1t (.map aS aZ),.blk av 40 B1,.blk b3 137 B0,B2,B3] bC:=bN.pick [2,0,1,3,4] _ (by decide) rfl
 refine zI 1 Z Z Z Z (zJ Z Z Tryz.call80 (zA Z (zA Z (zA Z zM))) Z) dY (fun hs=>wHR p0 br bh bi bU bV bW cS cV bX cU cW ai (p1.1,p1.2.1,bS) pb1a pb1b pb1c pb1v pb1f pb1g pq1d pA1d_0_1 pc1d_0_1 pA1d_0_2 pc1d_0_2 pm1d_1 pe1d_1 pk1d_1 pm1d_2 pe1d_2 pk1d_2 pm1t aS aZ pA1o pc1o bC bA hs dR cE dS dT dU dy dz dA dB dC dD dE dF dG dH dI dQ dJ dK) (.inl Z) ?_
 rintro au fR gg c8 cR dZ ⟨ay,aw,rfl,rfl,cC⟩
 have bp:SW w [.obj pm1t (.map pe1t pk1t)] U au [.obj pm1t (.map ay aw),.blk av 40 B1,.blk b3 137 B0,B2,B3] c8:=dZ
 refine oM Z Z (oR Z (ZL Z Z (v:=jV aT) Z) (oR Z (ZL Z Z (v:=.bool fL) Z) (oA Z Z (oA Z Z (eN (sR fL1 Z (oM Z Z (eN (ifc cO ?_ ?_)))))))))
 intro bD fm
 refine zx (congrArg nH bD.out) (rR (wEv (.fx 4 gCb .stop)) Z (oM Z cB (oR Z (zC Z Z yB Z zD) (oL Z (bp.ldB (j:=1) Z Z Z zN (v:=jV ai.Bib) Z) ?_))))
 let B4:List Value:=[jV ai.Bib,jV (-1),jV 0]
 let B5:List Value:=[jV 0,jV 0,jV 0]
 refine oR Z (ZI (pv:=[(0,jV ai.Bib),(1,jV (-1))]) (z:=B5) (cs:=B4) Z (wAH Z (wAH Z wAY)) Tryz.zeroValue52 wLD Z Z) (ZF (pv:=[(0,.agg B4.toArray)]) (zs:=B5) (cs:=B4) Z Z Z Z Z (wAH Z wAY) zh zf Tryz.zeroValue52 Z Z Z Z Z bp ?_)
 intro da di d5
 let B6:Res:=.row (some ⟨di,0,none⟩) 1 52 3 (hD wAB [(⟨ai.Bib,-1,0⟩:wAA)])
 have cG:SW w [.obj pm1t (.map pe1t pk1t)] U au [B6,.obj pm1t (.map ay aw),.blk av 40 B1,.blk b3 137 B0,B2,B3] da:=d5
 refine bnK fm fun cX dL fq=>yE (j:=5) (enc:=wAB) (xs:=bg) (ys:=[(⟨ai.Bib,-1,0⟩:wAA)]) (zs:=cX) rfl rfl rfl rfl rfl Tryz.underlying47 wMj rfl rfl rfl rfl rfl rfl cG rfl rfl rfl (cG.srcR (j:=0) rfl (by decide) (wAG (f:=wAB) (sz:=3) (fun _=>rfl) [(⟨ai.Bib,-1,0⟩:wAA)])) (fun _=>rfl) (fun _=>rfl) dL rfl ?_
 intro bZ cr db d6
 have d7:SW w [.obj pm1t (.map pe1t pk1t)] U au [B6,.obj pm1t (.map ay aw),.blk av 40 B1,.blk b3 137 B0,B2,.row bZ cr 52 3 (hD wAB cX)] db:=d6
 refine oA Z Z (zb (za (zF (rR fL2 Z (oR Z (zr (zX Z bm Z) (congrArg (jV) cN.out)) (oM Z Z (zb ?_)))))))
 cases fq
 exact zF ⟨rfl,⟨au,ay,aw,aU,aX,bZ,cr,rfl,bH,bI,cA,rfl,bJ,bK,(ag.trans cR),(d7.pick [3,1,4,5] _ (by decide) rfl),cC⟩⟩
 intro bD ft
 refine zg (congrArg nH (nI.2 bD.out)) (rR (wEA (.fx 5 (.fx 6 (.fl 7 .nil) .stop) .stop)) Z (oM Z cA (oR Z (zC Z Z yB Z zD) (oL Z (bp.ldB (j:=1) Z Z Z zN (v:=jV ai.Bib) Z) (oM Z Z ?_)))))
 let B7:List Value:=[jV ai.Bib,jV 0,jV aT]
 let B8:List Value:=[jV 0,jV 0,jV 0]
 refine oR Z (ZI (pv:=[(0,jV ai.Bib),(2,jV aT)]) (z:=B8) (cs:=B7) Z (wAH Z (wAH Z wAY)) Tryz.zeroValue52 wLD Z Z) (ZF (pv:=[(0,.agg B7.toArray)]) (zs:=B8) (cs:=B7) Z Z Z Z Z (wAH Z wAY) zh zf Tryz.zeroValue52 Z Z Z Z Z bp ?_)
 intro dd dm d8
 let B9:Res:=.row (some ⟨dm,0,none⟩) 1 52 3 (hD wAB [(⟨ai.Bib,0,aT⟩:wAA)])
 have cH:SW w [.obj pm1t (.map pe1t pk1t)] U au [B9,.obj pm1t (.map ay aw),.blk av 40 B1,.blk b3 137 B0,B2,B3] dd:=d8
 refine bnK ft fun cY dM fu=>yE (j:=4) (enc:=wAB) (xs:=be) (ys:=[(⟨ai.Bib,0,aT⟩:wAA)]) (zs:=cY) rfl rfl rfl rfl rfl Tryz.underlying47 wMj rfl rfl rfl rfl rfl rfl cH rfl rfl rfl (cH.srcR (j:=0) rfl (by decide) (wAG (f:=wAB) (sz:=3) (fun _=>rfl) [(⟨ai.Bib,0,aT⟩:wAA)])) (fun _=>rfl) (fun _=>rfl) dM rfl ?_
 intro ca ct de d9
 have eb:SW w [.obj pm1t (.map pe1t pk1t)] U au [B9,.obj pm1t (.map ay aw),.blk av 40 B1,.blk b3 137 B0,.row ca ct 52 3 (hD wAB cY),B3] de:=d9
 refine oA Z Z (zb (za (zF (rR fL2 Z (oR Z (zr (zX Z bm Z) (congrArg (jV) cN.out)) (oM Z Z (zb ?_)))))))
 cases fu
 exact zF ⟨rfl,⟨au,ay,aw,ca,ct,aV,aY,rfl,bH,bI,rfl,cB,bJ,bK,(ag.trans cR),(eb.pick [3,1,4,5] _ (by decide) rfl),cC⟩⟩
 rintro fN co ⟨bx,az,ax,ac,ae,cc,cw,dw,f4,f7,bF,dq,f8,dr,gb,ed,dN⟩
 have dn:Hid (¬ ((↑(((↑p0.Record.Skiers.length:Int):Int) - 0).toNat:Int) < (↑p0.Record.Skiers.length:Int))):=zG (wAr)
 refine sR fL1 Z (oR Z (zR Z dw dr) (eN (zK (cF Z dn (ZG (zc (zc (zz (zF (sR gCd Z (oM Z bF ?_)))))))))))
 have dX:FnOK Tryz.prog bx (.func (.func 82) #[] #[]) wKZ wKa (fun x=>wBT x.1 x.2):=⟨82,[],[],rfl,Tryz.call82,fun U1 w1 x y vs le hs ha hm=>by obtain rfl:=ha;exact wGU x.1 x.2 w1 U1 hs  hm⟩
 refine bnK cP fun aO dO fw=>?_
 let aP:Res:=.row cc cw 52 3 (hD wAB bs)
 have ee:SW w [.obj pm1t (.map pe1t pk1t)] U bx [.row ac ae 52 3 (hD wAB bj),.blk b3 137 B0,.obj pm1t (.map az ax),aP] co:=ed.pick [2,0,1,3] _ (by decide) rfl
 refine zI 1 Z Z Z Z (zJ Z Z Tryz.call81 (zA Z (zA Z zM)) Z) ee (fun hs=>wDa bj ac ae (fun x=>wBT x.1 x.2) (.func (.func 82) #[] #[]) co bx hs dX dO) (.inl Z) ?_
 rintro bz fS gh df gc eh ⟨rfl,rfl,bL⟩
 have ep:SW w [.obj pm1t (.map pe1t pk1t)] U bz [.row ac ae 52 3 (hD wAB aO),.blk b3 137 B0,.obj pm1t (.map az ax),aP] df:=eh
 refine eN (zK (sR fL3 rfl (zO rfl rfl rfl rfl rfl (nK (b:=(.slice ac bj.length ae:Value)) (c:=(.slice ac aO.length ae:Value)) bF (by rw [bL])) (zT rfl rfl rfl rfl (fun _=>ze rfl rfl zh) (zO rfl rfl rfl rfl rfl rfl (eN (zU (bnK fw fun fM fb fy=>?_))))))))
 have q:=wBM fb
 obtain ⟨bQ,fc⟩:=q
 replace bQ:=zG bQ
 refine CK.forN' (fun aa ab J_ w_=>∃ (U_:PHeap),J_ 48=jV (↑aa:Int)/\J_ 5=.slice ac ab.length ae/\J_ 6=.slice cc bs.length cw/\J_ 47=jV (↑aO.length:Int)/\PHeap.Le bz U_/\SW w [.obj pm1t (.map pe1t pk1t)] U U_ [.blk b3 137 B0,.obj pm1t (.map az ax),.row ac ae 52 3 (hD wAB ab),aP] w_/\ab.length=bj.length) fc ?_ ?_ ?_
 exact ⟨bz,rfl,(nK (b:=(.slice ac bj.length ae:Value)) (c:=(.slice ac aO.length ae:Value)) bF (by rw [bL])),dq,rfl,(zQ _),(ep.pick [1,2,0,3] _ (by decide) rfl),bL⟩
 rintro aa ab gj fO fU bO ⟨aW,ba,ap,bG,bk,bT,cI,bM⟩ fJ
 have cx:Hid ((↑aa:Int) < (↑aO.length:Int)):=zG (wBR bO)
 replace bO:=zG bO
 have bq:Hid (w64 ((↑aa:Int) + 1)=(↑(aa + 1):Int)):=zG (by have h1:=bQ.out;have h2:=cx.out;rw [wAa] <;> omega)
 refine sR fL1 Z (oR Z (zR Z ba bk) (eN (zK (cT Z cx (kN (zK (zU (sR fL2 Z (oM Z ba (oA Z Z (eN (sR (wJb (.fx 6 .nil .stop)) Z (oM Z ap (oM Z Z (oM Z Z (oR Z (zr (zX Z Z Z) (congrArg (jV) bq.out)) (bnK fJ fun _ bn fz=>?_)))))))))))))))))
 obtain ⟨f0,an⟩:=cI.rowSome (j:=2) rfl (by rw [wAG (f:=wAB) (sz:=3) (fun _=>rfl) ab];have hz:=wAU bn;omega)
 refine oR Z (ZD Z Z an Z zh zf (wAU bn)) (oR Z (zC Z Z Zj Z zD) ?_)
 have ff:=wBY (xs:=ab) (wAU bn)
 refine YE (j:=2) (vs:=[jV (↑(aa + 1):Int)]) (cs':=hD wAB (nB ab aa (⟨(gd ab aa).Bib,(↑(aa + 1):Int),(gd ab aa).Total⟩:wAA))) rfl rfl rfl rfl cI rfl an rfl rfl rfl zD (by rw [wAG (f:=wAB) (sz:=3) (fun _=>rfl)];have hz:=wAU bn;show _ + 1 <= _;first | omega | (simp only [nJ];omega) | (simp only [nG,nD,nE];omega)) rfl (wEK (sz:=3) (fo:=1) (fun _=>rfl) _ _ _ _ ff (by first | omega | (simp only [nJ];omega) | (simp only [nG,nD,nE];omega)) (zB rfl) rfl) rfl ?_
 intro bB eu
 have ey:SW w [.obj pm1t (.map pe1t pk1t)] U aW [.blk b3 137 B0,.obj pm1t (.map az ax),.row ac ae 52 3 (hD wAB (nB ab aa (⟨(gd ab aa).Bib,(↑(aa + 1):Int),(gd ab aa).Total⟩:wAA))),aP] bB:=eu
 refine eN (zK (ZQ ZK [3,3,3,3,3,3,3,1,3,3,3,3,3,1,3,3] fL16 (by kernel_rfl) ?_))
 have aN:=ey.drew
 generalize hw_W255:({ bB with drawn:=bB.drawn + 1 }:World)=fV at aN ⊢
 refine oM Z Z (oR Z (yP Z Z Z) (oM Z Z (ifc fz ?_ ?_)))
 intro af fA
 refine zO rfl rfl rfl (zL rfl rfl (ZO af.out)) rfl (nK (b:=(.slice ac ab.length ae:Value)) (c:=(.slice ac ((nB ab aa (⟨(gd ab aa).Bib,(↑(aa + 1):Int),(gd ab aa).Total⟩:wAA)).length) ae:Value)) ap (by simp only [nA])) (zO rfl rfl rfl (zL rfl rfl (ZO af.out)) rfl rfl (bnK fA fun _ aM fB=>zT rfl rfl rfl (zL rfl rfl (ZO af.out)) (fun _=>ZD rfl rfl an rfl zh zf (wAU aM)) (zT rfl rfl rfl (zL rfl rfl (ZO af.out)) (fun _=>zC rfl rfl Zj rfl zD) ?_)))
 have fg:=wBY (xs:=(nB ab aa (⟨(gd ab aa).Bib,(↑(aa + 1):Int),(gd ab aa).Total⟩:wAA))) (by first | exact wAU aM | (have hz:=wAU aM;simpa only [nA] using hz))
 refine zn rfl rfl rfl (zL rfl rfl (ZO af.out)) (aN.ldR (j:=2) rfl an rfl rfl zN (wBS (sz:=3) (fun _=>rfl) _ _ 2 _ fg (by first | omega | rfl | simp) rfl)) rfl (zO rfl rfl rfl (zL rfl rfl (ZO af.out)) rfl (nK (b:=(.slice ac ab.length ae:Value)) (c:=(.slice ac ((nB ab aa (⟨(gd ab aa).Bib,(↑(aa + 1):Int),(gd ab aa).Total⟩:wAA)).length) ae:Value)) ap (by simp only [nA])) (zO rfl rfl rfl (zL rfl rfl (ZO af.out)) rfl rfl (zT rfl rfl rfl (zL rfl rfl (ZO af.out)) (fun _=>ZN rfl rfl rfl) (bnK fB fun _ aq fC=>zT rfl rfl rfl (zL rfl rfl (ZO af.out)) (fun _=>ZU rfl rfl an rfl zh zf (wCS aq) (wCT aq)) (zT rfl rfl rfl (zL rfl rfl (ZO af.out)) (fun _=>zC rfl rfl Zj rfl zD) ?_)))))
 have fh:=wBY (xs:=(nB ab aa (⟨(gd ab aa).Bib,(↑(aa + 1):Int),(gd ab aa).Total⟩:wAA))) (by first | exact wAU aq | (have hz:=wAU aq;simpa only [nA] using hz))
 refine zn rfl rfl rfl (zL rfl rfl (ZO af.out)) (aN.ldR (j:=2) rfl an rfl rfl zN (wBS (sz:=3) (fun _=>rfl) _ _ 2 _ fh (by first | omega | rfl | simp) rfl)) rfl (zT rfl rfl rfl (zL rfl rfl (ZO af.out)) (fun _=>Zw rfl rfl rfl) (zT rfl rfl rfl rfl (fun _=>zV rfl (ZO af.out) rfl) (eN (ifc fC ?_ ?_))))
 intro bE fD
 refine cT Z bE (rR (wPs (.fx 10 .nil .stop)) rfl (zO rfl rfl rfl rfl rfl (nK (b:=(.slice ac ab.length ae:Value)) (c:=(.slice ac ((nB ab aa (⟨(gd ab aa).Bib,(↑(aa + 1):Int),(gd ab aa).Total⟩:wAA)).length) ae:Value)) ap (by simp only [nA])) (zO rfl rfl rfl rfl rfl rfl (zO rfl rfl rfl rfl rfl (nK (b:=(.slice ac ab.length ae:Value)) (c:=(.slice ac ((nB ab aa (⟨(gd ab aa).Bib,(↑(aa + 1):Int),(gd ab aa).Total⟩:wAA)).length) ae:Value)) ap (by simp only [nA])) (zO rfl rfl rfl rfl rfl rfl (zT rfl rfl rfl rfl (fun _=>ZN rfl rfl rfl) (zT rfl rfl rfl rfl (fun _=>ZU rfl rfl an rfl zh zf (wCS aq) (wCT aq)) (zT rfl rfl rfl rfl (fun _=>zC rfl rfl Zj rfl zD) ?_))))))))
 have fj:=wBY (xs:=(nB ab aa (⟨(gd ab aa).Bib,(↑(aa + 1):Int),(gd ab aa).Total⟩:wAA))) (by first | exact wAU aq | (have hz:=wAU aq;simpa only [nA] using hz))
 refine zn rfl rfl rfl rfl (aN.ldR (j:=2) rfl an rfl rfl zN (wBS (sz:=3) (fun _=>rfl) _ _ 1 _ fj (by first | omega | rfl | simp) rfl)) rfl (zT rfl rfl rfl rfl (fun _=>ZD rfl rfl an rfl zh zf (wAU aM)) (zT rfl rfl rfl rfl (fun _=>zC rfl rfl Zj rfl zD) ?_))
 have fk:=wBY (xs:=(nB ab aa (⟨(gd ab aa).Bib,(↑(aa + 1):Int),(gd ab aa).Total⟩:wAA))) (by first | exact wAU aM | (have hz:=wAU aM;simpa only [nA] using hz))
 refine YE (j:=2) (vs:=[jV ((gd (nB ab aa (⟨(gd ab aa).Bib,(↑(aa + 1):Int),(gd ab aa).Total⟩:wAA)) (w64 ((↑aa:Int) - 1)).toNat).Place)]) (cs':=hD wAB (nB (nB ab aa (⟨(gd ab aa).Bib,(↑(aa + 1):Int),(gd ab aa).Total⟩:wAA)) aa (⟨(gd (nB ab aa (⟨(gd ab aa).Bib,(↑(aa + 1):Int),(gd ab aa).Total⟩:wAA)) aa).Bib,(gd (nB ab aa (⟨(gd ab aa).Bib,(↑(aa + 1):Int),(gd ab aa).Total⟩:wAA)) (w64 ((↑aa:Int) - 1)).toNat).Place,(gd (nB ab aa (⟨(gd ab aa).Bib,(↑(aa + 1):Int),(gd ab aa).Total⟩:wAA)) aa).Total⟩:wAA))) rfl rfl rfl rfl aN rfl an rfl rfl rfl zD (by rw [wAG (f:=wAB) (sz:=3) (fun _=>rfl)];have hz:=wAU aM;show _ + 1 <= _;first | omega | (simp only [nA];omega) | (simp only [nG,nD,nE,nA];omega) | (simp only [nJ];omega) | (simp only [nG,nD,nE];omega)) rfl (wEK (sz:=3) (fo:=1) (fun _=>rfl) _ _ _ _ fk (by first | omega | (simp only [nJ];omega) | (simp only [nG,nD,nE];omega)) (zB rfl) rfl) rfl ?_
 intro dg eA
 have eB:SW w [.obj pm1t (.map pe1t pk1t)] U aW [.blk b3 137 B0,.obj pm1t (.map az ax),.row ac ae 52 3 (hD wAB (nB (nB ab aa (⟨(gd ab aa).Bib,(↑(aa + 1):Int),(gd ab aa).Total⟩:wAA)) aa (⟨(gd (nB ab aa (⟨(gd ab aa).Bib,(↑(aa + 1):Int),(gd ab aa).Total⟩:wAA)) aa).Bib,(gd (nB ab aa (⟨(gd ab aa).Bib,(↑(aa + 1):Int),(gd ab aa).Total⟩:wAA)) (w64 ((↑aa:Int) - 1)).toNat).Place,(gd (nB ab aa (⟨(gd ab aa).Bib,(↑(aa + 1):Int),(gd ab aa).Total⟩:wAA)) aa).Total⟩:wAA))),aP] dg:=eA
 refine zb (za (zF (rR fL2 Z (oR Z (zr (zX Z ba Z) (congrArg (jV) bq.out)) (oM Z Z (zb ?_))))))
 cases fD
 exact zF ⟨rfl,⟨aW,rfl,(nK (b:=(.slice ac ((nB ab aa (⟨(gd ab aa).Bib,(↑(aa + 1):Int),(gd ab aa).Total⟩:wAA)).length) ae:Value)) (c:=(.slice ac ((nB (nB ab aa (⟨(gd ab aa).Bib,(↑(aa + 1):Int),(gd ab aa).Total⟩:wAA)) aa (⟨(gd (nB ab aa (⟨(gd ab aa).Bib,(↑(aa + 1):Int),(gd ab aa).Total⟩:wAA)) aa).Bib,(gd (nB ab aa (⟨(gd ab aa).Bib,(↑(aa + 1):Int),(gd ab aa).Total⟩:wAA)) (w64 ((↑aa:Int) - 1)).toNat).Place,(gd (nB ab aa (⟨(gd ab aa).Bib,(↑(aa + 1):Int),(gd ab aa).Total⟩:wAA)) aa).Total⟩:wAA)).length) ae:Value)) (nK (b:=(.slice ac ab.length ae:Value)) (c:=(.slice ac ((nB ab aa (⟨(gd ab aa).Bib,(↑(aa + 1):Int),(gd ab aa).Total⟩:wAA)).length) ae:Value)) ap (by simp only [nA])) (by simp only [nA])),bG,bk,bT,eB,((nA.trans nA).trans bM)⟩⟩
 intro bE fE
 refine cF Z bE (ZE (za (zF (rR fL2 Z (oR Z (zr (zX Z ba Z) (congrArg (jV) bq.out)) (oM Z Z (zb ?_)))))))
 cases fE
 exact zF ⟨rfl,⟨aW,rfl,(nK (b:=(.slice ac ab.length ae:Value)) (c:=(.slice ac ((nB ab aa (⟨(gd ab aa).Bib,(↑(aa + 1):Int),(gd ab aa).Total⟩:wAA)).length) ae:Value)) ap (by simp only [nA])),bG,bk,bT,aN,(nA.trans bM)⟩⟩
 intro af fG
 refine oF Z af (oF Z af (oF Z af (oF Z af (oF Z af (oF Z af (oF Z af (oF Z af (oF Z af (oF Z af (oF Z af (oF Z af (oR Z (zS Z (zo af.out) Z) (eN (zg Z (ZE (za (zF (rR fL2 Z (oR Z (zr (zX Z ba Z) (congrArg (jV) bq.out)) (oM Z Z (zb ?_)))))))))))))))))))))
 cases fG
 exact zF ⟨rfl,⟨aW,rfl,(nK (b:=(.slice ac ab.length ae:Value)) (c:=(.slice ac ((nB ab aa (⟨(gd ab aa).Bib,(↑(aa + 1):Int),(gd ab aa).Total⟩:wAA)).length) ae:Value)) ap (by simp only [nA])),bG,bk,bT,aN,(nA.trans bM)⟩⟩
 rintro fP fW ⟨cm,dx,dt,du,dv,ge,cJ,f9⟩
 have dp:Hid (¬ ((↑(((↑aO.length:Int):Int) - 0).toNat:Int) < (↑aO.length:Int))):=zG (wAr)
 refine sR fL1 rfl (zT rfl rfl rfl rfl (fun _=>zR rfl dx dv) (eN (zK (cF Z dp (ZG (zc (zc (zz (zF (sR (.fl 0 (.fl 1 (.fx 2 (.fl 3 .nil) .stop))) rfl (zO rfl rfl rfl rfl rfl dt (zO rfl rfl rfl rfl rfl du (bnK fy fun cZ dP fH=>yE (j:=2) (enc:=wAB) (xs:=fM) (ys:=bs) (zs:=cZ) rfl rfl rfl rfl rfl Tryz.underlying47 wMj rfl rfl rfl rfl rfl rfl cJ rfl rfl rfl (cJ.srcR (j:=3) rfl (by decide) (wAG (f:=wAB) (sz:=3) (fun _=>rfl) bs)) (fun _=>rfl) (fun _=>rfl) dP rfl ?_)))))))))))))
 intro cd cy dh eC
 have eD:SW w [.obj pm1t (.map pe1t pk1t)] U cm [.blk b3 137 B0,.obj pm1t (.map az ax),.row cd cy 52 3 (hD wAB cZ),aP] dh:=eC
 refine oA Z Z (eN (zP ?_))
 cases fH
 exact ⟨rfl,_,(zj rfl),cm,_,(eD.pick [2,1] _ (by decide) rfl),cd,cy,az,ax,rfl,rfl,dN⟩
end Go.Proofs.YtlmekamhphnmjaaGreat
