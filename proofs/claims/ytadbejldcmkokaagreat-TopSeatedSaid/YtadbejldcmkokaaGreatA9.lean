import Derived.Test.YtadbejldcmkokaaGreatA7
import Derived.Test.YtadbejldcmkokaaGreatA6
import Derived.Test.YtadbejldcmkokaaGreatA8
set_option linter.all false
open List renaming flatMap->nA,length_set->nD,set->nE,getElem_cons_succ->nH,getElem_cons_zero->nI,getElem_toArray->nJ,length_append->nN,take_of_length_le->nO
open Option.some renaming inj->nB
open Go.Value renaming bool->nG
open Bool renaming eq_false_iff->nK
open Int renaming toNat_natCast->nL,le_refl->nP
open Eq renaming trans->nM
open Option renaming map->nQ
namespace Go.Proofs.YtadbejldcmkokaaGreat
open Go.KL
def gCq:Sch:=.fx 1 (.fl 2 .nil) .stop
def gCr:Sch:=.fx 0 (.fl 1 .nil) .stop
def gCs:Sch:=.fx 6 (.fl 7 .nil) .stop
def gCt:Sch:=.fl 0 (.fx 1 .nil .stop)
def gCu:Sch:=.fx 2 (.fl 3 .nil) .stop
def gCv:Sch:=.fx 3 (.fl 4 .nil) .stop
def gCw:Sch:=.fx 1 (.fl 2 (.fl 3 .nil)) .stop
def gCx:Sch:=.fx 2 (.fl 3 (.fl 4 .nil)) .stop
def gCy:Sch:=.fx 14 (.fl 15 (.fl 16 .nil)) .stop
def gCz:Sch:=.fx 15 (.fl 16 (.fx 17 .nil .stop)) .stop
def gDa:Sch:=.fx 0 gCq .stop
def gDb:Sch:=.fx 5 gCs .stop
def gDc:Sch:=.fx 0 (.fl 1 (.fl 2 .nil)) .stop
def gDd:Sch:=.fl 0 gCq
def gDe:Sch:=.fl 0 (.fl 1 (.fx 2 (.fx 3 .nil .stop) .stop))
def gDf:Sch:=.fl 0 (.fl 1 gCu)
def gDg:Sch:=.fl 0 (.fl 1 gCx)
def gDh:Sch:=.fl 0 (.fl 1 (.fx 2 (.fx 3 (.fl 4 (.fl 5 .nil)) .stop) .stop))
set_option maxHeartbeats 4000000
theorem wIk (p0:Int) (p1:List Int) (ai:Option Addr) (aj:Nat) (w:World) (U:PHeap) (hS:St0 w U []) (bi:Sl U 1 ai aj p1.length (nA KL.encI p1)) {r:Int} (hm:wEI p0 p1=some r):Gv Tryz.prog 64 [jV p0,.slice ai p1.length aj] w (wBc w [] U (fun U_ L_ v=>v=jV r/\L_=[])):=by
 unfold wEI at hm
 refine Gv.of Tryz.func64 Z Tryz.ntmps64 Tryz.results64 Z (sR fL1 Z (oA Z Z (eN (zJ (sR fL3 Z (oM Z Z (oR Z (zn Z Z zD) (oM Z Z (eN (zS (bnK hm fun bC bk bp=>?_)))))))))))
 have q:=wBM bk
 obtain ⟨ah,bj⟩:=q
 replace ah:=zH ah
 refine CK.forN' (fun k7 x6 σ_ w_=>∃ (U_:PHeap),σ_ 9=jV (↑k7:Int)/\σ_ 0=jV x6/\σ_ 7=.slice ai p1.length aj/\σ_ 8=jV (↑p1.length:Int)/\PHeap.Le U U_/\sW w U U_ [] w_) bj ?_ ?_ ?_
 exact ⟨U,Z,Z,Z,Z,(zN _),hS⟩
 rintro k7 x6 bB bD br ag ⟨az,ae,aX,am,an,aq,ap⟩ bq
 have ak:Hid ((↑k7:Int) < (↑p1.length:Int)):=zH (wBG ag)
 replace ag:=zH ag
 have bm:Hid (w64 ((↑k7:Int) + 1)=(↑(k7 + 1):Int)):=zH (by have h1:=ah.out;have h2:=ak.out;rw [wAX] <;> omega)
 refine sR fL1 Z (oR Z (zV Z ae an) (eN (zJ (cT Z ak (kN (zJ (zS (sR fL3 Z (bnK bq fun x28 ao bn=>?_)))))))))
 have bb:=bi.le aq
 have q:=bb.el (fun _=>rfl) (wAj ao)
 obtain ⟨bu,bA,be,bg⟩:=q
 refine oR Z (ZV Z am be ae zD zC (wCZ ao)) (oL Z (ap.ldC (f:=0) bg (v:=jV x28) Z Z zG Z) (oA Z Z (eN (rR fL4 Z (oM Z aX (oM Z Z (oR Z (Runs.max Z Z Z) (oA Z Z (zd (zf (zI (rR fL2 Z (oR Z (zt (zU Z ae Z) (congrArg (jV) bm.out)) (oM Z Z (zd ?_)))))))))))))))
 cases bn
 exact zI ⟨Z,⟨az,Z,Z,am,an,aq,ap⟩⟩
 rintro bE bs ⟨aV,ba,aY,bw,aZ,bz,bh⟩
 have aW:Hid (¬ ((↑(((↑p1.length:Int):Int) - 0).toNat:Int) < (↑p1.length:Int))):=zH (wAq)
 refine sR fL1 Z (oR Z (zV Z ba aZ) (eN (zJ (cF Z aW (ZH (zZ (zZ (zx (zI (sR fL2 Z (oM Z aY (oA Z Z (eN (zP ?_))))))))))))))
 have hE:=nB bp;first | subst r | cases hE
 exact ⟨Z,_,(zm Z),aV,_,bh,Z,Z⟩
theorem wHi (p0:wBJ) (bn:Nat) (bm:Option Addr) (bp:Nat) (an:Option Addr) (ao:Nat) (bq:Nat) (cq:Array MapEntry) (ct:Nat) (br:Nat) (cr:Array MapEntry) (cu:Nat) (p1:wAQ) (p2:(wBJ × List Int × List (Int × Bool))) (pb2a:Nat) (pb2b:Nat) (pb2c:Nat) (pb2v:Nat) (pb2f:Nat) (pb2g:Nat) (pq2d:Nat) (pA2d_0_1:Option Addr) (pc2d_0_1:Nat) (pA2d_0_2:Option Addr) (pc2d_0_2:Nat) (pm2d_1:Nat) (pe2d_1:Array MapEntry) (pk2d_1:Nat) (pm2d_2:Nat) (pe2d_2:Array MapEntry) (pk2d_2:Nat) (pm2t:Nat) (pe2t:Array MapEntry) (pk2t:Nat) (pA2o:Option Addr) (pc2o:Nat) (w:World) (U:PHeap) (hS:St0 w U [.obj pm2t (.map pe2t pk2t)]) (bX:Cl U bn 0 [jV p0.Record.Deadline,.slice bm p0.Record.Skiers.length bp,.slice an p0.Record.Decisions.length ao,.map (some bq),.map (some br)]) (cJ:Sl U 2 bm bp p0.Record.Skiers.length (nA wAO p0.Record.Skiers)) (bY:Sl U 6 an ao p0.Record.Decisions.length (nA wAL p0.Record.Decisions)) (cS:MpF U bq cq ct wIw wKD p0.at_) (cU:MpF U br cr cu wMA wMB p0.about) (cV:Cl U pb2a 0 [.map (some pm2t)]) (cW:Cl U pb2b 0 [.func (.func 37) #[.pointer (some ⟨pq2d,0,none⟩)] #[]]) (cX:Cl U pb2c 0 [.pointer (some ⟨pq2d,0,none⟩)]) (cY:Cl U pb2v 0 [.func (.func 39) #[] #[.pointer (some ⟨pb2a,0,none⟩),.pointer (some ⟨pb2b,0,none⟩),.pointer (some ⟨pb2c,0,none⟩),.pointer (some ⟨pb2v,0,none⟩)],.func (.func 41) #[] #[.pointer (some ⟨pb2f,0,none⟩)],.func (.func 42) #[] #[.pointer (some ⟨pb2v,0,none⟩),.pointer (some ⟨pb2g,0,none⟩)],.func (.func 45) #[] #[.pointer (some ⟨pb2v,0,none⟩)],.func (.func 43) #[] #[.pointer (some ⟨pb2f,0,none⟩)]]) (cZ:Cl U pb2f 0 [.func (.func 38) #[] #[.pointer (some ⟨pb2c,0,none⟩),.pointer (some ⟨pb2v,0,none⟩)]]) (cK:Cl U pb2g 0 [.slice pA2o p2.2.1.length pc2o]) (cL:Cl U pq2d 0 [jV p2.1.Record.Deadline,.slice pA2d_0_1 p2.1.Record.Skiers.length pc2d_0_1,.slice pA2d_0_2 p2.1.Record.Decisions.length pc2d_0_2,.map (some pm2d_1),.map (some pm2d_2)]) (cM:Sl U 2 pA2d_0_1 pc2d_0_1 p2.1.Record.Skiers.length (nA wAO p2.1.Record.Skiers)) (cN:Sl U 6 pA2d_0_2 pc2d_0_2 p2.1.Record.Decisions.length (nA wAL p2.1.Record.Decisions)) (cO:MpF U pm2d_1 pe2d_1 pk2d_1 wIw wKD p2.1.at_) (cP:MpF U pm2d_2 pe2d_2 pk2d_2 wMA wMB p2.1.about) (cQ:MpR pe2t wKC wLB p2.2.2) (cR:Sl U 1 pA2o pc2o p2.2.1.length (nA KL.encI p2.2.1)) {r:Int × Bool} (hm:wCE p0 p1 p2=some r):Gv Tryz.prog 33 [.pointer (some ⟨bn,0,none⟩),.agg #[jV p1.Bib,jV p1.Time],.agg #[.func (.func 39) #[] #[.pointer (some ⟨pb2a,0,none⟩),.pointer (some ⟨pb2b,0,none⟩),.pointer (some ⟨pb2c,0,none⟩),.pointer (some ⟨pb2v,0,none⟩)],.func (.func 41) #[] #[.pointer (some ⟨pb2f,0,none⟩)],.func (.func 42) #[] #[.pointer (some ⟨pb2v,0,none⟩),.pointer (some ⟨pb2g,0,none⟩)],.func (.func 45) #[] #[.pointer (some ⟨pb2v,0,none⟩)],.func (.func 43) #[] #[.pointer (some ⟨pb2f,0,none⟩)]]] w (wBc w [.obj pm2t (.map pe2t pk2t)] U (fun U_ L_ v=>v=.tuple #[jV r.1,.bool r.2]/\L_=[.obj pm2t (.map pe2t pk2t)])):=by
 unfold wCE at hm
 refine Gv.of Tryz.func33 Z Tryz.ntmps33 Tryz.results33 Z (sR (.fx 0 gCw .stop) Z ?_)
 let B0:List Value:=[jV p1.Bib,jV p1.Time]
 refine zq (cs:=B0) rfl rfl rfl rfl rfl rfl (by rfl) hS ?_
 intro W2 b3 bN
 let B1:List Value:=[.func (.func 39) #[] #[.pointer (some ⟨pb2a,0,none⟩),.pointer (some ⟨pb2b,0,none⟩),.pointer (some ⟨pb2c,0,none⟩),.pointer (some ⟨pb2v,0,none⟩)],.func (.func 41) #[] #[.pointer (some ⟨pb2f,0,none⟩)],.func (.func 42) #[] #[.pointer (some ⟨pb2v,0,none⟩),.pointer (some ⟨pb2g,0,none⟩)],.func (.func 45) #[] #[.pointer (some ⟨pb2v,0,none⟩)],.func (.func 43) #[] #[.pointer (some ⟨pb2f,0,none⟩)]]
 refine zq (cs:=B1) rfl rfl rfl rfl rfl rfl (by rfl) bN ?_
 intro W6 b7 bU
 refine Zw rfl rfl rfl rfl rfl rfl (Zw rfl rfl rfl rfl rfl rfl (eN (zJ (ZO zz [3,1,3,3,1,3,3] fL7 (by kernel_rfl) ?_))))
 have ak:=bU.drew
 generalize hw_W11:({ W6 with drawn:=W6.drawn + 1 }:World)=cx at ak ⊢
 refine oR Z (zF Z Z Zp Z zC) (oL Z (ak.ldB (j:=1) Z Z Z zG (v:=jV p1.Time) Z) (oR Z (yO Z Z Z) (oR Z (zF Z Z Zp Z zC) (oL Z (ak.ldB (j:=1) Z Z Z zG (v:=jV p1.Time) Z) (oA Z Z (oA Z Z (eN (zJ (sR fL7 Z (oM Z Z (oR Z (Zd Z Z) (oR Z (zF Z Z Tryz.runUnderlying117 Z Zg) (oR Z (zF Z Z ZF Z yV) (oL Z (ak.ldC (f:=2) bX (v:=.slice an p0.Record.Decisions.length ao) Z Z yM Z) (oR Z (zn Z Z Zj) (oM Z Z (eN (zS ?_))))))))))))))))))
 have q:=bnd hm
 obtain ⟨⟨⟩,bZ,bj⟩:=q
 try dsimp only at bj
 have q:=wBM bZ
 obtain ⟨aV,cd⟩:=q
 replace aV:=zH aV
 refine CK.forN' (fun am _ σ_ w_=>∃ (U_:PHeap),σ_ 23=jV (↑am:Int)/\σ_ 4=.pointer (some ⟨b3,0,none⟩)/\σ_ 5=.pointer (some ⟨b7,0,none⟩)/\σ_ 8=.bool (decide (p1.Time=(-1)))/\σ_ 9=jV p1.Time/\σ_ 21=.slice an p0.Record.Decisions.length ao/\σ_ 22=jV (↑p0.Record.Decisions.length:Int)/\PHeap.Le U U_/\SW w [.obj pm2t (.map pe2t pk2t)] U U_ [.blk b7 82 B1,.blk b3 39 B0,.obj pm2t (.map pe2t pk2t)] w_) cd ?_ ?_ ?_
 exact ⟨U,Z,Z,Z,Z,Z,Z,Z,(zN _),ak⟩
 rintro am ⟨⟩ dh dm cy az ⟨bs,be,bB,bC,cD,cE,bD,bE,cp,bh⟩ bk
 try dsimp only at bk
 have bb:Hid ((↑am:Int) < (↑p0.Record.Decisions.length:Int)):=zH (wBG az)
 replace az:=zH az
 have c8:Hid (w64 ((↑am:Int) + 1)=(↑(am + 1):Int)):=zH (by have h1:=aV.out;have h2:=bb.out;rw [wAX] <;> omega)
 refine sR fL1 Z (oR Z (zV Z be bE) (eN (zJ (cT Z bb (kN (zJ (zS (sR gDe Z (bnK bk fun x36 bg cg=>?_)))))))))
 have bJ:=bY.le cp
 have q:=bJ.el (fun _=>rfl) (wAj bg)
 obtain ⟨cC,df,bL,bM⟩:=q
 refine oR Z (ZV Z bD bL be Zj Zn (wCZ bg)) (oL Z (bh.ldCA (f:=0) bM Z Z yq Zn (us:=[jV x36.Number,jV x36.Kind,jV x36.Minute,jV x36.Bib,jV x36.Much,jV x36.About]) Z Z) (zg (cs:=[jV 0,jV 0,jV 0,jV 0,jV 0,jV 0]) Z Z Z Z Z Tryz.zeroValue123 Z bh ?_))
 intro cA bz bO
 let B2:List Value:=[jV x36.Number,jV x36.Kind,jV x36.Minute,jV x36.Bib,jV x36.Much,jV x36.About]
 refine zh (j:=0) (vs:=B2) Z Z Z Z bO Z Z Z Z Zn (zA Z) Z Z Z ?_
 intro bu bP
 have av:SW w [.obj pm2t (.map pe2t pk2t)] U bs [.blk bz 123 B2,.blk b7 82 B1,.blk b3 39 B0,.obj pm2t (.map pe2t pk2t)] bu:=bP
 refine eN (sR (wDo (.fx 4 .nil .stop)) Z (oL Z (av.ldBA (j:=1) Z Z bC Tryz.isAgg82 Tryz.sizeOf82 (vs:=B1) Z Z) (oL Z (av.ldBA (j:=0) Z Z Z yq Zn (vs:=B2) Z Z) (oR Z (zF Z bB Zp Z zC) (oL Z (av.ldB (j:=2) Z Z Z zG (v:=jV p1.Bib) Z) ?_)))))
 cases cg
 rintro dp cB ⟨aW,bI,cG,cH,bF,bG,cI,bH,da,bi⟩
 have bA:Hid (¬ ((↑(((↑p0.Record.Decisions.length:Int):Int) - 0).toNat:Int) < (↑p0.Record.Decisions.length:Int))):=zH (wAq)
 refine sR fL1 Z (oR Z (zV Z bI bH) (eN (zJ (cF Z bA (ZH (zZ (zZ (zx (zI (zJ (sR fL1 Z (oM Z bF (eN (ifc bj ?_ ?_))))))))))))))
 intro au ci
 refine cT Z au (sR fL2 Z (oA Z Z (oA Z Z (eN (zP (zR ?_))))))
 cases ci
 exact ⟨rfl,_,(wGV rfl rfl),aW,_,(bi.pick [2] _ (by decide) rfl),rfl,rfl⟩
 intro au cj
 refine cF Z au (kN (sR (.fl 0 (.fx 1 gCx .stop)) Z (oM Z bG (ZL (pv:=[(0,jV p1.Time)]) (zs:=[jV 0]) (cs:=[jV p1.Time]) Z Z Z Z Z (wAG Z wAZ) zD zC ZW Z Z Z Z Z bi ?_))))
 intro aq ba bQ
 have bR:SW w [.obj pm2t (.map pe2t pk2t)] U aW [.row (some ⟨ba,0,none⟩) 1 3 1 (nA KL.encI [p1.Time]),.blk b7 82 B1,.blk b3 39 B0,.obj pm2t (.map pe2t pk2t)] aq:=bQ
 have q:=bR.freezeR (k:=0) (n:=[p1.Time].length) rfl (wAC (f:=KL.encI) (sz:=1) (fun _=>rfl) [p1.Time]) (by decide)
 obtain ⟨aX,db,cn,bS⟩:=q
 have bT:SW w [.obj pm2t (.map pe2t pk2t)] U aX [.blk b7 82 B1,.blk b3 39 B0,.obj pm2t (.map pe2t pk2t)] aq:=bS
 refine bnK cj fun x78 bK cm=>zL 0 Z Z Z Z (zK Z Z Tryz.call64 (zB Z (zB Z zM)) Z) bT (fun hs=>wIk 0 [p1.Time] (some ⟨ba,0,none⟩) 1 aq aX hs cn bK) (.inr Z) ?_
 rintro aY cw dg bw de bV ⟨rfl,rfl⟩
 have bW:SW w [.obj pm2t (.map pe2t pk2t)] U aY [.blk b7 82 B1,.blk b3 39 B0,.obj pm2t (.map pe2t pk2t)] bw:=bV
 refine oA Z Z (oA Z Z (eN (zP ?_)))
 cases cm
 exact ⟨rfl,_,(wGV rfl rfl),aY,_,(bW.pick [2] _ (by decide) rfl),rfl,rfl⟩
theorem wBt (p0:List wAA) (ag:Option Addr) (ah:Nat) (p1:Int) (p2:Int) (p3:((wAA × wAA)->Option Int)) (be:Value) (w:World) (U:PHeap) (hS:St0 w U [.row ag ah 86 3 (nA wAH p0)]) (cj:FnOK Tryz.prog U be wQz wKE p3) {r:(List wAA)} (hm:wAg p0 p1 p2 p3=some r):Gv Tryz.prog 103 [.slice ag p0.length ah,jV p1,jV p2,be] w (wBc w [.row ag ah 86 3 (nA wAH p0)] U (fun U_ L_ v=>v=.tuple #[]/\L_=[.row ag ah 86 3 (nA wAH r)]/\r.length=p0.length)):=by
 unfold wAg at hm
 refine Gv.of Tryz.func103 Z Tryz.ntmps103 Tryz.results103 Z (sR fL3 Z (oM Z Z (oR Z (zU Z Z Z) (oA Z Z (eN (zS ?_))))))
 let B0:Res:=.row ag ah 86 3 (nA wAH p0)
 refine yr (fun (l8,x9) σ_ w_=>∃ (U_:PHeap),σ_ 0=.slice ag l8.length ah/\σ_ 1=jV p1/\σ_ 2=jV p2/\σ_ 3=be/\σ_ 8=jV x9/\PHeap.Le U U_/\SW w [B0] U U_ [.row ag ah 86 3 (nA wAH l8)] w_/\l8.length=p0.length) hm ?_ ?_
 exact ⟨U,Z,Z,Z,Z,Z,(zN _),hS,Z⟩
 rintro ⟨l8,x9⟩ cQ cS cK ⟨bj,bR,bS,bA,bT,bn,bw,bC,bB⟩ bs cm
 try dsimp only at bs
 refine zJ (sR fL3 Z (oM Z bn (oM Z bA (oR Z (zV Z Z Z) (eN ?_)))))
 by_cases am:x9 < p2
 have bH:=bs;rw [if_pos am] at bH;replace am:=zH am
 refine cT Z am (kN (zJ (zS (sR fL2 Z (oM Z bn (oA Z Z (eN (zS (yr (fun (aa,ab) σ_ w_=>∃ (U_:PHeap),σ_ 0=.slice ag aa.length ah/\σ_ 1=jV p1/\σ_ 2=jV p2/\σ_ 3=be/\σ_ 8=jV x9/\σ_ 9=jV ab/\PHeap.Le bj U_/\SW w [B0] U U_ [.row ag ah 86 3 (nA wAH aa)] w_/\aa.length=p0.length) bH ?_ ?_)))))))))
 exact ⟨bj,bR,bS,bA,bT,bn,Z,(zN _),bC,bB⟩
 rintro ⟨aa,ab⟩ cR cU bz ⟨bL,ak,aX,bp,aY,bq,an,bb,bX,br⟩ bu bE
 try dsimp only at bu
 refine zJ (zJ (ZO zz [3,3,3,3,3,3,3,3,1,3,3,3,3,1,2,3,3] (wSL gCy) (by kernel_rfl) ?_))
 have aq:=bX.drew
 generalize hw_W54:({ bz with drawn:=bz.drawn + 1 }:World)=cL at aq ⊢
 refine oM Z an (oM Z aX (oR Z (yG Z Z Z) (oM Z Z ?_)))
 by_cases ae:p1 < ab
 have bI:=bu;rw [if_pos ae] at bI;replace ae:=zH ae
 refine zX Z Z Z (wT Z ae) Z aY (zX Z Z Z (wT Z ae) Z ak (zX Z Z Z (wT Z ae) Z an (bnK bI fun _ aj cy=>?_)))
 have q:=aq.rowSome (j:=0) rfl (by rw [wAC (f:=wAH) (sz:=3) (fun _=>rfl) aa];have hz:=wAT aj;omega)
 obtain ⟨cN,ai⟩:=q
 refine rU Z (wT Z ae) (ZA Z Z ai Z ZP Zc (wBP aj) (wBQ aj)) ?_
 have cn:=wBb (xs:=aa) (wAT aj)
 let B1:List Value:=[jV ((gd aa ab.toNat).Bib),jV ((gd aa ab.toNat).Place),jV ((gd aa ab.toNat).Total)]
 refine ZC rfl rfl rfl (zQ rfl rfl (ZU ae.out)) (aq.ldRA (j:=0) rfl ai rfl rfl Tryz.isAgg86 Zc (vs:=B1) (wET (sz:=3) (fun _=>rfl) _ _ _ cn (by first | omega | rfl | simp) rfl) rfl) rfl (zX rfl rfl rfl (zQ rfl rfl (ZU ae.out)) rfl ak (zX rfl rfl rfl (zQ rfl rfl (ZU ae.out)) rfl an (zY rfl rfl rfl (zQ rfl rfl (ZU ae.out)) (fun _=>Zk rfl rfl rfl) (bnK cy fun _ ap cz=>zY rfl rfl rfl (zQ rfl rfl (ZU ae.out)) (fun _=>ZA rfl rfl ai rfl ZP Zc (wBP ap) (wBQ ap)) ?_))))
 have cp:=wBb (xs:=aa) (wAT ap)
 let B2:List Value:=[jV ((gd aa (w64 (ab - 1)).toNat).Bib),jV ((gd aa (w64 (ab - 1)).toNat).Place),jV ((gd aa (w64 (ab - 1)).toNat).Total)]
 refine ZC rfl rfl rfl (zQ rfl rfl (ZU ae.out)) (aq.ldRA (j:=0) rfl ai rfl rfl Tryz.isAgg86 Zc (vs:=B2) (wET (sz:=3) (fun _=>rfl) _ _ _ cp (by first | omega | rfl | simp) rfl) rfl) rfl (bnK cz fun cP bU cA=>?_)
 have bV:=cj.le bw
 have bW:=bV.le bb
 refine yI (a:=((gd aa ab.toNat),(gd aa (w64 (ab - 1)).toNat))) Z Z Z (wT Z ae) Z Z (zB Z (zB Z zM)) aq bW Z bU ?_
 rintro av cJ cO bk bJ bY ⟨rfl,rfl⟩
 have bD:SW w [B0] U av [.row ag ah 86 3 (nA wAH aa)] bk:=bY
 refine rU Z (wT Z ae) (zV Z Z Z) (oR Z (zb Z (ZU ae.out) Z) (eN (ifc cA ?_ ?_)))
 intro bm cB
 refine cT Z bm (kN (zJ (zS (ZO zz [3,3,3,3,3,3,3,3,3,1,3,3,3,1,3,0,3,0] (wQN gCz) (by kernel_rfl) ?_))))
 have aZ:=bD.drew
 generalize hw_W80:({ bk with drawn:=bk.drawn + 1 }:World)=cM at aZ ⊢
 refine oM Z ak (oM Z an (oM Z ak (oM Z an (oR Z (Zk Z Z Z) (oM Z ak (oM Z an (oR Z (Zk Z Z Z) (oR Z (ZA Z Z ai Z ZP Zc (wBP ap) (wBQ ap)) ?_))))))))
 have cq:=wBb (xs:=aa) (wAT ap)
 refine ZC rfl rfl rfl rfl (aZ.ldRA (j:=0) rfl ai rfl rfl Tryz.isAgg86 Zc (vs:=B2) (wET (sz:=3) (fun _=>rfl) _ _ _ cq (by first | omega | rfl | simp) rfl) rfl) rfl (zX rfl rfl rfl rfl rfl ak (zX rfl rfl rfl rfl rfl an (zY rfl rfl rfl rfl (fun _=>ZA rfl rfl ai rfl ZP Zc (wBP aj) (wBQ aj)) ?_)))
 have cr:=wBb (xs:=aa) (wAT aj)
 refine ZC rfl rfl rfl rfl (aZ.ldRA (j:=0) rfl ai rfl rfl Tryz.isAgg86 Zc (vs:=B1) (wET (sz:=3) (fun _=>rfl) _ _ _ cr (by first | omega | rfl | simp) rfl) rfl) rfl (zY rfl rfl rfl rfl (fun _=>ZA rfl rfl ai rfl ZP Zc (wBP aj) (wBQ aj)) ?_)
 have ct:=wBb (xs:=aa) (wAT aj)
 refine yd (j:=0) (vs:=B2) (cs':=nA wAH (nE aa ab.toNat (gd aa (w64 (ab - 1)).toNat))) rfl rfl rfl rfl aZ rfl ai rfl rfl rfl Zc (by rw [wAC (f:=wAH) (sz:=3) (fun _=>rfl)];have hz:=wAT aj;show _ + 3 <= _;first | omega | (simp only [nL];omega) | (simp only [nJ,nH,nI];omega)) rfl (wCo (sz:=3) (fo:=0) (fun _=>rfl) _ _ _ _ ct (by first | omega | (simp only [nL];omega) | (simp only [nJ,nH,nI];omega)) (zA rfl) rfl) rfl ?_
 intro bM bZ
 have cd:SW w [B0] U av [.row ag ah 86 3 (nA wAH (nE aa ab.toNat (gd aa (w64 (ab - 1)).toNat)))] bM:=bZ
 refine bnK cB fun _ az cC=>zY rfl rfl rfl rfl (fun _=>ZA rfl (nM (b:=(.slice ag aa.length ah:Value)) (c:=(.slice ag ((nE aa ab.toNat (gd aa (w64 (ab - 1)).toNat)).length) ah:Value)) rfl (by simp only [nD])) ai rfl ZP Zc (wBP az) (wBQ az)) ?_
 have cu:=wBb (xs:=(nE aa ab.toNat (gd aa (w64 (ab - 1)).toNat))) (by first | exact wAT az | (have hz:=wAT az;simpa only [nD] using hz))
 refine yd (j:=0) (vs:=B1) (cs':=nA wAH (nE (nE aa ab.toNat (gd aa (w64 (ab - 1)).toNat)) (w64 (ab - 1)).toNat (gd aa ab.toNat))) rfl rfl rfl rfl cd rfl ai rfl rfl rfl Zc (by rw [wAC (f:=wAH) (sz:=3) (fun _=>rfl)];have hz:=wAT az;show _ + 3 <= _;first | omega | (simp only [nD];omega) | (simp only [nJ,nH,nI,nD];omega) | (simp only [nL];omega) | (simp only [nJ,nH,nI];omega)) rfl (wCo (sz:=3) (fo:=0) (fun _=>rfl) _ _ _ _ cu (by first | omega | (simp only [nL];omega) | (simp only [nJ,nH,nI];omega)) (zA rfl) rfl) rfl ?_
 intro bN cg
 have ci:SW w [B0] U av [.row ag ah 86 3 (nA wAH (nE (nE aa ab.toNat (gd aa (w64 (ab - 1)).toNat)) (w64 (ab - 1)).toNat (gd aa ab.toNat)))] bN:=cg
 refine zd (zf (zI (rR fL3 Z (oM Z an (oR Z (Zk Z Z Z) (oA Z Z (zd ?_)))))))
 have q:=nB cC
 obtain rfl:=q
 exact zI ⟨rfl,_,rfl,⟨av,(nM (b:=(.slice ag ((nE aa ab.toNat (gd aa (w64 (ab - 1)).toNat)).length) ah:Value)) (c:=(.slice ag ((nE (nE aa ab.toNat (gd aa (w64 (ab - 1)).toNat)) (w64 (ab - 1)).toNat (gd aa ab.toNat)).length) ah:Value)) (nM (b:=(.slice ag aa.length ah:Value)) (c:=(.slice ag ((nE aa ab.toNat (gd aa (w64 (ab - 1)).toNat)).length) ah:Value)) ak (by simp only [nD])) (by simp only [nD])),aX,bp,aY,bq,rfl,(bb.trans bJ),ci,((nD.trans nD).trans br)⟩⟩
 intro bm cD
 refine cF Z bm (ZH (zZ ?_))
 have q:=wAc cD
 obtain ⟨cI,cE,bQ⟩:=q
 have q:=bE cI bQ
 obtain rfl:=q
 refine zZ (zx (zf (zI (rR fL3 Z (oM Z bq (oR Z (zU Z Z Z) (oA Z Z (zd ?_))))))))
 have q:=nB cE
 obtain rfl:=q
 exact zI ⟨Z,_,Z,⟨av,ak,aX,bp,aY,Z,((bw.trans bb).trans bJ),bD,br⟩⟩
 have bF:=bu;rw [if_neg ae] at bF;replace ae:=zH ae
 refine oF Z ae (oF Z ae (oF Z ae (oF Z ae (oF Z ae (oF Z ae (oF Z ae (oF Z ae (oF Z ae (oF Z ae (Zr Z Z Z (ze Z Z (ZT ae.out) Z) (oF Z ae (oR Z (zi Z (ZT ae.out) Z) (eN (zu Z (ZH (zZ ?_))))))))))))))))
 have q:=wAc bF
 obtain ⟨cG,cw,bO⟩:=q
 have q:=bE cG bO
 obtain rfl:=q
 refine zZ (zx (zf (zI (rR fL3 Z (oM Z bq (oR Z (zU Z Z Z) (oA Z Z (zd ?_))))))))
 have q:=nB cw
 obtain rfl:=q
 exact zI ⟨Z,_,Z,⟨bL,ak,aX,bp,aY,Z,(bw.trans bb),aq,br⟩⟩
 have bG:=bs;rw [if_neg am] at bG;replace am:=zH am
 refine cF Z am (ZH (zZ ?_))
 have q:=wAc bG
 obtain ⟨cH,cx,bP⟩:=q
 have q:=cm cH bP
 obtain rfl:=q
 refine zZ (zx ?_)
 have hE:=nB cx;first | subst r | cases hE
 exact ⟨Z,_,(wNG),bj,_,bC,Z,Z,bB⟩
theorem wEO (p0:List wAA) (aa:Option Addr) (ab:Nat) (p1:Int) (p2:((wAA × wAA)->Option Int)) (ah:Value) (w:World) (U:PHeap) (hS:St0 w U [.row aa ab 86 3 (nA wAH p0)]) (bI:FnOK Tryz.prog U ah wQz wKE p2) {r:(List wAA)} (hm:wBR p0 p1 p2=some r):Gv Tryz.prog 65 [.slice aa p0.length ab,jV p1,ah] w (wBc w [.row aa ab 86 3 (nA wAH p0)] U (fun U_ L_ v=>v=.tuple #[]/\L_=[.row aa ab 86 3 (nA wAH r)]/\r.length=p0.length)):=by
 unfold wBR at hm
 refine Gv.of Tryz.func65 Z Tryz.ntmps65 Tryz.results65 Z (sR fL1 Z (oA Z Z (eN (sR fL3 Z (oM Z Z (oA Z Z (oA Z Z (eN ?_))))))))
 have q:=bnd hm
 obtain ⟨⟨l2,x3⟩,cN,bP⟩:=q
 try dsimp only at bP
 let B0:Res:=.row aa ab 86 3 (nA wAH p0)
 refine yP (fun σ_ w_=>∃ (U_:PHeap),σ_ 0=.slice aa l2.length ab/\σ_ 1=jV p1/\σ_ 2=ah/\σ_ 6=jV 20/\σ_ 7=jV x3/\PHeap.Le U U_/\SW w [B0] U U_ [.row aa ab 86 3 (nA wAH l2)] w_/\l2.length=p0.length) ?_ ?_
 refine zS (yr (fun (an,x17,az) σ_ w_=>∃ (U_:PHeap),σ_ 0=.slice aa an.length ab/\σ_ 1=jV p1/\σ_ 2=ah/\σ_ 6=jV 20/\σ_ 7=jV x17/\σ_ 8=jV az/\PHeap.Le U U_/\SW w [B0] U U_ [.row aa ab 86 3 (nA wAH an)] w_/\an.length=p0.length) cN ?_ ?_)
 exact ⟨U,Z,Z,Z,Z,Z,Z,(zN _),hS,Z⟩
 rintro ⟨an,x17,az⟩ dq dv bU ⟨bj,aX,aY,aZ,ba,bw,au,bi,bG,bD⟩ bg cG
 try dsimp only at bg
 refine zJ (sR fL3 Z (oM Z au (oM Z aY (oR Z (yo Z Z Z) (eN ?_)))))
 by_cases aj:az <= p1
 have bN:=bg;rw [if_pos aj] at bN;replace aj:=zH aj
 refine cT Z aj (kN (zS (sR (wDo (.fx 4 .nil .stop)) Z (oM Z aX (oM Z bw (oM Z au (oM Z aZ ?_)))))))
 have cr:=bI.le bi
 refine bnK bN fun x39 ct cK=>zL 1 Z Z Z Z (zK Z Z Tryz.call103 (zB Z (zB Z (zB Z (zB Z zM)))) Z) bG (fun hs=>wBt an aa ab x17 az p2 ah bU bj hs cr ct) (.inl Z) ?_
 rintro bk cW dh bV cQ cz ⟨rfl,rfl,bE⟩
 have cA:SW w [B0] U bk [.row aa ab 86 3 (nA wAH x39)] bV:=cz
 refine eN (sR fL2 Z (oM Z au (oA Z Z (eN (rR fL4 Z (oM Z au (oM Z ba (oR Z (zU Z Z Z) (oA Z Z (zd (zf ?_)))))))))))
 have q:=nB cK
 obtain rfl:=q
 exact zI ⟨rfl,_,rfl,⟨bk,(nM (b:=(.slice aa an.length ab:Value)) (c:=(.slice aa x39.length ab:Value)) aX (by rw [bE])),aY,aZ,ba,rfl,rfl,(bi.trans cQ),cA,(bE.trans bD)⟩⟩
 have bO:=bg;rw [if_neg aj] at bO;replace aj:=zH aj
 refine cF Z aj (ZH (zZ ?_))
 have q:=wAc bO
 obtain ⟨cV,cL,cd⟩:=q
 have q:=cG cV cd
 obtain rfl:=q
 refine zZ (zx ?_)
 cases cL
 exact zI ⟨Z,⟨bj,aX,aY,aZ,ba,bw,bi,bG,bD⟩⟩
 rintro dw bW ⟨bT,bz,bA,bB,cm,cn,cR,cB,cu⟩
 refine sR (wDo (.fx 4 .nil .stop)) Z (oM Z bz (oM Z cn (oM Z bA (oM Z bB ?_))))
 have cw:=bI.le cR
 refine bnK bP fun x71 cx cM=>zL 1 Z Z Z Z (zK Z Z Tryz.call103 (zB Z (zB Z (zB Z (zB Z zM)))) Z) cB (fun hs=>wBt l2 aa ab x3 p1 p2 ah bW bT hs cw cx) (.inl Z) ?_
 rintro aV cX dm bX df cC ⟨rfl,rfl,bF⟩
 let B1:Res:=.row aa ab 86 3 (nA wAH x71)
 have cD:SW w [B0] U aV [B1] bX:=cC
 refine eN (zS (yr (fun _ σ_ w_=>∃ (U_:PHeap),σ_ 0=.slice aa x71.length ab/\σ_ 1=jV p1/\σ_ 2=ah/\σ_ 6=jV 20/\PHeap.Le aV U_/\SW w [B0] U U_ [B1] w_) cM ?_ ?_))
 exact ⟨aV,(nM (b:=(.slice aa l2.length ab:Value)) (c:=(.slice aa x71.length ab:Value)) bz (by rw [bF])),bA,bB,cm,(zN _),cD⟩
 rintro ⟨⟩ dr dx da ⟨aq,cp,bC,cq,bb,dg,bH⟩ bh cH
 try dsimp only at bh
 refine zJ (sR fL3 Z (oM Z bb (oM Z bC (oR Z (zV Z Z Z) (eN ?_)))))
 by_cases ag:20 < p1
 have bQ:=bh;rw [if_pos ag] at bQ;replace ag:=zH ag
 refine cT Z ag (kN (zS (sR fL4 rfl (zX rfl rfl rfl rfl rfl bb (zY rfl rfl rfl rfl (fun _=>zt (Runs.mulw rfl rfl rfl) (congrArg (jV) (show w64 (2 * 20)=40 by decide))) (Zw rfl rfl rfl rfl rfl rfl (Zw rfl rfl rfl rfl rfl rfl (eN ?_))))))))
 have q:=bnd bQ
 obtain ⟨⟨⟩,cO,bJ⟩:=q
 try dsimp only at bJ
 refine yP (fun σ_ w_=>∃ (U_:PHeap),σ_ 0=.slice aa x71.length ab/\σ_ 1=jV p1/\σ_ 2=ah/\σ_ 6=jV 20/\σ_ 7=jV 0/\PHeap.Le aq U_/\SW w [B0] U U_ [B1] w_) ?_ ?_
 refine zS (yr (fun _ σ_ w_=>∃ (U_:PHeap),σ_ 0=.slice aa x71.length ab/\σ_ 1=jV p1/\σ_ 2=ah/\σ_ 6=jV 20/\σ_ 7=jV 0/\σ_ 8=jV 40/\PHeap.Le aq U_/\SW w [B0] U U_ [B1] w_) cO ?_ ?_)
 exact ⟨aq,cp,bC,cq,bb,Z,Z,(zN _),bH⟩
 rintro ⟨⟩ dp dt cZ ⟨bS,bm,bn,bp,bq,aW,br,cP,cy⟩ be cE
 try dsimp only at be
 refine zJ (sR fL3 Z (oM Z br (oM Z bn (oR Z (yo Z Z Z) (eN ?_)))))
 by_cases ai:40 <= p1
 have bK:=be;rw [if_pos ai] at bK;replace ai:=zH ai
 refine cT Z ai (kN (zS (sR (wMT (.fx 7 .nil .stop)) rfl (zX rfl rfl rfl rfl rfl bm (zX rfl rfl rfl rfl rfl aW (zX rfl rfl rfl rfl rfl aW (zX rfl rfl rfl rfl rfl bq (zY rfl rfl rfl rfl (fun _=>zt (zU rfl rfl rfl) (congrArg (jV) (show w64 (0 + 20)=20 by decide))) (zX rfl rfl rfl rfl rfl br (zX rfl rfl rfl rfl rfl bp ?_))))))))))
 cases bK
 have bL:=be;rw [if_neg ai] at bL;replace ai:=zH ai
 refine cF Z ai (ZH (zZ ?_))
 have q:=wAc bL
 obtain ⟨cS,cI,bY⟩:=q
 have q:=cE cS bY
 obtain rfl:=q
 refine zZ (zx ?_)
 cases cI
 exact zI ⟨Z,⟨bS,bm,bn,bp,bq,aW,cP,cy⟩⟩
 rintro du c8 ⟨cY,cg,bs,ci,cj,bu,de,db⟩
 refine zJ (sR fL4 rfl (zX rfl rfl rfl rfl rfl bu (zX rfl rfl rfl rfl rfl cj (zY rfl rfl rfl rfl (fun _=>zt (zU rfl rfl rfl) (congrArg (jV) (show w64 (0 + 20)=20 by decide))) (Zw rfl rfl rfl rfl rfl rfl (eN (sR fL3 rfl (zX rfl rfl rfl rfl rfl rfl (zX rfl rfl rfl rfl rfl bs (zY rfl rfl rfl rfl (fun _=>zV rfl rfl rfl) (eN (cT Z ag (rR (wGw (.fx 5 .nil .stop)) rfl (zX rfl rfl rfl rfl rfl cg (zX rfl rfl rfl rfl rfl bu (zX rfl rfl rfl rfl rfl rfl (zX rfl rfl rfl rfl rfl bs (zX rfl rfl rfl rfl rfl ci ?_))))))))))))))))))
 cases bJ
 have bM:=bh;rw [if_neg ag] at bM;replace ag:=zH ag
 refine cF Z ag (ZH (zZ ?_))
 have q:=wAc bM
 obtain ⟨cU,cJ,bZ⟩:=q
 have q:=cH cU bZ
 obtain rfl:=q
 refine zZ (zx ?_)
 have hE:=nB cJ;first | subst r | cases hE
 exact ⟨Z,_,(wNG),aq,_,bH,Z,Z,(bF.trans cu)⟩
theorem wCt (p0:List wAA) (ab:Option Addr) (ae:Nat) (p1:((wAA × wAA)->Option Int)) (ah:Value) (w:World) (U:PHeap) (hS:St0 w U [.row ab ae 86 3 (nA wAH p0)]) (ap:FnOK Tryz.prog U ah wQz wKE p1) {r:(List wAA)} (hm:wAb p0 p1=some r):Gv Tryz.prog 34 [.slice ab p0.length ae,ah] w (wBc w [.row ab ae 86 3 (nA wAH p0)] U (fun U_ L_ v=>v=.tuple #[]/\L_=[.row ab ae 86 3 (nA wAH r)]/\r.length=p0.length)):=by
 unfold wAb at hm
 refine Gv.of Tryz.func34 Z Tryz.ntmps34 Tryz.results34 Z (rR (wDo (.fx 4 .nil .stop)) Z (oM Z Z (oM Z Z (oR Z (zn Z Z ZP) (oM Z Z (bnK hm fun x2 h3 aq=>zL 1 Z Z Z Z (zK Z Z Tryz.call65 (zB Z (zB Z (zB Z zM))) Z) hS (fun hs=>wEO p0 ab ae (↑p0.length:Int) p1 ah w U hs ap h3) (.inl Z) ?_))))))
 rintro U5 L6 v7 W8 az an ⟨rfl,rfl,ak⟩
 have ao:SW w [.row ab ae 86 3 (nA wAH p0)] U U5 [.row ab ae 86 3 (nA wAH x2)] W8:=an
 refine zd ?_
 have hE:=nB aq;first | subst r | cases hE
 exact ⟨Z,_,(wNG),U5,_,ao,Z,Z,ak⟩
theorem wGS (p0:wAA) (p1:wAA) (w:World) (U:PHeap) (hS:St0 w U [])  {r:Int} (hm:wBI p0 p1=some r):Gv Tryz.prog 35 [.agg #[jV p0.Bib,jV p0.Place,jV p0.Total],.agg #[jV p1.Bib,jV p1.Place,jV p1.Total]] w (wBc w [] U (fun U_ L_ v=>v=jV r/\L_=[])):=by
 unfold wBI at hm
 refine Gv.of Tryz.func35 Z Tryz.ntmps35 Tryz.results35 Z (sR gDa Z ?_)
 let B0:List Value:=[jV p0.Bib,jV p0.Place,jV p0.Total]
 refine zq (cs:=B0) rfl rfl rfl rfl rfl rfl (by rfl) hS ?_
 intro W1 b2 au
 let B1:List Value:=[jV p1.Bib,jV p1.Place,jV p1.Total]
 refine zq (cs:=B1) rfl rfl rfl rfl rfl rfl (by rfl) au ?_
 intro W5 b6 ae
 refine oA Z Z (eN (sR (wDo (.fx 4 (.fl 5 .nil) .stop)) Z (oR Z (zF Z Z yE Z zC) (oL Z (ae.ldB (j:=1) Z Z Z zG (v:=jV p0.Total) Z) (oR Z (zF Z Z yE Z zC) (oL Z (ae.ldB (j:=0) Z Z Z zG (v:=jV p1.Total) Z) (bnK hm fun x9 ao av=>zL 0 Z Z Z Z (zK Z Z Tryz.call36 (zB Z (zB Z zM)) Z) ae (fun hs=>wCh p0.Total p1.Total W5 U hs ao) (.inr Z) ?_)))))))
 rintro ai az aX aj aW ap ⟨rfl,rfl⟩
 have aq:sW w U ai [.blk b6 86 B1,.blk b2 86 B0] aj:=ap
 refine oA Z Z (eN (zP ?_))
 have hE:=nB av;first | subst r | cases hE
 exact ⟨rfl,_,(zm rfl),ai,_,(aq.pick [] _ (by decide) rfl),rfl,rfl⟩
theorem wHP (p0:wBJ) (bB:Nat) (bp:Option Addr) (bq:Nat) (cd:Option Addr) (cg:Nat) (ci:Nat) (cZ:Array MapEntry) (da:Nat) (cj:Nat) (c8:Array MapEntry) (db:Nat) (p1:(wBJ × List Int × List (Int × Bool))) (pb1a:Nat) (pb1b:Nat) (pb1c:Nat) (pb1v:Nat) (pb1f:Nat) (pb1g:Nat) (pq1d:Nat) (pA1d_0_1:Option Addr) (pc1d_0_1:Nat) (pA1d_0_2:Option Addr) (pc1d_0_2:Nat) (pm1d_1:Nat) (pe1d_1:Array MapEntry) (pk1d_1:Nat) (pm1d_2:Nat) (pe1d_2:Array MapEntry) (pk1d_2:Nat) (pm1t:Nat) (pe1t:Array MapEntry) (pk1t:Nat) (pA1o:Option Addr) (pc1o:Nat) (w:World) (U:PHeap) (hS:St0 w U [.obj pm1t (.map pe1t pk1t)]) (cS:Cl U bB 0 [jV p0.Record.Deadline,.slice bp p0.Record.Skiers.length bq,.slice cd p0.Record.Decisions.length cg,.map (some ci),.map (some cj)]) (eV:Sl U 2 bp bq p0.Record.Skiers.length (nA wAO p0.Record.Skiers)) (fg:Sl U 6 cd cg p0.Record.Decisions.length (nA wAL p0.Record.Decisions)) (fh:MpF U ci cZ da wIw wKD p0.at_) (fj:MpF U cj c8 db wMA wMB p0.about) (fk:Cl U pb1a 0 [.map (some pm1t)]) (fm:Cl U pb1b 0 [.func (.func 37) #[.pointer (some ⟨pq1d,0,none⟩)] #[]]) (fq:Cl U pb1c 0 [.pointer (some ⟨pq1d,0,none⟩)]) (ft:Cl U pb1v 0 [.func (.func 39) #[] #[.pointer (some ⟨pb1a,0,none⟩),.pointer (some ⟨pb1b,0,none⟩),.pointer (some ⟨pb1c,0,none⟩),.pointer (some ⟨pb1v,0,none⟩)],.func (.func 41) #[] #[.pointer (some ⟨pb1f,0,none⟩)],.func (.func 42) #[] #[.pointer (some ⟨pb1v,0,none⟩),.pointer (some ⟨pb1g,0,none⟩)],.func (.func 45) #[] #[.pointer (some ⟨pb1v,0,none⟩)],.func (.func 43) #[] #[.pointer (some ⟨pb1f,0,none⟩)]]) (fu:Cl U pb1f 0 [.func (.func 38) #[] #[.pointer (some ⟨pb1c,0,none⟩),.pointer (some ⟨pb1v,0,none⟩)]]) (eW:Cl U pb1g 0 [.slice pA1o p1.2.1.length pc1o]) (eX:Cl U pq1d 0 [jV p1.1.Record.Deadline,.slice pA1d_0_1 p1.1.Record.Skiers.length pc1d_0_1,.slice pA1d_0_2 p1.1.Record.Decisions.length pc1d_0_2,.map (some pm1d_1),.map (some pm1d_2)]) (eY:Sl U 2 pA1d_0_1 pc1d_0_1 p1.1.Record.Skiers.length (nA wAO p1.1.Record.Skiers)) (eZ:Sl U 6 pA1d_0_2 pc1d_0_2 p1.1.Record.Decisions.length (nA wAL p1.1.Record.Decisions)) (fb:MpF U pm1d_1 pe1d_1 pk1d_1 wIw wKD p1.1.at_) (fc:MpF U pm1d_2 pe1d_2 pk1d_2 wMA wMB p1.1.about) (fd:MpR pe1t wKC wLB p1.2.2) (ff:Sl U 1 pA1o pc1o p1.2.1.length (nA KL.encI p1.2.1)) {r:(List wAA)} (hm:wDG p0 p1=some r):Gv Tryz.prog 18 [.pointer (some ⟨bB,0,none⟩),.agg #[.func (.func 39) #[] #[.pointer (some ⟨pb1a,0,none⟩),.pointer (some ⟨pb1b,0,none⟩),.pointer (some ⟨pb1c,0,none⟩),.pointer (some ⟨pb1v,0,none⟩)],.func (.func 41) #[] #[.pointer (some ⟨pb1f,0,none⟩)],.func (.func 42) #[] #[.pointer (some ⟨pb1v,0,none⟩),.pointer (some ⟨pb1g,0,none⟩)],.func (.func 45) #[] #[.pointer (some ⟨pb1v,0,none⟩)],.func (.func 43) #[] #[.pointer (some ⟨pb1f,0,none⟩)]]] w (wBc w [.obj pm1t (.map pe1t pk1t)] U (fun U_ L_ v=>∃ (A0:Option Addr) (c0:Nat),v=.slice A0 r.length c0/\L_=[.row A0 c0 86 3 (nA wAH r),.obj pm1t (.map pe1t pk1t)])):=by
 unfold wDG at hm
 refine Gv.of Tryz.func18 Z Tryz.ntmps18 Tryz.results18 Z (sR gCr Z ?_)
 let B0:List Value:=[.func (.func 39) #[] #[.pointer (some ⟨pb1a,0,none⟩),.pointer (some ⟨pb1b,0,none⟩),.pointer (some ⟨pb1c,0,none⟩),.pointer (some ⟨pb1v,0,none⟩)],.func (.func 41) #[] #[.pointer (some ⟨pb1f,0,none⟩)],.func (.func 42) #[] #[.pointer (some ⟨pb1v,0,none⟩),.pointer (some ⟨pb1g,0,none⟩)],.func (.func 45) #[] #[.pointer (some ⟨pb1v,0,none⟩)],.func (.func 43) #[] #[.pointer (some ⟨pb1f,0,none⟩)]]
 refine zq (cs:=B0) rfl rfl rfl rfl rfl rfl (by rfl) hS ?_
 intro W2 b3 cQ
 refine oA Z Z (eN (sR fL2 Z (oA Z Z (oA Z Z (eN (zJ (sR fL7 Z (oM Z Z (oR Z (Zd Z Z) (oR Z (zF Z Z Tryz.runUnderlying117 Z Zg) (oR Z (zF Z Z ZF Z yL) (oL Z (cQ.ldC (f:=1) cS (v:=.slice bp p0.Record.Skiers.length bq) Z Z yh Z) (oR Z (zn Z Z Zf) (oM Z Z (eN (zS ?_))))))))))))))))
 have q:=bnd hm
 obtain ⟨⟨br,bC⟩,fz,cW⟩:=q
 try dsimp only at cW
 have q:=wBM fz
 obtain ⟨bY,fA⟩:=q
 replace bY:=zH bY
 refine CK.forN' (fun bk (bm,bn) σ_ w_=>∃ (U_:PHeap) (bb:Option Addr) (bh:Nat) (be:Option Addr) (bi:Nat),σ_ 18=jV (↑bk:Int)/\σ_ 0=.pointer (some ⟨bB,0,none⟩)/\σ_ 3=.pointer (some ⟨b3,0,none⟩)/\σ_ 5=.slice bb bm.length bh/\σ_ 6=.slice be bn.length bi/\σ_ 16=.slice bp p0.Record.Skiers.length bq/\σ_ 17=jV (↑p0.Record.Skiers.length:Int)/\PHeap.Le U U_/\SW w [.obj pm1t (.map pe1t pk1t)] U U_ [.blk b3 82 B0,.obj pm1t (.map pe1t pk1t),.row bb bh 86 3 (nA wAH bm),.row be bi 86 3 (nA wAH bn)] w_) fA ?_ ?_ ?_
 have eM:=cQ.nilrow 86 3
 have eO:=eM.nilrow 86 3
 exact ⟨U,none,0,none,0,rfl,rfl,rfl,rfl,rfl,rfl,rfl,(zN _),(eO.pick [2,3,1,0] _ (by decide) rfl)⟩
 rintro bk ⟨bm,bn⟩ gD gH gg bW ⟨bH,bb,bh,be,bi,bu,bO,bP,cI,cJ,bQ,bR,ai,cR⟩ cX
 try dsimp only at cX
 have cH:Hid ((↑bk:Int) < (↑p0.Record.Skiers.length:Int)):=zH (wBG bW)
 replace bW:=zH bW
 have cU:Hid (w64 ((↑bk:Int) + 1)=(↑(bk + 1):Int)):=zH (by have h1:=bY.out;have h2:=cH.out;rw [wAX] <;> omega)
 refine sR fL1 Z (oR Z (zV Z bu bR) (eN (zJ (cT Z cH (kN (zJ (zS (sR gDe Z (bnK cX fun x67 cK fW=>?_)))))))))
 have cL:=eV.le ai
 have q:=cL.el (fun _=>rfl) (wAj cK)
 obtain ⟨gj,gz,d7,d9⟩:=q
 refine oR Z (ZV Z bQ d7 bu Zf Zu (wCZ cK)) (oL Z (cR.ldCA (f:=0) d9 Z Z Tryz.isAgg39 Zu (us:=[jV x67.Bib,jV x67.Time]) Z Z) (zg (cs:=[jV 0,jV 0]) Z Z Z Z Z Tryz.zeroValue39 Z cR ?_))
 intro gh az eQ
 let B1:List Value:=[jV x67.Bib,jV x67.Time]
 refine zh (j:=0) (vs:=B1) Z Z Z Z eQ Z Z Z Z Zu (zA Z) Z Z Z ?_
 intro bJ eU
 let B2:Res:=.row bb bh 86 3 (nA wAH bm)
 let B3:Res:=.row be bi 86 3 (nA wAH bn)
 have bU:SW w [.obj pm1t (.map pe1t pk1t)] U bH [.blk az 39 B1,.blk b3 82 B0,.obj pm1t (.map pe1t pk1t),B2,B3] bJ:=eU
 refine eN (sR (wEQ (.fx 3 (fC4_8 (.nil)) .stop)) Z (oM Z bO (oL Z (bU.ldBA (j:=0) Z Z Z Tryz.isAgg39 Zu (vs:=B1) Z Z) (oL Z (bU.ldBA (j:=1) Z Z bP Tryz.isAgg82 Tryz.sizeOf82 (vs:=B0) Z Z) ?_))))
 have dL:=cS.le ai
 have dM:=fg.le ai
 have dN:=fh.le ai
 have dO:=fj.le ai
 have dP:=fk.le ai
 have dQ:=fm.le ai
 have dR:=fq.le ai
 have dS:=ft.le ai
 have dT:=fu.le ai
 have dU:=eW.le ai
 have dV:=eX.le ai
 have dW:=eY.le ai
 have dX:=eZ.le ai
 have dY:=fb.le ai
 have dZ:=fc.le ai
 have d5:=ff.le ai
 have q:=bnd fW
 obtain ⟨⟨x98,x99⟩,dG,cV⟩:=q
 try dsimp only at cV
 have eh:SW w [.obj pm1t (.map pe1t pk1t)] U bH [.obj pm1t (.map pe1t pk1t),.blk az 39 B1,.blk b3 82 B0,B2,B3] bJ:=bU.pick [2,0,1,3,4] _ (by decide) rfl
 refine zL 1 Z Z Z Z (zK Z Z Tryz.call33 (zB Z (zB Z (zB Z zM))) Z) eh (fun hs=>wHi p0 bB bp bq cd cg ci cZ da cj c8 db x67 (p1.1,p1.2.1,p1.2.2) pb1a pb1b pb1c pb1v pb1f pb1g pq1d pA1d_0_1 pc1d_0_1 pA1d_0_2 pc1d_0_2 pm1d_1 pe1d_1 pk1d_1 pm1d_2 pe1d_2 pk1d_2 pm1t pe1t pk1t pA1o pc1o bJ bH hs dL cL dM dN dO dP dQ dR dS dT dU dV dW dX dY dZ fd d5 dG) (.inl Z) ?_
 rintro av f5 gA dg cY en ⟨rfl,rfl⟩
 have bz:SW w [.obj pm1t (.map pe1t pk1t)] U av [.obj pm1t (.map pe1t pk1t),.blk az 39 B1,.blk b3 82 B0,B2,B3] dg:=en
 refine oM Z Z (oR Z (zw Z Z (v:=jV x98) Z) (oR Z (zw Z Z (v:=.bool x99) Z) (oA Z Z (oA Z Z (eN (sR fL1 Z (oM Z Z (eN (ifc cV ?_ ?_)))))))))
 intro bK fH
 refine zo (congrArg nG bK.out) (rR (wDo (.fx 4 (.fx 5 (.fl 6 .nil) .stop) .stop)) Z (oM Z cJ (oR Z (zF Z Z Zp Z zC) (oL Z (bz.ldB (j:=1) Z Z Z zG (v:=jV x67.Bib) Z) ?_))))
 let B4:List Value:=[jV x67.Bib,jV (-1),jV 0]
 let B5:List Value:=[jV 0,jV 0,jV 0]
 refine oR Z (ZN (pv:=[(0,jV x67.Bib),(1,jV (-1))]) (z:=B5) (cs:=B4) Z (wAG Z (wAG Z wAZ)) Tryz.zeroValue86 wMq Z Z) (ZL (pv:=[(0,.agg B4.toArray)]) (zs:=B5) (cs:=B4) Z Z Z Z Z (wAG Z wAZ) ZP Zc Tryz.zeroValue86 Z Z Z Z Z bz ?_)
 intro dh dv er
 let B6:Res:=.row (some ⟨dv,0,none⟩) 1 86 3 (nA wAH [(⟨x67.Bib,-1,0⟩:wAA)])
 have cM:SW w [.obj pm1t (.map pe1t pk1t)] U av [B6,.obj pm1t (.map pe1t pk1t),.blk az 39 B1,.blk b3 82 B0,B2,B3] dh:=er
 refine bnK fH fun x117 dH fJ=>Zq (j:=5) (enc:=wAH) (xs:=bn) (ys:=[(⟨x67.Bib,-1,0⟩:wAA)]) (zs:=x117) rfl rfl rfl rfl rfl Tryz.underlying45 wPe rfl rfl rfl rfl rfl rfl cM rfl rfl rfl (cM.srcR (j:=0) rfl (by decide) (wAC (f:=wAH) (sz:=3) (fun _=>rfl) [(⟨x67.Bib,-1,0⟩:wAA)])) (fun _=>rfl) (fun _=>rfl) dH rfl ?_
 intro cn cB dm eu
 have ew:SW w [.obj pm1t (.map pe1t pk1t)] U av [B6,.obj pm1t (.map pe1t pk1t),.blk az 39 B1,.blk b3 82 B0,B2,.row cn cB 86 3 (nA wAH x117)] dm:=eu
 refine oA Z Z (zd (zf (zI (rR fL2 Z (oR Z (zt (zU Z bu Z) (congrArg (jV) cU.out)) (oM Z Z (zd ?_)))))))
 cases fJ
 exact zI ⟨rfl,⟨av,bb,bh,cn,cB,rfl,bO,bP,cI,rfl,bQ,bR,(ai.trans cY),(ew.pick [3,1,4,5] _ (by decide) rfl)⟩⟩
 intro bK fK
 refine zu (congrArg nG (nK.2 bK.out)) (rR (wGw gDb) Z (oM Z cI (oR Z (zF Z Z Zp Z zC) (oL Z (bz.ldB (j:=1) Z Z Z zG (v:=jV x67.Bib) Z) (oM Z Z ?_)))))
 let B7:List Value:=[jV x67.Bib,jV 0,jV x98]
 let B8:List Value:=[jV 0,jV 0,jV 0]
 refine oR Z (ZN (pv:=[(0,jV x67.Bib),(2,jV x98)]) (z:=B8) (cs:=B7) Z (wAG Z (wAG Z wAZ)) Tryz.zeroValue86 wMq Z Z) (ZL (pv:=[(0,.agg B7.toArray)]) (zs:=B8) (cs:=B7) Z Z Z Z Z (wAG Z wAZ) ZP Zc Tryz.zeroValue86 Z Z Z Z Z bz ?_)
 intro dp dw ey
 let B9:Res:=.row (some ⟨dw,0,none⟩) 1 86 3 (nA wAH [(⟨x67.Bib,0,x98⟩:wAA)])
 have cN:SW w [.obj pm1t (.map pe1t pk1t)] U av [B9,.obj pm1t (.map pe1t pk1t),.blk az 39 B1,.blk b3 82 B0,B2,B3] dp:=ey
 refine bnK fK fun x137 dI fL=>Zq (j:=4) (enc:=wAH) (xs:=bm) (ys:=[(⟨x67.Bib,0,x98⟩:wAA)]) (zs:=x137) rfl rfl rfl rfl rfl Tryz.underlying45 wPe rfl rfl rfl rfl rfl rfl cN rfl rfl rfl (cN.srcR (j:=0) rfl (by decide) (wAC (f:=wAH) (sz:=3) (fun _=>rfl) [(⟨x67.Bib,0,x98⟩:wAA)])) (fun _=>rfl) (fun _=>rfl) dI rfl ?_
 intro cp cC dq ez
 have eA:SW w [.obj pm1t (.map pe1t pk1t)] U av [B9,.obj pm1t (.map pe1t pk1t),.blk az 39 B1,.blk b3 82 B0,.row cp cC 86 3 (nA wAH x137),B3] dq:=ez
 refine oA Z Z (zd (zf (zI (rR fL2 Z (oR Z (zt (zU Z bu Z) (congrArg (jV) cU.out)) (oM Z Z (zd ?_)))))))
 cases fL
 exact zI ⟨rfl,⟨av,cp,cC,be,bi,rfl,bO,bP,rfl,cJ,bQ,bR,(ai.trans cY),(eA.pick [3,1,4,5] _ (by decide) rfl)⟩⟩
 rintro gE cz ⟨bF,ae,ag,cq,cD,dE,gm,gq,bM,dz,gt,dA,gv,eB⟩
 have dx:Hid (¬ ((↑(((↑p0.Record.Skiers.length:Int):Int) - 0).toNat:Int) < (↑p0.Record.Skiers.length:Int))):=zH (wAq)
 refine sR fL1 Z (oR Z (zV Z dE dA) (eN (zJ (cF Z dx (ZH (zZ (zZ (zx (zI (sR gCt Z (oM Z bM ?_)))))))))))
 have ef:FnOK Tryz.prog bF (.func (.func 35) #[] #[]) wQz wKE (fun x=>wBI x.1 x.2):=⟨35,[],[],rfl,Tryz.call35,fun U1 w1 x y vs le hs ha hm=>by obtain rfl:=ha;exact wGS x.1 x.2 w1 U1 hs  hm⟩
 refine bnK cW fun aX dJ fM=>?_
 let aY:Res:=.row cq cD 86 3 (nA wAH bC)
 have eD:SW w [.obj pm1t (.map pe1t pk1t)] U bF [.row ae ag 86 3 (nA wAH br),.blk b3 82 B0,.obj pm1t (.map pe1t pk1t),aY] cz:=eB.pick [2,0,1,3] _ (by decide) rfl
 refine zL 1 Z Z Z Z (zK Z Z Tryz.call34 (zB Z (zB Z zM)) Z) eD (fun hs=>wCt br ae ag (fun x=>wBI x.1 x.2) (.func (.func 35) #[] #[]) cz bF hs ef dJ) (.inl Z) ?_
 rintro bG f7 gB dr gw eE ⟨rfl,rfl,bS⟩
 have eF:SW w [.obj pm1t (.map pe1t pk1t)] U bG [.row ae ag 86 3 (nA wAH aX),.blk b3 82 B0,.obj pm1t (.map pe1t pk1t),aY] dr:=eE
 refine eN (zJ (sR fL3 rfl (zX rfl rfl rfl rfl rfl (nM (b:=(.slice ae br.length ag:Value)) (c:=(.slice ae aX.length ag:Value)) bM (by rw [bS])) (zY rfl rfl rfl rfl (fun _=>zn rfl rfl ZP) (zX rfl rfl rfl rfl rfl rfl (eN (zS (bnK fM fun f4 fw fN=>?_))))))))
 have q:=wBM fw
 obtain ⟨bX,fy⟩:=q
 replace bX:=zH bX
 refine CK.forN' (fun aa ab σ_ w_=>∃ (U_:PHeap),σ_ 48=jV (↑aa:Int)/\σ_ 5=.slice ae ab.length ag/\σ_ 6=.slice cq bC.length cD/\σ_ 47=jV (↑aX.length:Int)/\PHeap.Le bG U_/\SW w [.obj pm1t (.map pe1t pk1t)] U U_ [.blk b3 82 B0,.obj pm1t (.map pe1t pk1t),.row ae ag 86 3 (nA wAH ab),aY] w_/\ab.length=br.length) fy ?_ ?_ ?_
 exact ⟨bG,rfl,(nM (b:=(.slice ae br.length ag:Value)) (c:=(.slice ae aX.length ag:Value)) bM (by rw [bS])),dz,rfl,(zN _),(eF.pick [1,2,0,3] _ (by decide) rfl),bS⟩
 rintro aa ab gC gF ga bV ⟨bg,bj,aq,bN,bs,bZ,cO,bT⟩ fY
 have cE:Hid ((↑aa:Int) < (↑aX.length:Int)):=zH (wBG bV)
 replace bV:=zH bV
 have bA:Hid (w64 ((↑aa:Int) + 1)=(↑(aa + 1):Int)):=zH (by have h1:=bX.out;have h2:=cE.out;rw [wAX] <;> omega)
 refine sR fL1 Z (oR Z (zV Z bj bs) (eN (zJ (cT Z cE (kN (zJ (zS (sR fL2 Z (oM Z bj (oA Z Z (eN (sR (wJO (.fx 6 .nil .stop)) Z (oM Z aq (oM Z Z (oM Z Z (oR Z (zt (zU Z Z Z) (congrArg (jV) bA.out)) (bnK fY fun _ bw fO=>?_)))))))))))))))))
 have q:=cO.rowSome (j:=2) rfl (by rw [wAC (f:=wAH) (sz:=3) (fun _=>rfl) ab];have hz:=wAT bw;omega)
 obtain ⟨gi,ao⟩:=q
 refine oR Z (ZV Z Z ao Z ZP Zc (wAT bw)) (oR Z (zF Z Z yE Z zC) ?_)
 have fB:=wBb (xs:=ab) (wAT bw)
 refine yd (j:=2) (vs:=[jV (↑(aa + 1):Int)]) (cs':=nA wAH (nE ab aa (⟨(gd ab aa).Bib,(↑(aa + 1):Int),(gd ab aa).Total⟩:wAA))) rfl rfl rfl rfl cO rfl ao rfl rfl rfl zC (by rw [wAC (f:=wAH) (sz:=3) (fun _=>rfl)];have hz:=wAT bw;show _ + 1 <= _;first | omega | (simp only [nL];omega) | (simp only [nJ,nH,nI];omega)) rfl (wCo (sz:=3) (fo:=1) (fun _=>rfl) _ _ _ _ fB (by first | omega | (simp only [nL];omega) | (simp only [nJ,nH,nI];omega)) (zA rfl) rfl) rfl ?_
 intro bI eG
 have eH:SW w [.obj pm1t (.map pe1t pk1t)] U bg [.blk b3 82 B0,.obj pm1t (.map pe1t pk1t),.row ae ag 86 3 (nA wAH (nE ab aa (⟨(gd ab aa).Bib,(↑(aa + 1):Int),(gd ab aa).Total⟩:wAA))),aY] bI:=eG
 refine eN (zJ (ZO zz [3,3,3,3,3,3,3,1,3,3,3,3,3,1,3,3] fL16 (by kernel_rfl) ?_))
 have aW:=eH.drew
 generalize hw_W225:({ bI with drawn:=bI.drawn + 1 }:World)=ge at aW ⊢
 refine oM Z Z (oR Z (yG Z Z Z) (oM Z Z (ifc fO ?_ ?_)))
 intro ah fP
 refine zX rfl rfl rfl (zQ rfl rfl (ZU ah.out)) rfl (nM (b:=(.slice ae ab.length ag:Value)) (c:=(.slice ae ((nE ab aa (⟨(gd ab aa).Bib,(↑(aa + 1):Int),(gd ab aa).Total⟩:wAA)).length) ag:Value)) aq (by simp only [nD])) (zX rfl rfl rfl (zQ rfl rfl (ZU ah.out)) rfl rfl (bnK fP fun _ aV fQ=>zY rfl rfl rfl (zQ rfl rfl (ZU ah.out)) (fun _=>ZV rfl rfl ao rfl ZP Zc (wAT aV)) (zY rfl rfl rfl (zQ rfl rfl (ZU ah.out)) (fun _=>zF rfl rfl yE rfl zC) ?_)))
 have fC:=wBb (xs:=(nE ab aa (⟨(gd ab aa).Bib,(↑(aa + 1):Int),(gd ab aa).Total⟩:wAA))) (by first | exact wAT aV | (have hz:=wAT aV;simpa only [nD] using hz))
 refine ZC rfl rfl rfl (zQ rfl rfl (ZU ah.out)) (aW.ldR (j:=2) rfl ao rfl rfl zG (wAa (sz:=3) (fun _=>rfl) _ _ 2 _ fC (by first | omega | rfl | simp) rfl)) rfl (zX rfl rfl rfl (zQ rfl rfl (ZU ah.out)) rfl (nM (b:=(.slice ae ab.length ag:Value)) (c:=(.slice ae ((nE ab aa (⟨(gd ab aa).Bib,(↑(aa + 1):Int),(gd ab aa).Total⟩:wAA)).length) ag:Value)) aq (by simp only [nD])) (zX rfl rfl rfl (zQ rfl rfl (ZU ah.out)) rfl rfl (zY rfl rfl rfl (zQ rfl rfl (ZU ah.out)) (fun _=>Zk rfl rfl rfl) (bnK fQ fun _ au fR=>zY rfl rfl rfl (zQ rfl rfl (ZU ah.out)) (fun _=>ZA rfl rfl ao rfl ZP Zc (wBP au) (wBQ au)) (zY rfl rfl rfl (zQ rfl rfl (ZU ah.out)) (fun _=>zF rfl rfl yE rfl zC) ?_)))))
 have fD:=wBb (xs:=(nE ab aa (⟨(gd ab aa).Bib,(↑(aa + 1):Int),(gd ab aa).Total⟩:wAA))) (by first | exact wAT au | (have hz:=wAT au;simpa only [nD] using hz))
 refine ZC rfl rfl rfl (zQ rfl rfl (ZU ah.out)) (aW.ldR (j:=2) rfl ao rfl rfl zG (wAa (sz:=3) (fun _=>rfl) _ _ 2 _ fD (by first | omega | rfl | simp) rfl)) rfl (zY rfl rfl rfl (zQ rfl rfl (ZU ah.out)) (fun _=>yO rfl rfl rfl) (zY rfl rfl rfl rfl (fun _=>zb rfl (ZU ah.out) rfl) (eN (ifc fR ?_ ?_))))
 intro bL fS
 refine cT Z bL (rR (wRU (.fx 10 .nil .stop)) rfl (zX rfl rfl rfl rfl rfl (nM (b:=(.slice ae ab.length ag:Value)) (c:=(.slice ae ((nE ab aa (⟨(gd ab aa).Bib,(↑(aa + 1):Int),(gd ab aa).Total⟩:wAA)).length) ag:Value)) aq (by simp only [nD])) (zX rfl rfl rfl rfl rfl rfl (zX rfl rfl rfl rfl rfl (nM (b:=(.slice ae ab.length ag:Value)) (c:=(.slice ae ((nE ab aa (⟨(gd ab aa).Bib,(↑(aa + 1):Int),(gd ab aa).Total⟩:wAA)).length) ag:Value)) aq (by simp only [nD])) (zX rfl rfl rfl rfl rfl rfl (zY rfl rfl rfl rfl (fun _=>Zk rfl rfl rfl) (zY rfl rfl rfl rfl (fun _=>ZA rfl rfl ao rfl ZP Zc (wBP au) (wBQ au)) (zY rfl rfl rfl rfl (fun _=>zF rfl rfl yE rfl zC) ?_))))))))
 have fE:=wBb (xs:=(nE ab aa (⟨(gd ab aa).Bib,(↑(aa + 1):Int),(gd ab aa).Total⟩:wAA))) (by first | exact wAT au | (have hz:=wAT au;simpa only [nD] using hz))
 refine ZC rfl rfl rfl rfl (aW.ldR (j:=2) rfl ao rfl rfl zG (wAa (sz:=3) (fun _=>rfl) _ _ 1 _ fE (by first | omega | rfl | simp) rfl)) rfl (zY rfl rfl rfl rfl (fun _=>ZV rfl rfl ao rfl ZP Zc (wAT aV)) (zY rfl rfl rfl rfl (fun _=>zF rfl rfl yE rfl zC) ?_))
 have fG:=wBb (xs:=(nE ab aa (⟨(gd ab aa).Bib,(↑(aa + 1):Int),(gd ab aa).Total⟩:wAA))) (by first | exact wAT aV | (have hz:=wAT aV;simpa only [nD] using hz))
 refine yd (j:=2) (vs:=[jV ((gd (nE ab aa (⟨(gd ab aa).Bib,(↑(aa + 1):Int),(gd ab aa).Total⟩:wAA)) (w64 ((↑aa:Int) - 1)).toNat).Place)]) (cs':=nA wAH (nE (nE ab aa (⟨(gd ab aa).Bib,(↑(aa + 1):Int),(gd ab aa).Total⟩:wAA)) aa (⟨(gd (nE ab aa (⟨(gd ab aa).Bib,(↑(aa + 1):Int),(gd ab aa).Total⟩:wAA)) aa).Bib,(gd (nE ab aa (⟨(gd ab aa).Bib,(↑(aa + 1):Int),(gd ab aa).Total⟩:wAA)) (w64 ((↑aa:Int) - 1)).toNat).Place,(gd (nE ab aa (⟨(gd ab aa).Bib,(↑(aa + 1):Int),(gd ab aa).Total⟩:wAA)) aa).Total⟩:wAA))) rfl rfl rfl rfl aW rfl ao rfl rfl rfl zC (by rw [wAC (f:=wAH) (sz:=3) (fun _=>rfl)];have hz:=wAT aV;show _ + 1 <= _;first | omega | (simp only [nD];omega) | (simp only [nJ,nH,nI,nD];omega) | (simp only [nL];omega) | (simp only [nJ,nH,nI];omega)) rfl (wCo (sz:=3) (fo:=1) (fun _=>rfl) _ _ _ _ fG (by first | omega | (simp only [nL];omega) | (simp only [nJ,nH,nI];omega)) (zA rfl) rfl) rfl ?_
 intro dt eI
 have eJ:SW w [.obj pm1t (.map pe1t pk1t)] U bg [.blk b3 82 B0,.obj pm1t (.map pe1t pk1t),.row ae ag 86 3 (nA wAH (nE (nE ab aa (⟨(gd ab aa).Bib,(↑(aa + 1):Int),(gd ab aa).Total⟩:wAA)) aa (⟨(gd (nE ab aa (⟨(gd ab aa).Bib,(↑(aa + 1):Int),(gd ab aa).Total⟩:wAA)) aa).Bib,(gd (nE ab aa (⟨(gd ab aa).Bib,(↑(aa + 1):Int),(gd ab aa).Total⟩:wAA)) (w64 ((↑aa:Int) - 1)).toNat).Place,(gd (nE ab aa (⟨(gd ab aa).Bib,(↑(aa + 1):Int),(gd ab aa).Total⟩:wAA)) aa).Total⟩:wAA))),aY] dt:=eI
 refine zd (zf (zI (rR fL2 Z (oR Z (zt (zU Z bj Z) (congrArg (jV) bA.out)) (oM Z Z (zd ?_))))))
 cases fS
 exact zI ⟨rfl,⟨bg,rfl,(nM (b:=(.slice ae ((nE ab aa (⟨(gd ab aa).Bib,(↑(aa + 1):Int),(gd ab aa).Total⟩:wAA)).length) ag:Value)) (c:=(.slice ae ((nE (nE ab aa (⟨(gd ab aa).Bib,(↑(aa + 1):Int),(gd ab aa).Total⟩:wAA)) aa (⟨(gd (nE ab aa (⟨(gd ab aa).Bib,(↑(aa + 1):Int),(gd ab aa).Total⟩:wAA)) aa).Bib,(gd (nE ab aa (⟨(gd ab aa).Bib,(↑(aa + 1):Int),(gd ab aa).Total⟩:wAA)) (w64 ((↑aa:Int) - 1)).toNat).Place,(gd (nE ab aa (⟨(gd ab aa).Bib,(↑(aa + 1):Int),(gd ab aa).Total⟩:wAA)) aa).Total⟩:wAA)).length) ag:Value)) (nM (b:=(.slice ae ab.length ag:Value)) (c:=(.slice ae ((nE ab aa (⟨(gd ab aa).Bib,(↑(aa + 1):Int),(gd ab aa).Total⟩:wAA)).length) ag:Value)) aq (by simp only [nD])) (by simp only [nD])),bN,bs,bZ,eJ,((nD.trans nD).trans bT)⟩⟩
 intro bL fT
 refine cF Z bL (Ze (zf (zI (rR fL2 Z (oR Z (zt (zU Z bj Z) (congrArg (jV) bA.out)) (oM Z Z (zd ?_)))))))
 cases fT
 exact zI ⟨rfl,⟨bg,rfl,(nM (b:=(.slice ae ab.length ag:Value)) (c:=(.slice ae ((nE ab aa (⟨(gd ab aa).Bib,(↑(aa + 1):Int),(gd ab aa).Total⟩:wAA)).length) ag:Value)) aq (by simp only [nD])),bN,bs,bZ,aW,(nD.trans bT)⟩⟩
 intro ah fU
 refine oF Z ah (oF Z ah (oF Z ah (oF Z ah (oF Z ah (oF Z ah (oF Z ah (oF Z ah (oF Z ah (oF Z ah (oF Z ah (oF Z ah (oR Z (zi Z (ZT ah.out) Z) (eN (zu Z (Ze (zf (zI (rR fL2 Z (oR Z (zt (zU Z bj Z) (congrArg (jV) bA.out)) (oM Z Z (zd ?_)))))))))))))))))))))
 cases fU
 exact zI ⟨rfl,⟨bg,rfl,(nM (b:=(.slice ae ab.length ag:Value)) (c:=(.slice ae ((nE ab aa (⟨(gd ab aa).Bib,(↑(aa + 1):Int),(gd ab aa).Total⟩:wAA)).length) ag:Value)) aq (by simp only [nD])),bN,bs,bZ,aW,(nD.trans bT)⟩⟩
 rintro gG gf ⟨cy,dF,dB,dC,dD,gy,cP,gu⟩
 have dy:Hid (¬ ((↑(((↑aX.length:Int):Int) - 0).toNat:Int) < (↑aX.length:Int))):=zH (wAq)
 refine sR fL1 rfl (zY rfl rfl rfl rfl (fun _=>zV rfl dF dD) (eN (zJ (cF Z dy (ZH (zZ (zZ (zx (zI (sR gDf rfl (zX rfl rfl rfl rfl rfl dB (zX rfl rfl rfl rfl rfl dC (bnK fN fun de dK fV=>Zq (j:=2) (enc:=wAH) (xs:=f4) (ys:=bC) (zs:=de) rfl rfl rfl rfl rfl Tryz.underlying45 wPe rfl rfl rfl rfl rfl rfl cP rfl rfl rfl (cP.srcR (j:=3) rfl (by decide) (wAC (f:=wAH) (sz:=3) (fun _=>rfl) bC)) (fun _=>rfl) (fun _=>rfl) dK rfl ?_)))))))))))))
 intro cr cG du eK
 have eL:SW w [.obj pm1t (.map pe1t pk1t)] U cy [.blk b3 82 B0,.obj pm1t (.map pe1t pk1t),.row cr cG 86 3 (nA wAH de),aY] du:=eK
 refine oA Z Z (eN (zP ?_))
 have hE:=nB fV;first | subst r | cases hE
 exact ⟨rfl,_,(zm rfl),cy,_,(eL.pick [2,1] _ (by decide) rfl),cr,cG,rfl,rfl⟩
set_option maxHeartbeats 4000000
theorem wKK (p0:wAU) (ba:Option Addr) (be:Nat) (bb:Option Addr) (bg:Nat) (w:World) (U:PHeap) (hS:St0 w U []) (cW:Sl U 2 ba be p0.Skiers.length (nA wAO p0.Skiers)) (cX:Sl U 6 bb bg p0.Decisions.length (nA wAL p0.Decisions)) {r:(List wAA) × Int} (hm:wCq p0=some r):Gv Tryz.prog 8 [.agg #[jV p0.Deadline,.slice ba p0.Skiers.length be,.slice bb p0.Decisions.length bg]] w (wBc w [] U (fun U_ L_ v=>∃ (A0:Option Addr) (c0:Nat),v=.tuple #[.slice A0 r.1.length c0,jV r.2]/\L_=[.row A0 c0 86 3 (nA wAH r.1)])):=by
 unfold wCq at hm
 refine Gv.of Tryz.func8 Z Tryz.ntmps8 Tryz.results8 Z (sR gDc Z ?_)
 let B0:List Value:=[jV p0.Deadline,.slice ba p0.Skiers.length be,.slice bb p0.Decisions.length bg]
 refine zq (cs:=B0) rfl rfl rfl rfl rfl rfl (by rfl) hS ?_
 intro W1 b2 bM
 refine oA Z Z (oA Z Z (eN (sR (.fl 0 (.fx 1 (wRV (.nil)) .stop)) Z (oL Z (bM.ldBA (j:=0) Z Z Z yS Zg (vs:=B0) Z Z) ?_))))
 have q:=bnd hm
 obtain ⟨⟨x5,x6⟩,h7,az⟩:=q
 try dsimp only at az
 refine zL 0 Z Z Z Z (zK Z Z Tryz.call17 (zB Z zM) Z) bM (fun hs=>wLK p0 ba be bb bg W1 U hs cW cX h7) (.inr Z) ?_
 rintro U9 dq dw ah dv bL bK
 rcases x5 with _ | x27
 try dsimp only at az
 obtain ⟨rfl,rfl⟩:=bK
 have cK:sW w U U9 [.blk b2 37 B0] ah:=bL
 refine oM Z Z (oR Z (zw Z Z (v:=.pointer none) Z) (oR Z (zw Z Z (v:=jV x6) Z) (oA Z Z (oA Z Z (eN (zJ (sR fL2 Z (oM Z Z (oR Z (Zz Z Z Z) (eN (ifc az ?_ ?_)))))))))))
 intro bi db
 refine zu (ZT (fun h=>h bi.out)) (kN (sR gDh Z (oM Z Z (oM Z Z ?_))))
 cases db
 intro bi de
 refine cT Z bi (sR fL3 Z (oM Z Z (oA Z Z (oA Z Z (eN (zP (zR ?_)))))))
 have cL:=cK.nilrow 86 3
 cases de
 exact ⟨rfl,_,(wGV rfl rfl),U9,_,(cL.pick [0] _ (by decide) rfl),none,0,rfl,rfl⟩
 try dsimp only at az
 obtain ⟨ae,ao,aq,aW,aY,an,av,au,ai,ak,aj,rfl,rfl,ci,cj,cm⟩:=bK
 let B1:List Value:=[jV x27.Record.Deadline,.slice ao x27.Record.Skiers.length aq,.slice aW x27.Record.Decisions.length aY,.map (some an),.map (some ai)]
 have bN:sW w U U9 [.blk ae 117 B1,.row ao aq 39 2 (nA wAO x27.Record.Skiers),.obj an (.map av au),.obj ai (.map ak aj),.blk b2 37 B0] ah:=bL
 refine oM Z Z (oR Z (zw Z Z (v:=.pointer (some ⟨ae,0,none⟩)) Z) (oR Z (zw Z Z (v:=jV x6) Z) (oA Z Z (oA Z Z (eN (zJ (sR fL2 Z (oM Z Z (oR Z (Zz Z Z Z) (eN (ifc az ?_ ?_)))))))))))
 intro bj df
 refine zu (ZT (fun h=>h bj.out)) (kN (sR gDh Z (oM Z Z (oM Z Z ?_))))
 have q:=bN.freezeR (k:=1) (n:=x27.Record.Skiers.length) rfl (wAC (f:=wAO) (sz:=2) (fun _=>rfl) x27.Record.Skiers) (by decide)
 obtain ⟨bQ,dm,dh,cN⟩:=q
 have cO:sW w U bQ [.blk ae 117 B1,.obj an (.map av au),.obj ai (.map ak aj),.blk b2 37 B0] ah:=cN
 have q:=cO.freezeM (k:=1) rfl cj
 obtain ⟨bR,bO,cY,cP⟩:=q
 have cQ:sW w U bR [.blk ae 117 B1,.obj ai (.map ak aj),.blk b2 37 B0] ah:=cP
 have q:=cQ.freezeM (k:=1) rfl cm
 obtain ⟨bS,bn,cZ,cR⟩:=q
 have cS:sW w U bS [.blk ae 117 B1,.blk b2 37 B0] ah:=cR
 have q:=cS.freeze (k:=0) rfl
 obtain ⟨bh,aZ,am,cM⟩:=q
 replace am:=Cl.of am
 have cU:sW w U bh [.blk b2 37 B0] ah:=cM
 replace am:Cl bh ae 0 B1:=am
 have cn:=dh.le bO
 have cp:=cn.le bn
 have bG:=cp.le aZ
 have cq:=ci.le dm
 have cr:=cq.le bO
 have ct:=cr.le bn
 have bH:=ct.le aZ
 have cw:=cY.le bn
 have bI:=cw.le aZ
 have bJ:=cZ.le aZ
 refine bnK df fun x74 cx dg=>zL 0 rfl rfl rfl rfl (zK rfl rfl Tryz.call19 (zB rfl (zB rfl zM)) rfl) cU (fun hs=>wHs x27 ae ao aq aW aY an av au ai ak aj [] none 0 ah bh hs am bG bH bI bJ (by first | exact Sl.nil _ _ _ _ | exact SlR.nil) cx) (.inr rfl) ?_
 rintro bu dt dy bw aV cV ⟨bV,bW,bX,bY,bZ,cd,bp,bm,bk,rfl,rfl,cy,cz,cA,cB,cC,cD,cE⟩
 have cG:sW w U bu [.obj bp (.map bm bk),.blk b2 37 B0] bw:=cV
 have bB:=am.le aV
 have bC:=bG.le aV
 have bD:=bH.le aV
 have bE:=bI.le aV
 have bF:=bJ.le aV
 refine bnK dg fun x106 cg c8=>zL 1 rfl rfl rfl rfl (zK rfl rfl Tryz.call18 (zB rfl (zB rfl zM)) rfl) cG (fun hs=>wHP x27 ae ao aq aW aY an av au ai ak aj (x27,[],x74) bV bW bX bY bZ cd ae ao aq aW aY an av au ai ak aj bp bm bk none 0 bw bu hs bB bC bD bE bF cy cz cA cB cC cD bB bC bD bE bF cE (by first | exact Sl.nil _ _ _ _ | exact SlR.nil) cg) (.inl rfl) ?_
 rintro bs dr dx bU du cH ⟨br,bA,rfl,rfl⟩
 have cI:sW w U bs [.row br bA 86 3 (nA wAH x106),.obj bp (.map bm bk),.blk b2 37 B0] bU:=cH
 refine oA Z Z (oA Z Z (eN (zP ?_)))
 cases c8
 exact ⟨rfl,_,(wGV rfl rfl),bs,_,(cI.pick [0] _ (by decide) rfl),br,bA,rfl,rfl⟩
 intro bj da
 refine cT Z bj (sR fL3 Z (oM Z Z (oA Z Z (oA Z Z (eN (zP (zR ?_)))))))
 have cJ:=bN.nilrow 86 3
 cases da
 exact ⟨rfl,_,(wGV rfl rfl),U9,_,(cJ.pick [0] _ (by decide) rfl),none,0,rfl,rfl⟩
theorem wGH (p0:wAA) (p1:wAQ) (ag:Nat) (w:World) (U:PHeap) (hS:St0 w U []) (ah:Cl U ag 0 [jV p1.Bib,jV p1.Time]) {r:Bool} (hm:wBf p0 p1=some r):Gv Tryz.prog 21 [.agg #[jV p0.Bib,jV p0.Place,jV p0.Total],.pointer (some ⟨ag,0,none⟩)] w (wBc w [] U (fun U_ L_ v=>v=.bool r/\L_=[])):=by
 unfold wBf at hm
 refine Gv.of Tryz.func21 rfl Tryz.ntmps21 Tryz.results21 rfl (sR gCr rfl (zq (cs:=[jV p0.Bib,jV p0.Place,jV p0.Total]) rfl rfl rfl rfl rfl rfl (by rfl) hS ?_))
 intro W1 b2 ae
 refine oA Z Z (eN (sR fL6 Z (oR Z (zF Z Z yE Z zC) (oL Z (ae.ldB (j:=0) Z Z Z zG (v:=jV p0.Bib) Z) (oR Z (zF Z Z Zp Z zC) (oL Z (ae.ldC (f:=0) ah (v:=jV p1.Bib) Z Z zG Z) (oR Z (yO Z Z Z) (oA Z Z (eN (zP ?_))))))))))
 first | (obtain rfl:=nB hm) | cases hm
 exact ⟨rfl,_,(zm rfl),U,_,(ae.pick [] _ (by decide) rfl),rfl,rfl⟩
theorem wDZ (p0:List wAA) (an:Option Addr) (ao:Nat) (p1:(wAA->Option Bool)) (ap:Value) (w:World) (U:PHeap) (hS:St0 w U []) (bu:Sl U 3 an ao p0.length (nA wAH p0)) (bw:FnOK Tryz.prog U ap ar87 rr87 p1) {r:Int} (hm:wAo p0 p1=some r):Gv Tryz.prog 20 [.slice an p0.length ao,ap] w (wBc w [] U (fun U_ L_ v=>v=jV r/\L_=[])):=by
 unfold wAo at hm
 refine Gv.of Tryz.func20 Z Tryz.ntmps20 Tryz.results20 Z (sR fL1 Z (oA Z Z (eN (zJ (sR fL3 Z (oM Z Z (oR Z (zn Z Z ZP) (oM Z Z (eN (zS ?_))))))))))
 have q:=wCT hm
 obtain ⟨r3,ai⟩:=q
 have q:=wCS ai
 obtain ⟨ak,bB⟩:=q
 replace ak:=zH ak
 refine yQ (fun k2 _ σ_ w_=>∃ (U_:PHeap),σ_ 8=jV (↑k2:Int)/\σ_ 0=.slice an p0.length ao/\σ_ 1=ap/\σ_ 7=jV (↑p0.length:Int)/\PHeap.Le U U_/\sW w U U_ [] w_) bB ?_ ?_ ?_
 exact ⟨U,Z,Z,Z,Z,(zN _),hS⟩
 rintro k2 ⟨⟩ bW bY W8 aj ⟨bL,ah,au,av,az,am,aW⟩ aZ bz
 try dsimp only at aZ
 have aq:Hid ((↑k2:Int) < (↑p0.length:Int)):=zH (wBG aj)
 replace aj:=zH aj
 have bC:Hid (w64 ((↑k2:Int) + 1)=(↑(k2 + 1):Int)):=zH (by have h1:=ak.out;have h2:=aq.out;rw [wAX] <;> omega)
 refine sR fL1 Z (oR Z (zV Z ah az) (eN (zJ (cT Z aq (kN (zJ (zS (sR fL2 Z (oM Z ah (oA Z Z (eN (sR (wGw (.fx 5 .nil .stop)) Z (oM Z av (oM Z au (oM Z Z (bnK aZ fun x22 aV bD=>?_))))))))))))))))
 have bk:=bu.le am
 have q:=bk.el (fun _=>rfl) (wAj aV)
 obtain ⟨bO,bS,bp,bq⟩:=q
 refine oR Z (ZV Z Z bp Z ZP Zc (wCZ aV)) (oL Z (aW.ldCA (f:=0) bq Z Z Tryz.isAgg86 Zc (us:=[jV x22.Bib,jV x22.Place,jV x22.Total]) Z Z) (bnK bD fun bV bm bE=>?_))
 have bn:=bw.le am
 refine yI (a:=x22) Z Z Z Z Z Z (zB Z zM) aW bn Z bm ?_
 rintro ae bK bU be bI br ⟨rfl,rfl⟩
 have aX:sW w U ae [] be:=br
 refine eN (ifc bE ?_ ?_)
 intro ag bF
 refine zo (congrArg nG ag.out) (sR fL2 Z (oM Z Z (oA Z Z (eN (zP (za (zR ?_)))))))
 have q:=wAc bF
 obtain ⟨bJ,bG,bh⟩:=q
 have q:=wBn hm ai (bz bJ bh)
 obtain rfl:=q
 refine zR (za (zR ?_))
 cases bG
 exact ⟨Z,_,(zm Z),ae,_,aX,Z,Z⟩
 intro ag bH
 refine zu (congrArg nG (nK.2 ag.out)) (Ze (zf (zI (rR fL2 Z (oR Z (zt (zU Z ah Z) (congrArg (jV) bC.out)) (oM Z Z (zd ?_)))))))
 have q:=nB bH
 obtain rfl:=q
 exact zI ⟨Z,_,Z,⟨ae,Z,au,av,az,(am.trans bI),aX⟩⟩
 rintro ⟨⟩ bX bM ⟨bb,bj,bP,bQ,bi,bR,bs⟩ bA
 have aY:=wDe hm ai bA
 try dsimp only at aY
 have bg:Hid (¬ ((↑(((↑p0.length:Int):Int) - 0).toNat:Int) < (↑p0.length:Int))):=zH (wAq)
 refine sR fL1 Z (oR Z (zV Z bj bi) (eN (zJ (cF Z bg (ZH (zZ (zZ (zx (zI (sR fL1 Z (oA Z Z (eN (zP ?_)))))))))))))
 cases aY
 exact ⟨Z,_,(zm Z),bb,_,bs,Z,Z⟩
theorem wGp (p0:wAU) (ao:Option Addr) (ap:Nat) (bm:Option Addr) (bn:Nat) (p1:List wAA) (aY:Option Addr) (aZ:Nat) (w:World) (U:PHeap) (hS:St0 w U []) (cI:Sl U 2 ao ap p0.Skiers.length (nA wAO p0.Skiers)) (du:Sl U 6 bm bn p0.Decisions.length (nA wAL p0.Decisions)) (cJ:Sl U 3 aY aZ p1.length (nA wAH p1)) {r:(List Int) × Bool} (hm:wBm p0 p1=some r):Gv Tryz.prog 9 [.agg #[jV p0.Deadline,.slice ao p0.Skiers.length ap,.slice bm p0.Decisions.length bn],.slice aY p1.length aZ] w (wBc w [] U (fun U_ L_ v=>∃ (A0:Option Addr) (c0:Nat),v=.tuple #[.slice A0 r.1.length c0,.bool r.2]/\L_=[.row A0 c0 3 1 (nA KL.encI r.1)])):=by
 unfold wBm at hm
 refine Gv.of Tryz.func9 Z Tryz.ntmps9 Tryz.results9 Z (sR gDc Z ?_)
 let B0:List Value:=[jV p0.Deadline,.slice ao p0.Skiers.length ap,.slice bm p0.Decisions.length bn]
 refine zq (cs:=B0) rfl rfl rfl rfl rfl rfl (by rfl) hS ?_
 intro W1 b2 bE
 refine oA Z Z (oA Z Z (eN (sR fL1 Z (oA Z Z (eN (zJ (sR fL4 Z (oR Z (zF Z Z ZF Z yL) (oL Z (bE.ldB (j:=0) Z Z Z yh (v:=.slice ao p0.Skiers.length ap) Z) (oR Z (zn Z Z Zf) (oM Z Z (eN (zS ?_)))))))))))))
 have q:=wCT hm
 obtain ⟨dy,aX⟩:=q
 have q:=wCS aX
 obtain ⟨bj,cL⟩:=q
 replace bj:=zH bj
 refine yQ (fun am an σ_ w_=>∃ (U_:PHeap) (aq:Option Addr) (az:Nat),σ_ 13=jV (↑am:Int)/\σ_ 1=.slice aY p1.length aZ/\σ_ 6=.slice aq an.length az/\σ_ 11=.slice ao p0.Skiers.length ap/\σ_ 12=jV (↑p0.Skiers.length:Int)/\PHeap.Le U U_/\sW w U U_ [.blk b2 37 B0,.row aq az 3 1 (nA KL.encI an)] w_) cL ?_ ?_ ?_
 have cy:=bE.nilrow 3 1
 exact ⟨U,none,0,rfl,rfl,rfl,rfl,rfl,(zN _),(cy.pick [1,0] _ (by decide) rfl)⟩
 rintro am an dA dD dh bi ⟨bM,aq,az,bg,aV,bX,bz,bA,bk,bF⟩ cZ bG
 have bw:Hid ((↑am:Int) < (↑p0.Skiers.length:Int)):=zH (wBG bi)
 replace bi:=zH bi
 have cM:Hid (w64 ((↑am:Int) + 1)=(↑(am + 1):Int)):=zH (by have h1:=bj.out;have h2:=bw.out;rw [wAX] <;> omega)
 refine sR fL1 Z (oR Z (zV Z bg bA) (eN (zJ (cT Z bw (kN (zJ (zS (sR gDe Z (bnK cZ fun x45 bB cP=>?_)))))))))
 have cd:=cI.le bk
 have q:=cd.el (fun _=>rfl) (wAj bB)
 obtain ⟨dp,dw,cn,cq⟩:=q
 refine oR Z (ZV Z bz cn bg Zf Zu (wCZ bB)) (oL Z (bF.ldCA (f:=0) cq Z Z Tryz.isAgg39 Zu (us:=[jV x45.Bib,jV x45.Time]) Z Z) (zg (cs:=[jV 0,jV 0]) Z Z Z Z Z Tryz.zeroValue39 Z bF ?_))
 intro dm ai cz
 let B1:List Value:=[jV x45.Bib,jV x45.Time]
 refine zh (j:=0) (vs:=B1) Z Z Z Z cz Z Z Z Z Zu (zA Z) Z Z Z ?_
 intro bb cA
 let B2:Res:=.row aq az 3 1 (nA KL.encI an)
 have cB:sW w U bM [.blk ai 39 B1,.blk b2 37 B0,B2] bb:=cA
 refine eN (sR gDf Z (oM Z aV ?_))
 have q:=cB.freeze (k:=0) rfl
 obtain ⟨av,bH,ak,cC⟩:=q
 replace ak:=Cl.of ak
 have cD:sW w U av [.blk b2 37 B0,B2] bb:=cC
 replace ak:Cl av ai 0 B1:=ak
 refine oR Z (yJ Z zM (zB Z zM)) ?_
 have cg:=cJ.le bk
 have bC:=cg.le bH
 have cr:FnOK Tryz.prog av (.func (.func 21) #[] #[.pointer (some ⟨ai,0,none⟩)]) ar87 rr87 (fun x=>wBf x x45):=⟨21,[],[.pointer (some ⟨ai,0,none⟩)],rfl,Tryz.call21,fun U1 w1 x y vs le hs ha hm=>by obtain rfl:=ha;exact wGH x x45 ai w1 U1 hs (ak.le le) hm⟩
 refine bnK cP fun x68 ci cQ=>zL 0 Z Z Z Z (zK Z Z Tryz.call20 (zB Z (zB Z zM)) Z) cD (fun hs=>wDZ p1 aY aZ (fun x=>wBf x x45) (.func (.func 21) #[] #[.pointer (some ⟨ai,0,none⟩)]) bb av hs bC cr ci) (.inr Z) ?_
 rintro ag de dz bP bI cE ⟨rfl,rfl⟩
 have aW:sW w U ag [.blk b2 37 B0,B2] bP:=cE
 refine oA Z Z (eN (zJ (sR fL8 Z (oM Z Z (oR Z (zV Z Z Z) (oM Z Z (ifc cQ ?_ ?_)))))))
 intro ab cR
 refine oT Z ab (oT Z ab (oT Z ab (oT Z ab (oR Z (zb Z (ZU ab.out) Z) (eN (zo Z (sR fL2 Z (oA Z Z (oA Z Z (eN (zP (zR (za (zR ?_))))))))))))))
 have q:=wAc cR
 obtain ⟨c8,cS,bT⟩:=q
 have q:=wBn hm aX (bG c8 bT)
 obtain rfl:=q
 refine zR (za (zR ?_))
 have cG:=aW.nilrow 3 1
 cases cS
 exact ⟨rfl,_,(wGV rfl rfl),ag,_,(cG.pick [0] _ (by decide) rfl),none,0,rfl,rfl⟩
 intro ab cU
 refine zX Z Z Z (wF Z ab) Z Z (zX Z Z Z (wF Z ab) Z aV (rU Z (wF Z ab) (zn Z Z ZP) (rU Z (wF Z ab) (yw Z Z Z) (oR Z (zi Z (ZT ab.out) Z) (eN (ifc cU ?_ ?_))))))
 intro be cV
 refine cT Z be (sR fL2 Z (oA Z Z (oA Z Z (eN (zP (zR (za (zR ?_))))))))
 have q:=wAc cV
 obtain ⟨da,cW,bU⟩:=q
 have q:=wBn hm aX (bG da bU)
 obtain rfl:=q
 refine zR (za (zR ?_))
 have cH:=aW.nilrow 3 1
 cases cW
 exact ⟨rfl,_,(wGV rfl rfl),ag,_,(cH.pick [0] _ (by decide) rfl),none,0,rfl,rfl⟩
 intro be cX
 refine cF Z be (kN (rR (wMT (.fx 7 (.fx 8 (.fl 9 .nil) .stop) .stop)) Z (oM Z bX (oM Z aV (oM Z Z (bnK cX fun x94 bh cY=>?_))))))
 have cj:=bC.le bI
 have q:=cj.el (fun _=>rfl) (wAj bh)
 obtain ⟨dq,dx,cm,cp⟩:=q
 refine oR Z (ZA Z Z cm Z ZP Zc (wCO bh) (wCX bh)) (oR Z (zF Z Z yE Z zC) (oL Z (aW.ldC (f:=1) cp (v:=jV x94.Place) Z Z zG Z) (oR Z (Runs.max Z Z Z) (ZL (pv:=[(0,jV (max 0 x94.Place))]) (zs:=[jV 0]) (cs:=[jV (max 0 x94.Place)]) Z Z Z Z Z (wAG Z wAZ) zD zC ZW Z Z Z Z Z aW ?_))))
 intro bN bQ ct
 let B3:Res:=.row (some ⟨bQ,0,none⟩) 1 3 1 (nA KL.encI [max 0 x94.Place])
 have bD:sW w U ag [B3,.blk b2 37 B0,B2] bN:=ct
 refine bnK cY fun x107 bZ cN=>Zq (j:=2) (enc:=KL.encI) (xs:=an) (ys:=[max 0 x94.Place]) (zs:=x107) rfl rfl rfl rfl rfl yF wId rfl rfl rfl rfl rfl rfl bD rfl rfl rfl (bD.srcR (j:=0) rfl (by decide) (wAC (f:=KL.encI) (sz:=1) (fun _=>rfl) [max 0 x94.Place])) (fun _=>rfl) (fun _=>rfl) bZ rfl ?_
 intro bq bu bO cu
 have cw:sW w U ag [B3,.blk b2 37 B0,.row bq bu 3 1 (nA KL.encI x107)] bO:=cu
 refine oA Z Z (zd (zf (zI (rR fL2 Z (oR Z (zt (zU Z bg Z) (congrArg (jV) cM.out)) (oM Z Z (zd ?_)))))))
 have q:=nB cN
 obtain rfl:=q
 exact zI ⟨rfl,_,rfl,⟨ag,bq,bu,rfl,aV,rfl,bz,bA,((bk.trans bH).trans bI),(cw.pick [1,2] _ (by decide) rfl)⟩⟩
 rintro dB dC dg ⟨bL,bJ,bR,bY,dr,bV,dt,bW,dv,cx⟩ cK
 have cO:=wDe hm aX cK
 have bS:Hid (¬ ((↑(((↑p0.Skiers.length:Int):Int) - 0).toNat:Int) < (↑p0.Skiers.length:Int))):=zH (wAq)
 refine sR fL1 Z (oR Z (zV Z bY bW) (eN (zJ (cF Z bS (ZH (zZ (zZ (zx (zI (sR fL3 Z (oM Z bV (oA Z Z (oA Z Z (eN (zP ?_)))))))))))))))
 cases cO
 exact ⟨rfl,_,(wGV rfl rfl),bL,_,(cx.pick [1] _ (by decide) rfl),bJ,bR,rfl,rfl⟩
theorem wDv (p0:Int) (p1:Int) (p2:Int) (w:World) (U:PHeap) (hS:St0 w U [])  {r:Bool} (hm:wCB p0 p1 p2=some r):Gv Tryz.prog 68 [jV p0,jV p1,jV p2] w (wBc w [] U (fun U_ L_ v=>v=.bool r/\L_=[])):=by
 unfold wCB at hm
 refine Gv.of Tryz.func68 Z Tryz.ntmps68 Tryz.results68 Z (sR fL1 Z (oA Z Z (eN (sR fL9 Z (oM Z Z (oM Z Z (oR Z (yw Z Z Z) (oM Z Z ?_))))))))
 by_cases c1:p1 <= p0
 have ab:=hm;rw [if_pos c1] at ab;replace c1:=zH c1
 refine zX Z Z Z (wT Z c1) Z Z (zX Z Z Z (wT Z c1) Z Z (rU Z (wT Z c1) (yo Z Z Z) (oR Z (zb Z (ZU c1.out) Z) (oA Z Z (eN (zP ?_))))))
 first | (obtain rfl:=nB ab) | cases ab
 exact ⟨Z,_,(zm Z),U,_,hS,Z,Z⟩
 have ah:=hm;rw [if_neg c1] at ah;replace c1:=zH c1
 refine oF Z c1 (oF Z c1 (oF Z c1 (oR Z (zi Z (ZT c1.out) Z) (oA Z Z (eN (zP ?_))))))
 have hE:=nB ah;first | subst r | cases hE
 exact ⟨Z,_,(zm Z),U,_,hS,Z,Z⟩
theorem wKL (p0:List Int) (ae:Option Addr) (aj:Nat) (p1:wBq) (ai:Nat) (ag:Option Addr) (ak:Nat) (ah:Option Addr) (am:Nat) (w:World) (U:PHeap) (hS:St0 w U []) (ao:Sl U 1 ae aj p0.length (nA KL.encI p0)) (an:Cl U ai 0 [jV p1.Skiers,jV p1.Races,jV p1.Best,.slice ag p1.Points.length ak,.slice ah p1.Done.length am]) (ap:Sl U 1 ag ak p1.Points.length (nA KL.encI p1.Points)) (aq:SlR U wHx ah am p1.Done) {r:Bool} (hm:wDT p0 p1=some r):Gv Tryz.prog 70 [.slice ae p0.length aj,.pointer (some ⟨ai,0,none⟩)] w (wBc w [] U (fun U_ L_ v=>v=.bool r/\L_=[])):=by
 unfold wDT at hm
 refine Gv.of Tryz.func70 Z Tryz.ntmps70 Tryz.results70 Z (sR fL1 Z (oA Z Z (eN (sR fL6 Z (oM Z Z (oR Z (zn Z Z zD) (oR Z (zF Z Z ZJ Z zC) (oL Z (hS.ldC (f:=0) an (v:=jV p1.Skiers) Z Z zG Z) (oR Z (yO Z Z Z) (oA Z Z (eN (zP ?_))))))))))))
 first | (obtain rfl:=nB hm) | cases hm
 exact ⟨Z,_,(zm Z),U,_,hS,Z,Z⟩
theorem wIl (p0:List Int) (ab:Option Addr) (ae:Nat) (p1:((List Int)->Option Bool)) (aj:Nat) (ag:Value) (w:World) (U:PHeap) (hS:St0 w U []) (ap:Sl U 1 ab ae p0.length (nA KL.encI p0)) (aq:Cl U aj 0 [ag]) (au:FnOK Tryz.prog U ag wLC wLD p1) {r:Bool} (hm:wCe p0 p1=some r):Gv Tryz.prog 105 [.slice ab p0.length ae,.pointer (some ⟨aj,0,none⟩)] w (wBc w [] U (fun U_ L_ v=>v=.bool r/\L_=[])):=by
 unfold wCe at hm
 refine Gv.of Tryz.func105 Z Tryz.ntmps105 Tryz.results105 Z (sR fL1 Z (oA Z Z (eN (sR gDg Z (oL Z (hS.ldC (f:=0) aq (v:=ag) Z Z Tryz.isAgg168 Z) (oM Z Z (bnK hm fun x1 h2 av=>yI (a:=p0) Z Z Z Z Z Z (zB Z zM) hS au ⟨ab,ae,Z,ap⟩ h2 ?_)))))))
 rintro U4 L5 v6 W7 aV ao ⟨rfl,rfl⟩
 have an:sW w U U4 [] W7:=ao
 refine oR Z (ZB Z Z) (oA Z Z (eN (zP ?_)))
 cases av
 exact ⟨Z,_,(zm Z),U4,_,an,Z,Z⟩
theorem wFN (p0:List (List Int)) (ao:Option Addr) (aq:Nat) (p1:((List Int)->Option Bool)) (av:Value) (w:World) (U:PHeap) (hS:St0 w U []) (bC:SlR U wHx ao aq p0) (bD:FnOK Tryz.prog U av wLC wLD p1) {r:Int} (hm:wBa p0 p1=some r):Gv Tryz.prog 110 [.slice ao p0.length aq,av] w (wBc w [] U (fun U_ L_ v=>v=jV r/\L_=[])):=by
 unfold wBa at hm
 refine Gv.of Tryz.func110 Z Tryz.ntmps110 Tryz.results110 Z (sR fL1 Z (oA Z Z (eN (zJ (sR fL3 Z (oM Z Z (oR Z (zn Z Z ZK) (oM Z Z (eN (zS ?_))))))))))
 have q:=wCT hm
 obtain ⟨r3,aj⟩:=q
 have q:=wCS aj
 obtain ⟨am,bG⟩:=q
 replace am:=zH am
 refine yQ (fun k2 _ σ_ w_=>∃ (U_:PHeap),σ_ 8=jV (↑k2:Int)/\σ_ 0=.slice ao p0.length aq/\σ_ 1=av/\σ_ 7=jV (↑p0.length:Int)/\PHeap.Le U U_/\sW w U U_ [] w_) bG ?_ ?_ ?_
 exact ⟨U,Z,Z,Z,Z,(zN _),hS⟩
 rintro k2 ⟨⟩ cg cj W8 ak ⟨bh,ah,aV,aW,aX,an,aZ⟩ be bE
 try dsimp only at be
 have az:Hid ((↑k2:Int) < (↑p0.length:Int)):=zH (wBG ak)
 replace ak:=zH ak
 have bH:Hid (w64 ((↑k2:Int) + 1)=(↑(k2 + 1):Int)):=zH (by have h1:=am.out;have h2:=az.out;rw [wAX] <;> omega)
 refine sR fL1 Z (oR Z (zV Z ah aX) (eN (zJ (cT Z az (kN (zJ (zS (sR fL2 Z (oM Z ah (oA Z Z (eN (sR (wGw (.fx 5 .nil .stop)) Z (oM Z aW (oM Z aV (oM Z Z (bnK be fun x22 aY bI=>?_))))))))))))))))
 have br:=bC.le an
 have q:=br.el (wAj aY)
 obtain ⟨bk,bP,bZ,bz,ai,bN⟩:=q
 obtain ⟨ap,au,rfl,bs⟩:=bN
 replace ai:Cl bh bk (bP + k2 * 1) [.slice ap x22.length au]:=ai
 refine oR Z (ZV Z Z bz Z ZK zk (wCZ aY)) (oL Z (aZ.ldC (f:=0) ai (v:=.slice ap x22.length au) Z Z zr Z) (bnK bI fun cd bu bJ=>?_))
 have bw:=bD.le an
 refine yI (a:=x22) Z Z Z Z Z Z (zB Z zM) aZ bw ⟨ap,au,Z,bs⟩ bu ?_
 rintro ae bR bY bj bO bA ⟨rfl,rfl⟩
 have ba:sW w U ae [] bj:=bA
 refine eN (ifc bJ ?_ ?_)
 intro ag bK
 refine zo (congrArg nG ag.out) (sR fL2 Z (oM Z Z (oA Z Z (eN (zP (za (zR ?_)))))))
 have q:=wAc bK
 obtain ⟨bQ,bL,bn⟩:=q
 have q:=wBn hm aj (bE bQ bn)
 obtain rfl:=q
 refine zR (za (zR ?_))
 cases bL
 exact ⟨Z,_,(zm Z),ae,_,ba,Z,Z⟩
 intro ag bM
 refine zu (congrArg nG (nK.2 ag.out)) (Ze (zf (zI (rR fL2 Z (oR Z (zt (zU Z ah Z) (congrArg (jV) bH.out)) (oM Z Z (zd ?_)))))))
 have q:=nB bM
 obtain rfl:=q
 exact zI ⟨Z,_,Z,⟨ae,Z,aV,aW,aX,(an.trans bO),ba⟩⟩
 rintro ⟨⟩ ci bS ⟨bi,bq,bU,bV,bp,bW,bB⟩ bF
 have bb:=wDe hm aj bF
 try dsimp only at bb
 have bm:Hid (¬ ((↑(((↑p0.length:Int):Int) - 0).toNat:Int) < (↑p0.length:Int))):=zH (wAq)
 refine sR fL1 Z (oR Z (zV Z bq bp) (eN (zJ (cF Z bm (ZH (zZ (zZ (zx (zI (sR fL1 Z (oA Z Z (eN (zP ?_)))))))))))))
 cases bb
 exact ⟨Z,_,(zm Z),bi,_,bB,Z,Z⟩
theorem wCu (p0:List (List Int)) (ae:Option Addr) (ag:Nat) (p1:((List Int)->Option Bool)) (ah:Value) (w:World) (U:PHeap) (hS:St0 w U []) (ap:SlR U wHx ae ag p0) (aq:FnOK Tryz.prog U ah wLC wLD p1) {r:Bool} (hm:wAv p0 p1=some r):Gv Tryz.prog 76 [.slice ae p0.length ag,ah] w (wBc w [] U (fun U_ L_ v=>v=.bool r/\L_=[])):=by
 unfold wAv at hm
 refine Gv.of Tryz.func76 Z Tryz.ntmps76 Tryz.results76 Z (sR fL1 Z (oA Z Z (eN (sR gDg Z (oM Z Z (oM Z Z (bnK hm fun x1 h2 aj=>zL 0 Z Z Z Z (zK Z Z Tryz.call110 (zB Z (zB Z zM)) Z) hS (fun hs=>wFN p0 ae ag p1 ah w U hs ap aq h2) (.inr Z) ?_)))))))
 rintro U4 L5 v6 W7 av ao ⟨rfl,rfl⟩
 have an:sW w U U4 [] W7:=ao
 refine oR Z (yw Z Z Z) (oA Z Z (eN (zP ?_)))
 first | (obtain rfl:=nB aj) | cases aj
 exact ⟨Z,_,(zm Z),U4,_,an,Z,Z⟩
theorem wHQ (p0:List (List Int)) (aj:Option Addr) (ak:Nat) (p1:((List Int)->Option Bool)) (ag:Value) (w:World) (U:PHeap) (hS:St0 w U []) (be:SlR U wHx aj ak p0) (ao:FnOK Tryz.prog U ag wLC wLD p1) {r:Bool} (hm:wDU p0 p1=some r):Gv Tryz.prog 69 [.slice aj p0.length ak,ag] w (wBc w [] U (fun U_ L_ v=>v=.bool r/\L_=[])):=by
 unfold wDU at hm
 refine Gv.of Tryz.func69 Z Tryz.ntmps69 Tryz.results69 Z (sR gCr Z (zq (cs:=[ag]) Z Z Z Z Z Z (FnOK.cells ao) hS ?_))
 intro W1 b2 aZ
 have q:=aZ.freeze (k:=0) rfl
 obtain ⟨U5,ap,ab,ba⟩:=q
 replace ab:=Cl.of ab
 have bb:sW w U U5 [] W1:=ba
 replace ab:Cl U5 b2 0 [ag]:=ab
 refine oA Z Z (eN (sR gDg Z (oM Z Z (oR Z (yJ Z zM (zB Z zM)) ?_))))
 have av:=be.le ap
 have az:=ao.le ap
 have aW:FnOK Tryz.prog U5 (.func (.func 105) #[] #[.pointer (some ⟨b2,0,none⟩)]) wLC wLD (fun x=>wCe x p1):=⟨105,[],[.pointer (some ⟨b2,0,none⟩)],rfl,Tryz.call105,fun U1 w1 x y vs le hs ha hm=>by obtain ⟨pA_0,pc_0,rfl,hq0_0⟩:=ha;exact wIl x pA_0 pc_0 p1 b2 ag w1 U1 hs hq0_0 (ab.le le) (az.le le) hm⟩
 refine bnK hm fun bm aV bg=>zL 0 Z Z Z Z (zK Z Z Tryz.call76 (zB Z (zB Z zM)) Z) bb (fun hs=>wCu p0 aj ak (fun x=>wCe x p1) (.func (.func 105) #[] #[.pointer (some ⟨b2,0,none⟩)]) W1 U5 hs av aW aV) (.inr Z) ?_
 rintro am bi bk au bj aX ⟨rfl,rfl⟩
 have aY:sW w U am [] au:=aX
 refine oR Z (ZB Z Z) (oA Z Z (eN (zP ?_)))
 cases bg
 exact ⟨Z,_,(zm Z),am,_,aY,Z,Z⟩
theorem wGq (p0:Int) (p1:(Int->Option Bool)) (ah:Nat) (ab:Value) (w:World) (U:PHeap) (hS:St0 w U []) (an:Cl U ah 0 [ab]) (ao:FnOK Tryz.prog U ab wIa wIb p1) {r:Bool} (hm:wBd p0 p1=some r):Gv Tryz.prog 107 [jV p0,.pointer (some ⟨ah,0,none⟩)] w (wBc w [] U (fun U_ L_ v=>v=.bool r/\L_=[])):=by
 unfold wBd at hm
 refine Gv.of Tryz.func107 Z Tryz.ntmps107 Tryz.results107 Z (sR fL1 Z (oA Z Z (eN (sR gDg Z (oL Z (hS.ldC (f:=0) an (v:=ab) Z Z Tryz.isAgg165 Z) (oM Z Z (bnK hm fun x1 h2 ap=>yI (a:=p0) Z Z Z Z Z Z (zB Z zM) hS ao Z h2 ?_)))))))
 rintro U4 L5 v6 W7 au am ⟨rfl,rfl⟩
 have ak:sW w U U4 [] W7:=am
 refine oR Z (ZB Z Z) (oA Z Z (eN (zP ?_)))
 cases ap
 exact ⟨Z,_,(zm Z),U4,_,ak,Z,Z⟩
theorem wCn (p0:List Int) (an:Option Addr) (ao:Nat) (p1:(Int->Option Bool)) (ap:Value) (w:World) (U:PHeap) (hS:St0 w U []) (bu:Sl U 1 an ao p0.length (nA KL.encI p0)) (bw:FnOK Tryz.prog U ap wIa wIb p1) {r:Int} (hm:wAh p0 p1=some r):Gv Tryz.prog 156 [.slice an p0.length ao,ap] w (wBc w [] U (fun U_ L_ v=>v=jV r/\L_=[])):=by
 unfold wAh at hm
 refine Gv.of Tryz.func156 Z Tryz.ntmps156 Tryz.results156 Z (sR fL1 Z (oA Z Z (eN (zJ (sR fL3 Z (oM Z Z (oR Z (zn Z Z zD) (oM Z Z (eN (zS ?_))))))))))
 have q:=wCT hm
 obtain ⟨r3,ai⟩:=q
 have q:=wCS ai
 obtain ⟨ak,bB⟩:=q
 replace ak:=zH ak
 refine yQ (fun k2 _ σ_ w_=>∃ (U_:PHeap),σ_ 8=jV (↑k2:Int)/\σ_ 0=.slice an p0.length ao/\σ_ 1=ap/\σ_ 7=jV (↑p0.length:Int)/\PHeap.Le U U_/\sW w U U_ [] w_) bB ?_ ?_ ?_
 exact ⟨U,Z,Z,Z,Z,(zN _),hS⟩
 rintro k2 ⟨⟩ bW bY W8 aj ⟨bL,ah,au,av,az,am,aW⟩ aZ bz
 try dsimp only at aZ
 have aq:Hid ((↑k2:Int) < (↑p0.length:Int)):=zH (wBG aj)
 replace aj:=zH aj
 have bC:Hid (w64 ((↑k2:Int) + 1)=(↑(k2 + 1):Int)):=zH (by have h1:=ak.out;have h2:=aq.out;rw [wAX] <;> omega)
 refine sR fL1 Z (oR Z (zV Z ah az) (eN (zJ (cT Z aq (kN (zJ (zS (sR fL2 Z (oM Z ah (oA Z Z (eN (sR (wGw (.fx 5 .nil .stop)) Z (oM Z av (oM Z au (oM Z Z (bnK aZ fun x22 aV bD=>?_))))))))))))))))
 have bk:=bu.le am
 have q:=bk.el (fun _=>rfl) (wAj aV)
 obtain ⟨bO,bS,bp,bq⟩:=q
 refine oR Z (ZV Z Z bp Z zD zC (wCZ aV)) (oL Z (aW.ldC (f:=0) bq (v:=jV x22) Z Z zG Z) (bnK bD fun bV bm bE=>?_))
 have bn:=bw.le am
 refine yI (a:=x22) Z Z Z Z Z Z (zB Z zM) aW bn Z bm ?_
 rintro ae bK bU be bI br ⟨rfl,rfl⟩
 have aX:sW w U ae [] be:=br
 refine eN (ifc bE ?_ ?_)
 intro ag bF
 refine zo (congrArg nG ag.out) (sR fL2 Z (oM Z Z (oA Z Z (eN (zP (za (zR ?_)))))))
 have q:=wAc bF
 obtain ⟨bJ,bG,bh⟩:=q
 have q:=wBn hm ai (bz bJ bh)
 obtain rfl:=q
 refine zR (za (zR ?_))
 cases bG
 exact ⟨Z,_,(zm Z),ae,_,aX,Z,Z⟩
 intro ag bH
 refine zu (congrArg nG (nK.2 ag.out)) (Ze (zf (zI (rR fL2 Z (oR Z (zt (zU Z ah Z) (congrArg (jV) bC.out)) (oM Z Z (zd ?_)))))))
 have q:=nB bH
 obtain rfl:=q
 exact zI ⟨Z,_,Z,⟨ae,Z,au,av,az,(am.trans bI),aX⟩⟩
 rintro ⟨⟩ bX bM ⟨bb,bj,bP,bQ,bi,bR,bs⟩ bA
 have aY:=wDe hm ai bA
 try dsimp only at aY
 have bg:Hid (¬ ((↑(((↑p0.length:Int):Int) - 0).toNat:Int) < (↑p0.length:Int))):=zH (wAq)
 refine sR fL1 Z (oR Z (zV Z bj bi) (eN (zJ (cF Z bg (ZH (zZ (zZ (zx (zI (sR fL1 Z (oA Z Z (eN (zP ?_)))))))))))))
 cases aY
 exact ⟨Z,_,(zm Z),bb,_,bs,Z,Z⟩
theorem wEN (p0:List Int) (ae:Option Addr) (ag:Nat) (p1:(Int->Option Bool)) (ah:Value) (w:World) (U:PHeap) (hS:St0 w U []) (ap:Sl U 1 ae ag p0.length (nA KL.encI p0)) (aq:FnOK Tryz.prog U ah wIa wIb p1) {r:Bool} (hm:wBO p0 p1=some r):Gv Tryz.prog 106 [.slice ae p0.length ag,ah] w (wBc w [] U (fun U_ L_ v=>v=.bool r/\L_=[])):=by
 unfold wBO at hm
 refine Gv.of Tryz.func106 Z Tryz.ntmps106 Tryz.results106 Z (sR fL1 Z (oA Z Z (eN (sR gDg Z (oM Z Z (oM Z Z (bnK hm fun x1 h2 aj=>zL 0 Z Z Z Z (zK Z Z Tryz.call156 (zB Z (zB Z zM)) Z) hS (fun hs=>wCn p0 ae ag p1 ah w U hs ap aq h2) (.inr Z) ?_)))))))
 rintro U4 L5 v6 W7 av ao ⟨rfl,rfl⟩
 have an:sW w U U4 [] W7:=ao
 refine oR Z (yw Z Z Z) (oA Z Z (eN (zP ?_)))
 first | (obtain rfl:=nB aj) | cases aj
 exact ⟨Z,_,(zm Z),U4,_,an,Z,Z⟩
theorem wFn (p0:List Int) (aj:Option Addr) (ak:Nat) (p1:(Int->Option Bool)) (ah:Value) (w:World) (U:PHeap) (hS:St0 w U []) (be:Sl U 1 aj ak p0.length (nA KL.encI p0)) (ao:FnOK Tryz.prog U ah wIa wIb p1) {r:Bool} (hm:wCN p0 p1=some r):Gv Tryz.prog 71 [.slice aj p0.length ak,ah] w (wBc w [] U (fun U_ L_ v=>v=.bool r/\L_=[])):=by
 unfold wCN at hm
 refine Gv.of Tryz.func71 Z Tryz.ntmps71 Tryz.results71 Z (sR gCr Z (zq (cs:=[ah]) Z Z Z Z Z Z (FnOK.cells ao) hS ?_))
 intro W1 b2 aZ
 have q:=aZ.freeze (k:=0) rfl
 obtain ⟨U5,ap,ab,ba⟩:=q
 replace ab:=Cl.of ab
 have bb:sW w U U5 [] W1:=ba
 replace ab:Cl U5 b2 0 [ah]:=ab
 refine oA Z Z (eN (sR gDg Z (oM Z Z (oR Z (yJ Z zM (zB Z zM)) ?_))))
 have av:=be.le ap
 have az:=ao.le ap
 have aW:FnOK Tryz.prog U5 (.func (.func 107) #[] #[.pointer (some ⟨b2,0,none⟩)]) wIa wIb (fun x=>wBd x p1):=⟨107,[],[.pointer (some ⟨b2,0,none⟩)],rfl,Tryz.call107,fun U1 w1 x y vs le hs ha hm=>by obtain rfl:=ha;exact wGq x p1 b2 ah w1 U1 hs (ab.le le) (az.le le) hm⟩
 refine bnK hm fun bm aV bg=>zL 0 Z Z Z Z (zK Z Z Tryz.call106 (zB Z (zB Z zM)) Z) bb (fun hs=>wEN p0 aj ak (fun x=>wBd x p1) (.func (.func 107) #[] #[.pointer (some ⟨b2,0,none⟩)]) W1 U5 hs av aW aV) (.inr Z) ?_
 rintro am bi bk au bj aX ⟨rfl,rfl⟩
 have aY:sW w U am [] au:=aX
 refine oR Z (ZB Z Z) (oA Z Z (eN (zP ?_)))
 cases bg
 exact ⟨Z,_,(zm Z),am,_,aY,Z,Z⟩
theorem wKM (p0:Int) (w:World) (U:PHeap) (hS:St0 w U [])  {r:Bool} (hm:wDV p0=some r):Gv Tryz.prog 72 [jV p0] w (wBc w [] U (fun U_ L_ v=>v=.bool r/\L_=[])):=by
 unfold wDV at hm
 refine Gv.of Tryz.func72 Z Tryz.ntmps72 Tryz.results72 Z (sR fL1 Z (oA Z Z (eN (sR gDd Z (oM Z Z (bnK hm fun x1 h2 aj=>zL 0 Z Z Z Z (zK Z Z Tryz.call68 (zB Z (zB Z (zB Z zM))) Z) hS (fun hs=>wDv p0 0 1000 w U hs h2) (.inr Z) ?_))))))
 rintro U4 L5 v6 W7 am ai ⟨rfl,rfl⟩
 have ah:sW w U U4 [] W7:=ai
 refine oA Z Z (eN (zP ?_))
 have hE:=nB aj;first | subst r | cases hE
 exact ⟨Z,_,(zm Z),U4,_,ah,Z,Z⟩
theorem wIm (p0:Int) (w:World) (U:PHeap) (hS:St0 w U [])  {r:Bool} (hm:wCf p0=some r):Gv Tryz.prog 74 [jV p0] w (wBc w [] U (fun U_ L_ v=>v=.bool r/\L_=[])):=by
 unfold wCf at hm
 refine Gv.of Tryz.func74 Z Tryz.ntmps74 Tryz.results74 Z (sR fL1 Z (oA Z Z (eN (sR gDd Z (oM Z Z (bnK hm fun x1 h2 aj=>zL 0 Z Z Z Z (zK Z Z Tryz.call68 (zB Z (zB Z (zB Z zM))) Z) hS (fun hs=>wDv p0 0 60 w U hs h2) (.inr Z) ?_))))))
 rintro U4 L5 v6 W7 am ai ⟨rfl,rfl⟩
 have ah:sW w U U4 [] W7:=ai
 refine oA Z Z (eN (zP ?_))
 have hE:=nB aj;first | subst r | cases hE
 exact ⟨Z,_,(zm Z),U4,_,ah,Z,Z⟩
theorem wKN (p0:List Int) (ab:Option Addr) (ae:Nat) (w:World) (U:PHeap) (hS:St0 w U []) (ao:Sl U 1 ab ae p0.length (nA KL.encI p0)) {r:Bool} (hm:wDW p0=some r):Gv Tryz.prog 73 [.slice ab p0.length ae] w (wBc w [] U (fun U_ L_ v=>v=.bool r/\L_=[])):=by
 unfold wDW at hm
 refine Gv.of Tryz.func73 Z Tryz.ntmps73 Tryz.results73 Z (sR fL1 Z (oA Z Z (eN (sR gDd Z (oM Z Z ?_)))))
 have ak:FnOK Tryz.prog U (.func (.func 74) #[] #[]) wIa wIb wCf:=⟨74,[],[],rfl,Tryz.call74,fun U1 w1 x y vs le hs ha hm=>by obtain rfl:=ha;exact wIm x w1 U1 hs  hm⟩
 refine bnK hm fun x2 h3 ap=>zL 0 Z Z Z Z (zK Z Z Tryz.call71 (zB Z (zB Z zM)) Z) hS (fun hs=>wFn p0 ab ae wCf (.func (.func 74) #[] #[]) w U hs ao ak h3) (.inr Z) ?_
 rintro U5 L6 v7 W8 av am ⟨rfl,rfl⟩
 have an:sW w U U5 [] W8:=am
 refine oA Z Z (eN (zP ?_))
 have hE:=nB ap;first | subst r | cases hE
 exact ⟨Z,_,(zm Z),U5,_,an,Z,Z⟩
theorem wEw (p0:List Int) (ao:Option Addr) (ap:Nat) (p1:((Int × Int)->Option Int)) (aq:Value) (w:World) (U:PHeap) (hS:St0 w U []) (bw:Sl U 1 ao ap p0.length (nA KL.encI p0)) (bz:FnOK Tryz.prog U aq wUg wUh p1) {r:Bool} (hm:wBx p0 p1=some r):Gv Tryz.prog 108 [.slice ao p0.length ap,aq] w (wBc w [] U (fun U_ L_ v=>v=.bool r/\L_=[])):=by
 unfold wBx at hm
 refine Gv.of Tryz.func108 Z Tryz.ntmps108 Tryz.results108 Z (sR fL1 Z (oA Z Z (eN (zJ (sR fL4 Z (oM Z Z (oR Z (zn Z Z zD) (oR Z (Zk Z Z Z) (oA Z Z (eN (zS (yr (fun x4 σ_ w_=>∃ (U_:PHeap),σ_ 0=.slice ao p0.length ap/\σ_ 1=aq/\σ_ 5=jV x4/\PHeap.Le U U_/\sW w U U_ [] w_) hm ?_ ?_))))))))))))
 exact ⟨U,Z,Z,Z,(zN _),hS⟩
 rintro x4 bR bS W6 ⟨bh,aj,az,ae,an,aW⟩ bb aY
 refine zJ (sR fL2 Z (oM Z ae (oR Z (yG Z Z Z) (eN ?_))))
 by_cases aa:0 < x4
 have aZ:=bb;rw [if_pos aa] at aZ;replace aa:=zH aa
 refine cT Z aa (kN (zJ (zS (zJ (ZO zz [3,3,3,3,1,3,3,3,3,1,2,3] (wRU (.fx 10 (.fl 11 .nil) .stop)) (by kernel_rfl) ?_)))))
 have ag:=aW.drew
 generalize hw_W21:({ W6 with drawn:=W6.drawn + 1 }:World)=bL at ag ⊢
 refine oM Z az (oM Z aj (oM Z ae (bnK aZ fun x22 ak bA=>?_)))
 have aV:=bw.le an
 have q:=aV.el (fun _=>rfl) (wAj ak)
 obtain ⟨bM,bO,bp,br⟩:=q
 refine oR Z (ZA Z Z bp Z zD zC (wCO ak) (wCX ak)) (oL Z (ag.ldC (f:=0) br (v:=jV x22) Z Z zG Z) (oM Z aj (oM Z ae (oR Z (Zk Z Z Z) (bnK bA fun bg am bB=>?_)))))
 have q:=aV.el (fun _=>rfl) (wAj am)
 obtain ⟨bN,bP,bq,bs⟩:=q
 refine oR Z (ZA Z Z bq Z zD zC (wCO am) (wCX am)) (oL Z (ag.ldC (f:=0) bs (v:=jV bg) Z Z zG Z) (bnK bB fun x37 bm bC=>?_))
 have bn:=bz.le an
 refine yI (a:=(x22,bg)) Z Z Z Z Z Z (zB Z (zB Z zM)) ag bn Z bm ?_
 rintro ah bK bQ bi bH bu ⟨rfl,rfl⟩
 have aX:sW w U ah [] bi:=bu
 refine oR Z (zV Z Z Z) (eN (ifc bC ?_ ?_))
 intro ai bD
 refine cT Z ai (sR fL1 Z (oA Z Z (eN (zP (za (zR ?_))))))
 have q:=wAc bD
 obtain ⟨bI,bE,bj⟩:=q
 have q:=aY bI bj
 obtain rfl:=q
 refine zR (za (zR ?_))
 have hE:=nB bE;first | subst r | cases hE
 exact ⟨Z,_,(zm Z),ah,_,aX,Z,Z⟩
 intro ai bF
 refine cF Z ai (Ze (zf (zI (rR fL3 Z (oM Z ae (oR Z (Zk Z Z Z) (oA Z Z (zd ?_))))))))
 have q:=nB bF
 obtain rfl:=q
 exact zI ⟨Z,_,Z,⟨ah,aj,az,Z,(an.trans bH),aX⟩⟩
 have ba:=bb;rw [if_neg aa] at ba;replace aa:=zH aa
 refine cF Z aa (ZH (zZ ?_))
 have q:=wAc ba
 obtain ⟨bJ,bG,bk⟩:=q
 have q:=aY bJ bk
 obtain rfl:=q
 refine zZ (zx (zI (sR fL1 Z (oA Z Z (eN (zP ?_))))))
 have hE:=nB bG;first | subst r | cases hE
 exact ⟨Z,_,(zm Z),bh,_,aW,Z,Z⟩
set_option maxHeartbeats 4000000
theorem wKO (p0:Int) (p1:Int) (w:World) (U:PHeap) (hS:St0 w U [])  {r:Int} (hm:wEJ p0 p1=some r):Gv Tryz.prog 109 [jV p0,jV p1] w (wBc w [] U (fun U_ L_ v=>v=jV r/\L_=[])):=by
 unfold wEJ at hm
 refine Gv.of Tryz.func109 Z Tryz.ntmps109 Tryz.results109 Z (sR fL1 Z (oA Z Z (eN (sR gDf Z (oM Z Z (oM Z Z (bnK hm fun x1 h2 ak=>zL 0 Z Z Z Z (zK Z Z Tryz.call36 (zB Z (zB Z zM)) Z) hS (fun hs=>wCh p1 p0 w U hs h2) (.inr Z) ?_)))))))
 rintro U4 L5 v6 W7 an aj ⟨rfl,rfl⟩
 have ai:sW w U U4 [] W7:=aj
 refine oA Z Z (eN (zP ?_))
 have hE:=nB ak;first | subst r | cases hE
 exact ⟨Z,_,(zm Z),U4,_,ai,Z,Z⟩
theorem wMC (p0:List Int) (ab:Option Addr) (ae:Nat) (w:World) (U:PHeap) (hS:St0 w U []) (ao:Sl U 1 ab ae p0.length (nA KL.encI p0)) {r:Bool} (hm:wFe p0=some r):Gv Tryz.prog 75 [.slice ab p0.length ae] w (wBc w [] U (fun U_ L_ v=>v=.bool r/\L_=[])):=by
 unfold wFe at hm
 refine Gv.of Tryz.func75 Z Tryz.ntmps75 Tryz.results75 Z (sR fL1 Z (oA Z Z (eN (sR gDd Z (oM Z Z ?_)))))
 have ak:FnOK Tryz.prog U (.func (.func 109) #[] #[]) wUg wUh (fun x=>wEJ x.1 x.2):=⟨109,[],[],rfl,Tryz.call109,fun U1 w1 x y vs le hs ha hm=>by obtain rfl:=ha;exact wKO x.1 x.2 w1 U1 hs  hm⟩
 refine bnK hm fun x2 h3 ap=>zL 0 Z Z Z Z (zK Z Z Tryz.call108 (zB Z (zB Z zM)) Z) hS (fun hs=>wEw p0 ab ae (fun x=>wEJ x.1 x.2) (.func (.func 109) #[] #[]) w U hs ao ak h3) (.inr Z) ?_
 rintro U5 L6 v7 W8 av am ⟨rfl,rfl⟩
 have an:sW w U U5 [] W8:=am
 refine oA Z Z (eN (zP ?_))
 have hE:=nB ap;first | subst r | cases hE
 exact ⟨Z,_,(zm Z),U5,_,an,Z,Z⟩
theorem wFt (p0:List Int) (ae:Option Addr) (an:Nat) (w:World) (U:PHeap) (hS:St0 w U []) (am:Sl U 1 ae an p0.length (nA KL.encI p0)) {r:(List Int)} (hm:wCJ p0=some r):Gv Tryz.prog 112 [.slice ae p0.length an] w (wBc w [] U (fun U_ L_ v=>∃ (A0:Option Addr) (c0:Nat),v=.slice A0 r.length c0/\L_=[.row A0 c0 3 1 (nA KL.encI r)])):=by
 unfold wCJ at hm
 refine Gv.of Tryz.func112 Z Tryz.ntmps112 Tryz.results112 Z (sR fL1 Z (oA Z Z (eN (zJ (sR fL2 Z (oM Z Z (oR Z (Runs.eqNil Z Z Z zD) (eN ?_))))))))
 by_cases c1:ae.isNone=true
 replace c1:=zH c1
 have aZ:p0=[]:=List.eq_nil_of_length_eq_zero (Sl.nilA (Option.isNone_iff_eq_none.1 c1.out ▸ am))
 have aY:(some [])=some r:=by simpa [aZ,app] using hm
 refine zo (congrArg nG c1.out) (sR fL1 Z (oA Z Z (eN (zP (zR ?_)))))
 have aV:=hS.nilrow 3 1
 cases aY
 exact ⟨Z,_,(zm Z),U,_,aV,none,0,Z,Z⟩
 replace c1:=zH c1
 refine zu (congrArg nG (nK.2 c1.out)) (kN (sR (.fx 0 (.fl 1 gCu) .stop) Z (OKS.buildSlice0 1 Z Z Z Z Z zD zC hS ?_)))
 intro W6 b7 aW
 have ak:sW w U U [.row (some ⟨b7,0,none⟩) 0 3 1 (nA KL.encI ([]:List Int))] W6:=aW
 refine oM Z Z (bnK hm fun x11 au aX=>OKS.append0 (j:=0) (enc:=KL.encI) (ys:=p0) (zs:=x11) Z Z Z Z Z yF wId Z Z Z Z Z Z ak Z Z Z (ak.srcS am) (fun _=>Z) au ?_)
 intro ah aj ao av
 have az:sW w U U [.row ah aj 3 1 (nA KL.encI x11)] ao:=av
 refine oA Z Z (eN (zP ?_))
 have hE:=nB aX;first | subst r | cases hE
 exact ⟨Z,_,(zm Z),U,_,az,ah,aj,Z,Z⟩
theorem wFJ (p0:List Int) (ab:Option Addr) (ae:Nat) (p1:(Int->Option Bool)) (az:Value) (w:World) (U:PHeap) (hS:St0 w U [.row ab ae 3 1 (nA KL.encI p0)]) (bp:FnOK Tryz.prog U az wIa wIb p1) {r:(List Int)} (hm:wBg p0 p1=some r):Gv Tryz.prog 111 [.slice ab p0.length ae,az] w (wBc w [.row ab ae 3 1 (nA KL.encI p0)] U (fun U_ L_ v=>∃ (A0:Option Addr) (c0:Nat),v=.slice A0 r.length c0/\L_=[.row A0 c0 3 1 (nA KL.encI r)])):=by
 unfold wBg at hm
 refine Gv.of Tryz.func111 Z Tryz.ntmps111 Tryz.results111 Z (sR fL1 Z (oA Z Z (eN (sR gDf Z (oM Z Z (oM Z Z ?_))))))
 have q:=hS.freezeT (k:=0) (n:=p0.length) rfl (wAC (f:=KL.encI) (sz:=1) (fun _=>rfl) p0) (by decide)
 obtain ⟨U3,cw,cr,bP,cx⟩:=q
 let B0:Res:=.row ab ae 3 1 (nA KL.encI p0)
 have bR:SW w [B0] U U3 [] w:=bP
 have h8:=bp.le cw
 refine bnK hm fun x9 bF bX=>zL 0 Z Z Z Z (zK Z Z Tryz.call156 (zB Z (zB Z zM)) Z) bR (fun hs=>wCn p0 ab ae p1 az w U3 hs cr h8 bF) (.inr Z) ?_
 rintro bA cz cG bh ct bM ⟨rfl,rfl⟩
 have bN:SW w [B0] U bA [] bh:=bM
 have q:=cx _ _ _ ct bN
 obtain ⟨an,cu,bO⟩:=q
 have bm:SW w [B0] U an [B0] bh:=bO
 refine oA Z Z (eN (zJ (sR fL2 Z (oM Z Z (oR Z (yO Z Z Z) (eN (ifc bX ?_ ?_)))))))
 intro aV bY
 refine cT Z aV (sR fL2 Z (oM Z Z (oA Z Z (eN (zP (zR ?_))))))
 have hE:=nB bY;first | subst r | cases hE
 exact ⟨Z,_,(zm Z),an,_,bm,ab,ae,Z,Z⟩
 intro aV bZ
 refine cF Z aV (kN (zJ (sR fL3 Z (oM Z Z (oR Z (zU Z Z Z) (oA Z Z (eN (zS (yr (fun (aa,x36,x37) σ_ w_=>∃ (U_:PHeap),σ_ 0=.slice ab aa.length ae/\σ_ 1=az/\σ_ 5=jV x36/\σ_ 6=jV x37/\PHeap.Le an U_/\SW w [B0] U U_ [.row ab ae 3 1 (nA KL.encI aa)] w_/\aa.length=p0.length) bZ ?_ ?_)))))))))
 exact ⟨an,Z,Z,Z,Z,(zN _),bm,Z⟩
 rintro ⟨aa,x36,x37⟩ cJ cK cB ⟨bg,aj,aX,ak,ap,aZ,am,bj⟩ aY bU
 try dsimp only at aY
 refine zJ (sR fL4 Z (oM Z ap (oM Z aj (oR Z (zn Z Z zD) (oR Z (zV Z Z Z) (eN ?_))))))
 by_cases ai:x37 < (↑aa.length:Int)
 have bs:=aY;rw [if_pos ai] at bs;replace ai:=zH ai
 refine cT Z ai (kN (zJ (zS (sR fL5 Z (oM Z aj (oM Z ap (bnK bs fun _ aq cd=>?_)))))))
 have q:=am.rowSome (j:=0) rfl (by rw [wAC (f:=KL.encI) (sz:=1) (fun _=>rfl) aa];have hz:=wAT aq;omega)
 obtain ⟨cC,av⟩:=q
 refine oR Z (ZA Z Z av Z zD zC (wBP aq) (wBQ aq)) ?_
 have bV:=wBb (xs:=aa) (wAT aq)
 refine ZC rfl rfl rfl rfl (am.ldR (j:=0) rfl av rfl rfl zG (wAa (sz:=1) (fun _=>rfl) _ _ 0 _ bV (by first | omega | rfl | simp) rfl)) rfl (Zw rfl rfl rfl rfl rfl rfl (eN (sR gDf rfl (zX rfl rfl rfl rfl rfl aX (zX rfl rfl rfl rfl rfl rfl (bnK cd fun x60 bG cg=>?_))))))
 have bH:=bp.le cu
 have bI:=bH.le aZ
 refine yI (a:=(gd aa x37.toNat)) Z Z Z Z Z Z (zB Z zM) am bI Z bG ?_
 rintro ao cA cH bC bz bQ ⟨rfl,rfl⟩
 have bn:SW w [B0] U ao [.row ab ae 3 1 (nA KL.encI aa)] bC:=bQ
 refine oR Z (ZB Z Z) (eN (ifc cg ?_ ?_))
 intro aW ci
 refine zu (nC aW.out) (Ze (zf (zI (rR fL3 Z (oM Z ap (oR Z (zU Z Z Z) (oA Z Z (zd ?_))))))))
 have q:=nB ci
 obtain rfl:=q
 exact zI ⟨Z,_,Z,⟨ao,aj,aX,ak,Z,(aZ.trans bz),bn,bj⟩⟩
 intro aW cj
 refine zo (nF (aW.out)) (sR (wDo (.fx 4 .nil .stop)) Z (oM Z aj (oM Z ak (oM Z Z (bnK cj fun _ au cm=>oR Z (ZA Z Z av Z zD zC (wBP au) (wBQ au)) ?_)))))
 have bW:=wBb (xs:=aa) (wAT au)
 refine yd (j:=0) (vs:=[jV (gd aa x37.toNat)]) (cs':=nA KL.encI (nE aa x36.toNat (gd aa x37.toNat))) rfl rfl rfl rfl bn rfl av rfl rfl rfl zC (by rw [wAC (f:=KL.encI) (sz:=1) (fun _=>rfl)];have hz:=wAT au;show _ + 1 <= _;first | omega | (simp only [nL];omega) | (simp only [nJ,nH,nI];omega)) rfl (wCo (sz:=1) (fo:=0) (fun _=>rfl) _ _ _ _ bW (by first | omega | (simp only [nL];omega) | (simp only [nJ,nH,nI];omega)) (zA rfl) rfl) rfl ?_
 intro bD bS
 have bT:SW w [B0] U ao [.row ab ae 3 1 (nA KL.encI (nE aa x36.toNat (gd aa x37.toNat)))] bD:=bS
 refine eN (rR fL3 Z (oM Z ak (oR Z (zU Z Z Z) (oA Z Z (zd (zf (zI (rR fL3 Z (oM Z ap (oR Z (zU Z Z Z) (oA Z Z (zd ?_))))))))))))
 have q:=nB cm
 obtain rfl:=q
 exact zI ⟨rfl,_,rfl,⟨ao,(nM (b:=(.slice ab aa.length ae:Value)) (c:=(.slice ab ((nE aa x36.toNat (gd aa x37.toNat)).length) ae:Value)) aj (by simp only [nD])),aX,rfl,rfl,(aZ.trans bz),bT,(nD.trans bj)⟩⟩
 have bu:=aY;rw [if_neg ai] at bu;replace ai:=zH ai
 refine cF Z ai (ZH (zZ ?_))
 have q:=wAc bu
 obtain ⟨cy,cn,bE⟩:=q
 have q:=bU cy bE
 obtain rfl:=q
 refine zZ (zx (zI (sR (wEQ (.fx 3 .nil .stop)) Z (oM Z aj (oM Z ak (bnK cn fun x91 bk cp=>?_))))))
 have q:=wII bk
 obtain ⟨cD,bq,br,cE,cq⟩:=q
 have bw:=am.rowCap (j:=0) rfl (by decide) (wAC (f:=KL.encI) (sz:=1) (fun _=>rfl) aa)
 refine zY (v:=.slice (if ae=(x36:Int).toNat then ab else nQ (fun q:Addr=>q.add ((x36:Int).toNat * 1)) (ab:Option Addr)) (((aa.length:Nat):Int).toNat - (x36:Int).toNat) (ae - (x36:Int).toNat)) rfl rfl rfl rfl (fun _=>Runs.slc (sz:=1) (a:=x36) (b:=((aa.length:Nat):Int)) rfl rfl (.inl ⟨_,rfl,rfl⟩) (.inr ⟨rfl,rfl⟩) zD zC bq br (nP _) bw) (OKS.clearTail (j:=0) (a:=x36) (f:=KL.encI) (m:=aa) (zs:=x91) rfl rfl rfl rfl am rfl (fun _=>rfl) (by decide) bk rfl zD ZW rfl rfl rfl ?_)
 intro bB bK
 have bL:SW w [B0] U bg [.row ab ae 3 1 (nA KL.encI x91)] bB:=bK
 refine eN (sR fL4 rfl (zX rfl rfl rfl rfl rfl aj (zX rfl rfl rfl rfl rfl ak (zY (v:=.slice ab x91.length ae) rfl rfl rfl rfl (fun _=>zt (Runs.slc (sz:=1) (a:=0) (b:=x36) rfl rfl (.inr ⟨rfl,rfl⟩) (.inl ⟨_,rfl,rfl⟩) zD zC (nP _) bq br bw) (slcK.trans (by rw [cq]))) (Zw rfl rfl rfl rfl rfl rfl (eN (zP ?_)))))))
 have hE:=nB cp;first | subst r | cases hE
 exact ⟨Z,_,(zm Z),bg,_,bL,ab,ae,Z,Z⟩
theorem wKP (p0:Int) (w:World) (U:PHeap) (hS:St0 w U [])  {r:Bool} (hm:wCr p0=some r):Gv Tryz.prog 113 [jV p0] w (wBc w [] U (fun U_ L_ v=>v=.bool r/\L_=[])):=by
 unfold wCr at hm
 refine Gv.of Tryz.func113 Z Tryz.ntmps113 Tryz.results113 Z (sR fL1 Z (oA Z Z (eN (sR fL3 Z (oM Z Z (oR Z (yO Z Z Z) (oA Z Z (eN (zP ?_)))))))))
 first | (obtain rfl:=nB hm) | cases hm
 exact ⟨Z,_,(zm Z),U,_,hS,Z,Z⟩
theorem wEr (p0:List Int) (ab:Option Addr) (ae:Nat) (w:World) (U:PHeap) (hS:St ⟨w,[.row ab ae 3 1 (nA KL.encI p0)],U⟩ U [.row ab ae 3 1 (nA KL.encI p0)] w) {r:List Int} (hm:wCP p0=some r):Gv Tryz.prog 114 [.slice ab p0.length ae] w (wBc w [.row ab ae 3 1 (nA KL.encI p0)] U (fun U_ L_ v=>v=.tuple #[]/\L_=[.row ab ae 3 1 (nA KL.encI r)]/\r.length=p0.length)) :=
 wQd (fun b o c zs w h1 h2 h3=>Go.Proofs.Tryz.slices_Sort_int b o c zs w h1 h2 h3) (fun p c w=>Go.Proofs.Tryz.slices_Sort_int_none p c w) hS hm
theorem wMD (p0:List Int) (bj:Option Addr) (bk:Nat) (w:World) (U:PHeap) (hS:St0 w U []) (bW:Sl U 1 bj bk p0.length (nA KL.encI p0)) {r:Bool} (hm:wDl p0=some r):Gv Tryz.prog 77 [.slice bj p0.length bk] w (wBc w [] U (fun U_ L_ v=>v=.bool r/\L_=[])):=by
 unfold wDl at hm
 refine Gv.of Tryz.func77 Z Tryz.ntmps77 Tryz.results77 Z (sR fL1 Z (oA Z Z (eN (sR (.fl 0 (.fx 1 gCu .stop)) Z (oM Z Z (bnK hm fun x1 h2 ci=>zL 0 Z Z Z Z (zK Z Z Tryz.call112 (zB Z zM) Z) hS (fun hs=>wFt p0 bj bk w U hs bW h2) (.inr Z) ?_))))))
 rintro U4 L5 v6 W7 cQ bV ⟨bm,bs,rfl,rfl⟩
 have bQ:sW w U U4 [.row bm bs 3 1 (nA KL.encI x1)] W7:=bV
 have bO:FnOK Tryz.prog U4 (.func (.func 113) #[] #[]) wIa wIb wCr:=⟨113,[],[],rfl,Tryz.call113,fun U1 w1 x y vs le hs ha hm=>by obtain rfl:=ha;exact wKP x w1 U1 hs  hm⟩
 refine bnK ci fun av bM cg=>zL 1 Z Z Z Z (zK Z Z Tryz.call111 (zB Z (zB Z zM)) Z) bQ (fun hs=>wFJ x1 bm bs wCr (.func (.func 113) #[] #[]) W7 U4 hs bO bM) (.inl Z) ?_
 rintro bp cE cS bq cO bR ⟨ab,ae,rfl,rfl⟩
 have bS:sW w U bp [.row ab ae 3 1 (nA KL.encI av)] bq:=bR
 refine oA Z Z (eN (sR gCt Z (oM Z Z (bnK cg fun x28 bN au=>zL 1 Z Z Z Z (zK Z Z Tryz.call114 (zB Z zM) Z) bS (fun hs=>wEr av ab ae bq bp hs bN) (.inl Z) ?_))))
 rintro az cG cU bF cP bT ⟨rfl,rfl,bz⟩
 let B0:Res:=.row ab ae 3 1 (nA KL.encI x28)
 have bU:sW w U az [B0] bF:=bT
 refine eN (sR fL1 rfl (Zw rfl rfl rfl rfl rfl rfl (eN (zJ (sR fL3 rfl (zX rfl rfl rfl rfl rfl (nM (b:=(.slice ab av.length ae:Value)) (c:=(.slice ab x28.length ae:Value)) rfl (by rw [bz])) (zY rfl rfl rfl rfl (fun _=>zn rfl rfl zD) (zX rfl rfl rfl rfl rfl rfl (eN (zS ?_))))))))))
 have q:=wCT au
 obtain ⟨cR,aq⟩:=q
 have q:=wCS aq
 obtain ⟨bh,bY⟩:=q
 replace bh:=zH bh
 refine yQ (fun aj x44 σ_ w_=>∃ (U_:PHeap),σ_ 14=jV (↑aj:Int)/\σ_ 3=.slice ab x28.length ae/\σ_ 4=jV x44/\σ_ 12=.slice ab x28.length ae/\σ_ 13=jV (↑x28.length:Int)/\PHeap.Le az U_/\sW w U U_ [B0] w_) bY ?_ ?_ ?_
 exact ⟨az,rfl,(nM (b:=(.slice ab av.length ae:Value)) (c:=(.slice ab x28.length ae:Value)) rfl (by rw [bz])),rfl,rfl,rfl,(zN _),bU⟩
 rintro aj x44 cW cY cI bg ⟨ai,ah,am,aZ,an,ao,bi,ag⟩ cA bA
 have bu:Hid ((↑aj:Int) < (↑x28.length:Int)):=zH (wBG bg)
 replace bg:=zH bg
 have be:Hid (w64 ((↑aj:Int) + 1)=(↑(aj + 1):Int)):=zH (by have h1:=bh.out;have h2:=bu.out;rw [wAX] <;> omega)
 refine sR fL1 Z (oR Z (zV Z ah ao) (eN (zJ (cT Z bu (kN (zJ (zS (sR fL5 Z (oM Z ah (bnK cA fun _ ba cj=>?_))))))))))
 have q:=ag.rowSome (j:=0) rfl (by rw [wAC (f:=KL.encI) (sz:=1) (fun _=>rfl) x28];have hz:=wAT ba;omega)
 obtain ⟨cK,ap⟩:=q
 refine oR Z (ZV Z an ap ah zD zC (wAT ba)) ?_
 have bZ:=wBb (xs:=x28) (wAT ba)
 refine ZC rfl rfl rfl rfl (ag.ldR (j:=0) rfl ap rfl rfl zG (wAa (sz:=1) (fun _=>rfl) _ _ 0 _ bZ (by first | omega | rfl | simp) rfl)) rfl (Zw rfl rfl rfl rfl rfl rfl (Zw rfl rfl rfl rfl rfl rfl (eN (zJ (sR wWK rfl (zX rfl rfl rfl rfl rfl rfl (zY rfl rfl rfl rfl (fun _=>yO rfl rfl rfl) (zX rfl rfl rfl rfl rfl rfl (ifc cj ?_ ?_)))))))))
 intro aa cm
 refine oT Z aa (oT Z aa (oT Z aa (oT Z aa (oT Z aa (oT Z aa (oT Z aa (oR Z (zb Z (ZU aa.out) Z) (eN (zo Z (zJ (sR fL3 Z (oM Z Z (oM Z aZ (oR Z (zV Z Z Z) (eN (ifc cm ?_ ?_))))))))))))))))
 intro aW cn
 refine cT Z aW (sR fL1 Z (oA Z Z (eN (zP (zR (zR (za (zR ?_))))))))
 have q:=wAc cn
 obtain ⟨cB,cp,bH⟩:=q
 have q:=wBn au aq (bA cB bH)
 obtain rfl:=q
 refine zR (za (zR ?_))
 have hE:=nB cp;first | subst r | cases hE
 exact ⟨rfl,_,(zm rfl),ai,_,(ag.pick [] _ (by decide) rfl),rfl,rfl⟩
 intro aW cq
 refine cF Z aW (kN (rR fL2 Z (oM Z Z (oA Z Z (eN (rR fL3 Z (oM Z Z (oR Z (zU Z Z Z) (oA Z Z (zd (zf (zI (rR fL2 Z (oR Z (zt (zU Z ah Z) (congrArg (jV) be.out)) (oM Z Z (zd ?_))))))))))))))))
 have q:=nB cq
 obtain rfl:=q
 exact zI ⟨Z,_,Z,⟨ai,Z,am,Z,an,ao,bi,ag⟩⟩
 intro aa cr
 refine zX Z Z Z (wF Z aa) Z Z (zX Z Z Z (wF Z aa) Z am (zX Z Z Z (wF Z aa) Z Z (rU Z (wF Z aa) (Zk Z Z Z) (bnK cr fun _ bb ct=>rU Z (wF Z aa) (ZA Z Z ap Z zD zC (wBP bb) (wBQ bb)) ?_))))
 have cd:=wBb (xs:=x28) (wAT bb)
 refine ZC rfl rfl rfl (zQ rfl rfl (ZT aa.out)) (ag.ldR (j:=0) rfl ap rfl rfl zG (wAa (sz:=1) (fun _=>rfl) _ _ 0 _ cd (by first | omega | rfl | simp) rfl)) rfl (zY rfl rfl rfl (zQ rfl rfl (ZT aa.out)) (fun _=>Zz rfl rfl rfl) (zY rfl rfl rfl rfl (fun _=>zi rfl (ZT aa.out) rfl) (eN (ifc ct ?_ ?_))))
 intro aX cu
 refine zu (ZT (fun h=>h aX.out)) (kN (rR fL3 Z (oM Z aZ (oR Z (zU Z Z Z) (oA Z Z (zd (zf (zI (rR fL2 Z (oR Z (zt (zU Z ah Z) (congrArg (jV) be.out)) (oM Z Z (zd ?_))))))))))))
 have q:=nB cu
 obtain rfl:=q
 exact zI ⟨Z,_,Z,⟨ai,Z,am,Z,an,ao,bi,ag⟩⟩
 intro aX cw
 refine cT Z aX (zJ (sR fL3 Z (oM Z Z (oM Z aZ (oR Z (zV Z Z Z) (eN (ifc cw ?_ ?_)))))))
 intro aY cx
 refine cT Z aY (sR fL1 Z (oA Z Z (eN (zP (zR (zR (za (zR ?_))))))))
 have q:=wAc cx
 obtain ⟨cC,cy,bI⟩:=q
 have q:=wBn au aq (bA cC bI)
 obtain rfl:=q
 refine zR (za (zR ?_))
 have hE:=nB cy;first | subst r | cases hE
 exact ⟨rfl,_,(zm rfl),ai,_,(ag.pick [] _ (by decide) rfl),rfl,rfl⟩
 intro aY cz
 refine cF Z aY (kN (rR fL2 Z (oM Z Z (oA Z Z (eN (rR fL3 Z (oM Z Z (oR Z (zU Z Z Z) (oA Z Z (zd (zf (zI (rR fL2 Z (oR Z (zt (zU Z ah Z) (congrArg (jV) be.out)) (oM Z Z (zd ?_))))))))))))))))
 have q:=nB cz
 obtain rfl:=q
 exact zI ⟨Z,_,Z,⟨ai,Z,am,Z,an,ao,bi,ag⟩⟩
 rintro cX cZ cJ ⟨bE,bL,cL,bJ,cM,bK,cN,bP⟩ bX
 have bB:=wDe au aq bX
 have bG:Hid (¬ ((↑(((↑x28.length:Int):Int) - 0).toNat:Int) < (↑x28.length:Int))):=zH (wAq)
 refine sR fL1 Z (oR Z (zV Z bL bK) (eN (zJ (cF Z bG (ZH (zZ (zZ (zx (zI (sR fL3 Z (oM Z bJ (oR Z (yG Z Z Z) (oA Z Z (eN (zP ?_)))))))))))))))
 first | (obtain rfl:=nB bB) | cases bB
 exact ⟨rfl,_,(zm rfl),bE,_,(bP.pick [] _ (by decide) rfl),rfl,rfl⟩
theorem wME (p0:wBq) (am:Option Addr) (an:Nat) (aj:Option Addr) (ak:Nat) (w:World) (U:PHeap) (hS:St0 w U []) (dm:Sl U 1 am an p0.Points.length (nA KL.encI p0.Points)) (dp:SlR U wHx aj ak p0.Done) {r:Int} (hm:wFG p0=some r):Gv Tryz.prog 46 [.agg #[jV p0.Skiers,jV p0.Races,jV p0.Best,.slice am p0.Points.length an,.slice aj p0.Done.length ak]] w (wBc w [] U (fun U_ L_ v=>v=jV r/\L_=[])):=by
 unfold wFG at hm
 refine Gv.of Tryz.func46 Z Tryz.ntmps46 Tryz.results46 Z (sR gCr Z ?_)
 let B0:List Value:=[jV p0.Skiers,jV p0.Races,jV p0.Best,.slice am p0.Points.length an,.slice aj p0.Done.length ak]
 refine zq (cs:=B0) rfl rfl rfl rfl rfl rfl (by rfl) hS ?_
 intro W1 b2 da
 have q:=da.freeze (k:=0) rfl
 obtain ⟨U5,cp,au,dg⟩:=q
 replace au:=Cl.of au
 have cj:sW w U U5 [] W1:=dg
 replace au:Cl U5 b2 0 B0:=au
 refine oA Z Z (eN (zJ (zS (sR (.fl 0 (.fl 1 (.fx 2 (wNw (.fx 7 (wWW (.fx 15 (wUX (.nil)) .stop)) .stop)) .stop))) Z (oR Z (zF Z Z ZJ Z zC) (oL Z (cj.ldC (f:=0) au (v:=jV p0.Skiers) Z Z zG Z) (bnK hm fun x10 ct dt=>zL 0 Z Z Z Z (zK Z Z Tryz.call68 (zB Z (zB Z (zB Z zM))) Z) cj (fun hs=>wDv p0.Skiers 1 12 W1 U5 hs ct) (.inr Z) ?_)))))))
 rintro be dX ew bP bF c8 ⟨rfl,rfl⟩
 have bA:sW w U be [] bP:=c8
 refine oR Z (ZB Z Z) (oM Z Z (ifc dt ?_ ?_))
 intro ai dI
 refine zY Z Z Z (zQ Z Z (nC ai.out)) (fun _=>zF Z Z ZJ Z zC) ?_
 have bX:=au.le bF
 refine ZC Z Z Z (zQ Z Z (nC ai.out)) (bA.ldC (f:=1) bX (v:=jV p0.Races) Z Z zG Z) Z (bnK dI fun x23 cD dJ=>zL 0 Z Z Z (zQ Z Z (nC ai.out)) (zK Z Z Tryz.call68 (zB Z (zB Z (zB Z zM))) Z) bA (fun hs=>wDv p0.Races 1 20 bP be hs cD) (.inr Z) ?_)
 rintro bh dZ ey bQ bG db ⟨rfl,rfl⟩
 have ba:sW w U bh [] bQ:=db
 refine zY Z Z Z (zQ Z Z (nC ai.out)) (fun _=>ZB Z Z) (oR Z (zi Z (nC ai.out) Z) (oM Z Z (ifc dJ ?_ ?_)))
 intro ab dK
 refine zY Z Z Z (zQ Z Z (nC ab.out)) (fun _=>zF Z Z ZJ Z zC) ?_
 have br:=bX.le bG
 refine ZC Z Z Z (zQ Z Z (nC ab.out)) (ba.ldC (f:=2) br (v:=jV p0.Best) Z Z zG Z) Z (zY Z Z Z (zQ Z Z (nC ab.out)) (fun _=>zF Z Z ZJ Z zC) (ZC Z Z Z (zQ Z Z (nC ab.out)) (ba.ldC (f:=1) br (v:=jV p0.Races) Z Z zG Z) Z (bnK dK fun x36 cE dL=>zL 0 Z Z Z (zQ Z Z (nC ab.out)) (zK Z Z Tryz.call68 (zB Z (zB Z (zB Z zM))) Z) ba (fun hs=>wDv p0.Best 1 p0.Races bQ bh hs cE) (.inr Z) ?_)))
 rintro bi d5 ez bR bH de ⟨rfl,rfl⟩
 have bB:sW w U bi [] bR:=de
 refine zY Z Z Z (zQ Z Z (nC ab.out)) (fun _=>ZB Z Z) (oR Z (zi Z (nC ab.out) Z) (oA Z Z (eN (ifc dL ?_ ?_))))
 intro bp dM
 refine zu (nC bp.out) (sR (wEQ (.fx 3 (wWQ (.fx 17 (wUY (.nil)) .stop)) .stop)) Z (oR Z (zF Z Z ZJ Z zk) ?_))
 have bY:=br.le bH
 refine oL Z (bB.ldC (f:=3) bY (v:=.slice am p0.Points.length an) Z Z zr Z) (oR Z (zn Z Z zD) (bnK dM fun x49 cG dN=>zL 0 Z Z Z Z (zK Z Z Tryz.call68 (zB Z (zB Z (zB Z zM))) Z) bB (fun hs=>wDv (↑p0.Points.length:Int) 1 60 bR bi hs cG) (.inr Z) ?_))
 rintro az d7 eA bS bI df ⟨rfl,rfl⟩
 have av:sW w U az [] bS:=df
 refine oR Z (ZB Z Z) (oM Z Z (ifc dN ?_ ?_))
 intro ae dO
 refine zY Z Z Z (zQ Z Z (nC ae.out)) (fun _=>zF Z Z ZJ Z yj) ?_
 have aV:=bY.le bI
 refine ZC Z Z Z (zQ Z Z (nC ae.out)) (av.ldC (f:=4) aV (v:=.slice aj p0.Done.length ak) Z Z ym Z) Z (zY Z Z Z (zQ Z Z (nC ae.out)) (fun _=>zn Z Z ZK) (zY Z Z Z (zQ Z Z (nC ae.out)) (fun _=>zF Z Z ZJ Z zC) (ZC Z Z Z (zQ Z Z (nC ae.out)) (av.ldC (f:=1) aV (v:=jV p0.Races) Z Z zG Z) Z (zY Z Z Z (zQ Z Z (nC ae.out)) (fun _=>yG Z Z Z) (oR Z (zi Z (nC ae.out) Z) (oM Z Z (ifc dO ?_ ?_)))))))
 intro ag dP
 refine oT Z ag (oT Z ag (oT Z ag (Zr Z Z Z (ze Z Z (ZU ag.out) Z) (oT Z ag (oR Z (zb Z (ZU ag.out) Z) (oA Z Z (eN (zo Z (sR fL1 Z (oA Z Z (eN (zP (za (zR ?_))))))))))))))
 cases dP
 exact ⟨Z,_,(zm Z),az,_,av,Z,Z⟩
 intro ag dQ
 refine rU Z (wF Z ag) (zF Z Z ZJ Z yj) (ZC Z Z Z (wF Z ag) (av.ldC (f:=4) aV (v:=.slice aj p0.Done.length ak) Z Z ym Z) Z (rU Z (wF Z ag) (yJ Z zM (zB Z zM)) ?_))
 have cH:=dp.le cp
 have cI:=cH.le bF
 have cJ:=cI.le bG
 have cK:=cJ.le bH
 have bs:=cK.le bI
 have cL:=dm.le cp
 have cM:=cL.le bF
 have cN:=cM.le bG
 have cO:=cN.le bH
 have bZ:=cO.le bI
 have cU:FnOK Tryz.prog az (.func (.func 70) #[] #[.pointer (some ⟨b2,0,none⟩)]) wLC wLD (fun x=>wDT x p0):=⟨70,[],[.pointer (some ⟨b2,0,none⟩)],rfl,Tryz.call70,fun U1 w1 x y vs le hs ha hm=>by obtain ⟨pA_0,pc_0,rfl,hq0_0⟩:=ha;exact wKL x pA_0 pc_0 p0 b2 am an aj ak w1 U1 hs hq0_0 (aV.le le) (bZ.le le) (bs.le le) hm⟩
 refine bnK dQ fun x76 cP dR=>zL 0 Z Z Z (wF Z ag) (zK Z Z Tryz.call69 (zB Z (zB Z zM)) Z) av (fun hs=>wHQ p0.Done aj ak (fun x=>wDT x p0) (.func (.func 70) #[] #[.pointer (some ⟨b2,0,none⟩)]) bS az hs bs cU cP) (.inr Z) ?_
 rintro aX d9 eB bT bJ dh ⟨rfl,rfl⟩
 have bC:sW w U aX [] bT:=dh
 refine rU Z (wF Z ag) (ZB Z Z) (oR Z (zi Z (ZT ag.out) Z) (oA Z Z (eN (ifc dR ?_ ?_))))
 intro bq dS
 refine zu (nC bq.out) (zJ (yu fun dU cm=>?_))
 have aZ:dU 1=.pointer (some ⟨b2,0,none⟩):=(cm 1).trans rfl
 clear cm
 refine rR (.fl 0 (.fl 1 (.fx 2 (wNw (.fx 7 (wSQ (.nil)) .stop)) .stop))) Z (oR Z (zF Z aZ ZJ Z zk) ?_)
 have cd:=aV.le bJ
 refine oL Z (bC.ldC (f:=3) cd (v:=.slice am p0.Points.length an) Z Z zr Z) ?_
 have cg:=bZ.le bJ
 have cV:FnOK Tryz.prog aX (.func (.func 72) #[] #[]) wIa wIb wDV:=⟨72,[],[],rfl,Tryz.call72,fun U1 w1 x y vs le hs ha hm=>by obtain rfl:=ha;exact wKM x w1 U1 hs  hm⟩
 refine bnK dS fun x94 cQ dT=>zL 0 Z Z Z Z (zK Z Z Tryz.call71 (zB Z (zB Z zM)) Z) bC (fun hs=>wFn p0.Points am an wDV (.func (.func 72) #[] #[]) bT aX hs cg cV cQ) (.inr Z) ?_
 rintro aY ef eD bM bD cW ⟨rfl,rfl⟩
 have bu:sW w U aY [] bM:=cW
 refine oR Z (ZB Z Z) (oM Z Z (ifc dT ?_ ?_))
 intro ah dq
 refine zY Z Z Z (zQ Z Z (nC ah.out)) (fun _=>zF Z aZ ZJ Z yj) ?_
 have bU:=cd.le bD
 refine ZC Z Z Z (zQ Z Z (nC ah.out)) (bu.ldC (f:=4) bU (v:=.slice aj p0.Done.length ak) Z Z ym Z) Z ?_
 have cr:=bs.le bJ
 have bV:=cr.le bD
 have cR:FnOK Tryz.prog aY (.func (.func 73) #[] #[]) wLC wLD wDW:=⟨73,[],[],rfl,Tryz.call73,fun U1 w1 x y vs le hs ha hm=>by obtain ⟨pA_0,pc_0,rfl,hq0_0⟩:=ha;exact wKN x pA_0 pc_0 w1 U1 hs hq0_0 hm⟩
 refine bnK dq fun x110 cu dr=>zL 0 Z Z Z (zQ Z Z (nC ah.out)) (zK Z Z Tryz.call69 (zB Z (zB Z zM)) Z) bu (fun hs=>wHQ p0.Done aj ak wDW (.func (.func 73) #[] #[]) bM aY hs bV cR cu) (.inr Z) ?_
 rintro bb dV en bN bE cX ⟨rfl,rfl⟩
 have bw:sW w U bb [] bN:=cX
 refine zY Z Z Z (zQ Z Z (nC ah.out)) (fun _=>ZB Z Z) (oR Z (zi Z (nC ah.out) Z) (oA Z Z (eN (ifc dr ?_ ?_))))
 intro bk du
 refine zu (nC bk.out) (sR gDg Z (oR Z (zF Z aZ ZJ Z zk) ?_))
 have bW:=bU.le bE
 refine oL Z (bw.ldC (f:=3) bW (v:=.slice am p0.Points.length an) Z Z zr Z) ?_
 have cw:=cg.le bD
 have cx:=cw.le bE
 refine bnK du fun eE cy dv=>zL 0 Z Z Z Z (zK Z Z Tryz.call75 (zB Z zM) Z) bw (fun hs=>wMC p0.Points am an bN bb hs cx cy) (.inr Z) ?_
 rintro aW dW er bO cn cY ⟨rfl,rfl⟩
 have bz:sW w U aW [] bO:=cY
 refine oR Z (ZB Z Z) (oA Z Z (eN (ifc dv ?_ ?_)))
 intro bm dw
 refine zu (nC bm.out) (sR gDf Z (oR Z (zF Z aZ ZJ Z yj) ?_))
 have cz:=bW.le cn
 refine oL Z (bz.ldC (f:=4) cz (v:=.slice aj p0.Done.length ak) Z Z ym Z) ?_
 have cA:=bV.le bE
 have cB:=cA.le cn
 have cS:FnOK Tryz.prog aW (.func (.func 77) #[] #[]) wLC wLD wDl:=⟨77,[],[],rfl,Tryz.call77,fun U1 w1 x y vs le hs ha hm=>by obtain ⟨pA_0,pc_0,rfl,hq0_0⟩:=ha;exact wMD x pA_0 pc_0 w1 U1 hs hq0_0 hm⟩
 refine bnK dw fun eF cC dx=>zL 0 Z Z Z Z (zK Z Z Tryz.call76 (zB Z (zB Z zM)) Z) bz (fun hs=>wCu p0.Done aj ak wDl (.func (.func 77) #[] #[]) bO aW hs cB cS cC) (.inr Z) ?_
 rintro bg dY eu cq eh cZ ⟨rfl,rfl⟩
 have ci:sW w U bg [] cq:=cZ
 refine oA Z Z (eN (ifc dx ?_ ?_))
 intro bn dy
 refine zo (congrArg nG bn.out) (sR fL1 Z (oA Z Z (eN (zP (za (zR ?_))))))
 cases dy
 exact ⟨Z,_,(zm Z),bg,_,ci,Z,Z⟩
 intro bn dz
 refine zu (congrArg nG (nK.2 bn.out)) (Ze (zf (zI (sR fL1 Z (oA Z Z (eN (zP ?_)))))))
 cases dz
 exact ⟨Z,_,(zm Z),bg,_,ci,Z,Z⟩
 intro bm dA
 refine zo (nF (bm.out)) (sR fL1 Z (oA Z Z (eN (zP (za (zR ?_))))))
 cases dA
 exact ⟨Z,_,(zm Z),aW,_,bz,Z,Z⟩
 intro bk dB
 refine zo (nF (bk.out)) (sR fL1 Z (oA Z Z (eN (zP (za (zR ?_))))))
 cases dB
 exact ⟨Z,_,(zm Z),bb,_,bw,Z,Z⟩
 intro ah dC
 refine ZG Z Z Z (ze Z Z (nF (ah.out)) Z) (ZG Z Z Z (ze Z Z (nF (ah.out)) Z) (Zr Z Z Z (ze Z Z (nF (ah.out)) Z) (ZG Z Z Z (ze Z Z (nF (ah.out)) Z) (oR Z (zb Z (nF (ah.out)) Z) (oA Z Z (eN (zo Z (sR fL1 Z (oA Z Z (eN (zP (za (zR ?_)))))))))))))
 cases dC
 exact ⟨Z,_,(zm Z),aY,_,bu,Z,Z⟩
 intro bq dD
 refine zo (nF (bq.out)) (sR fL1 Z (oA Z Z (eN (zP (za (zR ?_))))))
 cases dD
 exact ⟨Z,_,(zm Z),aX,_,bC,Z,Z⟩
 intro ae dE
 refine ZG Z Z Z (ze Z Z (nF (ae.out)) Z) (ZG Z Z Z (ze Z Z (nF (ae.out)) Z) (ZG Z Z Z (ze Z Z (nF (ae.out)) Z) (ZG Z Z Z (ze Z Z (nF (ae.out)) Z) (ZG Z Z Z (ze Z Z (nF (ae.out)) Z) (ZG Z Z Z (ze Z Z (nF (ae.out)) Z) (oR Z (zb Z (nF (ae.out)) Z) (oM Z Z (oN Z (oN Z (oN Z (Zr Z Z Z (ze Z Z Z Z) (oN Z (oR Z (zb Z Z Z) (oA Z Z (eN (zo Z (sR fL1 Z (oA Z Z (eN (zP (za (zR ?_))))))))))))))))))))))
 cases dE
 exact ⟨Z,_,(zm Z),az,_,av,Z,Z⟩
 intro bp dF
 refine zo (nF (bp.out)) (sR fL1 Z (oA Z Z (eN (zP (za (zR ?_))))))
 cases dF
 exact ⟨Z,_,(zm Z),bi,_,bB,Z,Z⟩
 intro ab dG
 refine ZG Z Z Z (ze Z Z (nF (ab.out)) Z) (ZG Z Z Z (ze Z Z (nF (ab.out)) Z) (ZG Z Z Z (ze Z Z (nF (ab.out)) Z) (ZG Z Z Z (ze Z Z (nF (ab.out)) Z) (Zr Z Z Z (ze Z Z (nF (ab.out)) Z) (ZG Z Z Z (ze Z Z (nF (ab.out)) Z) (oR Z (zb Z (nF (ab.out)) Z) (oA Z Z (eN (zo Z (sR fL1 Z (oA Z Z (eN (zP (za (zR ?_)))))))))))))))
 cases dG
 exact ⟨Z,_,(zm Z),bh,_,ba,Z,Z⟩
 intro ai dH
 refine ZG Z Z Z (ze Z Z (nF (ai.out)) Z) (ZG Z Z Z (ze Z Z (nF (ai.out)) Z) (Zr Z Z Z (ze Z Z (nF (ai.out)) Z) (ZG Z Z Z (ze Z Z (nF (ai.out)) Z) (oR Z (zb Z (nF (ai.out)) Z) (oM Z Z (oN Z (oN Z (oN Z (oN Z (Zr Z Z Z (ze Z Z Z Z) (oN Z (oR Z (zb Z Z Z) (oA Z Z (eN (zo Z (sR fL1 Z (oA Z Z (eN (zP (za (zR ?_)))))))))))))))))))))
 cases dH
 exact ⟨Z,_,(zm Z),be,_,bA,Z,Z⟩
theorem wMF (p0:wBq) (ae:Option Addr) (ah:Nat) (ag:Option Addr) (ai:Nat) (w:World) (U:PHeap) (hS:St0 w U []) (aW:Sl U 1 ae ah p0.Points.length (nA KL.encI p0.Points)) (aX:SlR U wHx ag ai p0.Done) {r:wCM × Int} (hm:wFf p0=some r):Gv Tryz.prog 22 [.agg #[jV p0.Skiers,jV p0.Races,jV p0.Best,.slice ae p0.Points.length ah,.slice ag p0.Done.length ai]] w (wBc w [] U (fun U_ L_ v=>∃ (am:Option Addr) (aq:Nat) (an:Option Addr) (au:Nat),v=.tuple #[.agg #[jV r.1.Cup.Skiers,jV r.1.Cup.Races,jV r.1.Cup.Best,.slice am r.1.Cup.Points.length aq,.slice an r.1.Cup.Done.length au],jV r.2]/\L_=[]/\Sl U_ 1 am aq r.1.Cup.Points.length (nA KL.encI r.1.Cup.Points)/\SlR U_ wHx an au r.1.Cup.Done)):=by
 unfold wFf at hm
 refine Gv.of Tryz.func22 Z Tryz.ntmps22 Tryz.results22 Z (sR gDa Z ?_)
 let B0:List Value:=[jV p0.Skiers,jV p0.Races,jV p0.Best,.slice ae p0.Points.length ah,.slice ag p0.Done.length ai]
 refine zq (cs:=B0) rfl rfl rfl rfl rfl rfl (by rfl) hS ?_
 intro W1 b2 bk
 let B1:List Value:=[jV 0,jV 0,jV 0,.slice none 0 0,.slice none 0 0]
 refine zg (cs:=B1) Z Z Z Z Z Tryz.zeroValue89 Z bk ?_
 intro W5 b6 aV
 refine oA Z Z (eN (sR gDd Z (oL Z (aV.ldBA (j:=1) Z Z Z YA Zh (vs:=B0) Z Z) (bnK hm fun x9 be bm=>zL 0 Z Z Z Z (zK Z Z Tryz.call46 (zB Z zM) Z) aV (fun hs=>wME p0 ae ah ag ai W5 U hs aW aX be) (.inr Z) ?_))))
 rintro ak bp br aZ aY bi ⟨rfl,rfl⟩
 have av:sW w U ak [.blk b6 89 B1,.blk b2 51 B0] aZ:=bi
 refine oA Z Z (eN (sR (wEQ gCv) Z (oL Z (av.ldBA (j:=1) Z Z Z YA Zh (vs:=B0) Z Z) (oR Z (ZN (pv:=[(0,.agg B0.toArray)]) (z:=B1) (cs:=B0) Z (wAG Z wAZ) Tryz.zeroValue89 wRE Z Z) (oM Z Z (zh (j:=0) (vs:=B0) Z Z Z Z av Z Z Z Z Tryz.sizeOf89 (zA Z) Z Z Z ?_))))))
 intro ba bj
 have az:sW w U ak [.blk b6 89 B0,.blk b2 51 B0] ba:=bj
 refine oA Z Z (eN (zP ?_))
 have bg:=aW.le aY
 have bh:=aX.le aY
 cases bm
 exact ⟨rfl,_,(wFc (rs:=[.cell 2 89,.tmp 3]) (vs:=[.agg B0.toArray,jV x9]) ⟨⟨_,rfl,(wBo Tryz.isAgg89 Tryz.sizeOf89 (az.blkAt (k:=0) rfl) (vs:=B0) rfl rfl)⟩,⟨rfl,trivial⟩⟩ rfl),ak,_,(az.pick [] _ (by decide) rfl),ae,ah,ag,ai,rfl,rfl,bg,bh⟩
set_option maxHeartbeats 4000000
theorem wLL (p0:List Int) (ai:Option Addr) (aj:Nat) (w:World) (U:PHeap) (hS:St0 w U []) (bh:Sl U 1 ai aj p0.length (nA KL.encI p0)) {r:Int} (hm:wFY p0=some r):Gv Tryz.prog 79 [.slice ai p0.length aj] w (wBc w [] U (fun U_ L_ v=>v=jV r/\L_=[])):=by
 unfold wFY at hm
 refine Gv.of Tryz.func79 Z Tryz.ntmps79 Tryz.results79 Z (sR fL1 Z (oA Z Z (eN (sR fL1 Z (oA Z Z (eN (zJ (sR fL3 Z (oM Z Z (oR Z (zn Z Z zD) (oM Z Z (eN (zS (bnK hm fun bB bj bn=>?_))))))))))))))
 have q:=wBM bj
 obtain ⟨ah,bi⟩:=q
 replace ah:=zH ah
 refine CK.forN' (fun k7 x6 σ_ w_=>∃ (U_:PHeap),σ_ 8=jV (↑k7:Int)/\σ_ 3=jV x6/\σ_ 6=.slice ai p0.length aj/\σ_ 7=jV (↑p0.length:Int)/\PHeap.Le U U_/\sW w U U_ [] w_) bi ?_ ?_ ?_
 exact ⟨U,Z,Z,Z,Z,(zN _),hS⟩
 rintro k7 x6 bA bC bq ag ⟨av,ae,aW,am,an,aq,ap⟩ bp
 have ak:Hid ((↑k7:Int) < (↑p0.length:Int)):=zH (wBG ag)
 replace ag:=zH ag
 have bk:Hid (w64 ((↑k7:Int) + 1)=(↑(k7 + 1):Int)):=zH (by have h1:=ah.out;have h2:=ak.out;rw [wAX] <;> omega)
 refine sR fL1 Z (oR Z (zV Z ae an) (eN (zJ (cT Z ak (kN (zJ (zS (sR fL3 Z (bnK bp fun x28 ao bm=>?_)))))))))
 have ba:=bh.le aq
 have q:=ba.el (fun _=>rfl) (wAj ao)
 obtain ⟨bs,bz,bb,be⟩:=q
 refine oR Z (ZV Z am bb ae zD zC (wCZ ao)) (oL Z (ap.ldC (f:=0) be (v:=jV x28) Z Z zG Z) (oA Z Z (eN (rR fL4 Z (oM Z aW (oM Z Z (oR Z (zU Z Z Z) (oA Z Z (zd (zf (zI (rR fL2 Z (oR Z (zt (zU Z ae Z) (congrArg (jV) bk.out)) (oM Z Z (zd ?_)))))))))))))))
 cases bm
 exact zI ⟨Z,⟨av,Z,Z,am,an,aq,ap⟩⟩
 rintro bD br ⟨az,aZ,aX,bu,aY,bw,bg⟩
 have aV:Hid (¬ ((↑(((↑p0.length:Int):Int) - 0).toNat:Int) < (↑p0.length:Int))):=zH (wAq)
 refine sR fL1 Z (oR Z (zV Z aZ aY) (eN (zJ (cF Z aV (ZH (zZ (zZ (zx (zI (sR fL2 Z (oM Z aX (oA Z Z (eN (zP ?_))))))))))))))
 have hE:=nB bn;first | subst r | cases hE
 exact ⟨Z,_,(zm Z),az,_,bg,Z,Z⟩
theorem wIn (p0:wBq) (ae:Option Addr) (ag:Nat) (ak:Option Addr) (am:Nat) (p1:Int) (p2:Int) (w:World) (U:PHeap) (hS:St0 w U []) (aq:Sl U 1 ae ag p0.Points.length (nA KL.encI p0.Points)) (bq:SlR U wHx ak am p0.Done) {r:Int} (hm:wDL p0 p1 p2=some r):Gv Tryz.prog 117 [.agg #[jV p0.Skiers,jV p0.Races,jV p0.Best,.slice ae p0.Points.length ag,.slice ak p0.Done.length am],jV p1,jV p2] w (wBc w [] U (fun U_ L_ v=>v=jV r/\L_=[])):=by
 unfold wDL at hm
 refine Gv.of Tryz.func117 Z Tryz.ntmps117 Tryz.results117 Z (sR gCr Z ?_)
 let B0:List Value:=[jV p0.Skiers,jV p0.Races,jV p0.Best,.slice ae p0.Points.length ag,.slice ak p0.Done.length am]
 refine zq (cs:=B0) rfl rfl rfl rfl rfl rfl (by rfl) hS ?_
 intro W1 b2 ai
 refine oA Z Z (eN (sR fL9 Z (oR Z (zF Z Z ZJ Z zk) (oL Z (ai.ldB (j:=0) Z Z Z zr (v:=.slice ae p0.Points.length ag) Z) (oR Z (zn Z Z zD) (oM Z Z (oR Z (Zk Z Z Z) (oM Z Z (oR Z (zU Z Z Z) (oR Z (Runs.min Z Z Z) (oA Z Z (eN (zJ (sR fL3 Z (oM Z Z (oM Z Z (oR Z (yG Z Z Z) (eN ?_))))))))))))))))))
 by_cases c5:(min (↑p0.Points.length:Int) (w64 ((w64 (p1 - 1)) + p2))) < p1
 have au:=hm;rw [if_pos c5] at au;replace c5:=zH c5
 refine cT Z c5 (sR fL1 Z (oA Z Z (eN (zP (zR ?_)))))
 cases au
 exact ⟨rfl,_,(zm rfl),U,_,(ai.pick [] _ (by decide) rfl),rfl,rfl⟩
 have av:=hm;rw [if_neg c5] at av;replace c5:=zH c5
 refine cF Z c5 (kN (sR (wJO gCs) Z (oR Z (zF Z Z ZJ Z zk) (oL Z (ai.ldB (j:=0) Z Z Z zr (v:=.slice ae p0.Points.length ag) Z) (oM Z Z (oR Z (Zk Z Z Z) (oM Z Z (bnK av fun x8 h9 bk=>?_))))))))
 have q:=Sl.cutM (sz:=1) (f:=KL.encI) aq (fun _=>rfl) h9
 obtain ⟨an,bh,bi,bj,bn⟩:=q
 refine zY (v:=.slice (if ag=((w64 (p1 - 1)):Int).toNat then ae else nQ (·.add (((w64 (p1 - 1)):Int).toNat * 1)) ae) x8.length (ag - ((w64 (p1 - 1)):Int).toNat)) rfl rfl rfl rfl (fun _=>zt (Runs.slc (sz:=1) (a:=(w64 (p1 - 1))) (b:=(min (↑p0.Points.length:Int) (w64 ((w64 (p1 - 1)) + p2)))) rfl rfl (.inl ⟨_,rfl,rfl⟩) (.inl ⟨_,rfl,rfl⟩) zD zC bh bi bj (aq).cap) (by rw [bn])) ?_
 generalize hA_A12:(if ag=((w64 (p1 - 1)):Int).toNat then ae else nQ (·.add (((w64 (p1 - 1)):Int).toNat * 1)) ae)=aV at an ⊢
 generalize hc_c13:ag - ((w64 (p1 - 1)):Int).toNat=aZ at an ⊢
 refine bnK bk fun bu ba bm=>zL 0 Z Z Z Z (zK Z Z Tryz.call79 (zB Z zM) Z) ai (fun hs=>wLL x8 aV aZ W1 U hs an ba) (.inr Z) ?_
 rintro ap bp bs aX br be ⟨rfl,rfl⟩
 have bg:sW w U ap [.blk b2 51 B0] aX:=be
 refine oA Z Z (eN (zP ?_))
 have hE:=nB bm;first | subst r | cases hE
 exact ⟨rfl,_,(zm rfl),ap,_,(bg.pick [] _ (by decide) rfl),rfl,rfl⟩
theorem wEx (p0:wBq) (ai:Option Addr) (ak:Nat) (aj:Option Addr) (am:Nat) (p1:List Int) (ba:Option Addr) (bb:Nat) (p2:Int) (w:World) (U:PHeap) (hS:St0 w U []) (bS:Sl U 1 ai ak p0.Points.length (nA KL.encI p0.Points)) (bT:SlR U wHx aj am p0.Done) (bq:Sl U 1 ba bb p1.length (nA KL.encI p1)) {r:Int} (hm:wBi p0 p1 p2=some r):Gv Tryz.prog 80 [.agg #[jV p0.Skiers,jV p0.Races,jV p0.Best,.slice ai p0.Points.length ak,.slice aj p0.Done.length am],.slice ba p1.length bb,jV p2] w (wBc w [] U (fun U_ L_ v=>v=jV r/\L_=[])):=by
 unfold wBi at hm
 refine Gv.of Tryz.func80 Z Tryz.ntmps80 Tryz.results80 Z (sR gCr Z ?_)
 let B0:List Value:=[jV p0.Skiers,jV p0.Races,jV p0.Best,.slice ai p0.Points.length ak,.slice aj p0.Done.length am]
 refine zq (cs:=B0) rfl rfl rfl rfl rfl rfl (by rfl) hS ?_
 intro W1 b2 aV
 refine oA Z Z (eN (sR fL6 Z (oM Z Z (oM Z Z (bnK hm fun x5 h6 ci=>?_)))))
 have q:=bq.el (fun _=>rfl) (wAj h6)
 obtain ⟨b8,cA,bM,bO⟩:=q
 refine oR Z (ZA Z Z bM Z zD zC (wCO h6) (wCX h6)) (oL Z (aV.ldC (f:=0) bO (v:=jV x5) Z Z zG Z) (oA Z Z (oA Z Z (eN (zJ (sR fL2 Z (oM Z Z (oR Z (yO Z Z Z) (eN (ifc ci ?_ ?_))))))))))
 intro ao bW
 refine cT Z ao (sR fL1 Z (oA Z Z (eN (zP (zR ?_)))))
 cases bW
 exact ⟨rfl,_,(zm rfl),U,_,(aV.pick [] _ (by decide) rfl),rfl,rfl⟩
 intro ao bX
 refine cF Z ao (kN (zJ (sR fL3 Z (oM Z Z (oR Z (zn Z Z zD) (oM Z Z (eN (zS (bnK bX fun cp bU bY=>?_)))))))))
 have q:=wBM bU
 obtain ⟨aY,bV⟩:=q
 replace aY:=zH aY
 refine CK.forN' (fun ae bw σ_ w_=>∃ (U_:PHeap),σ_ 19=jV (↑ae:Int)/\σ_ 3=.pointer (some ⟨b2,0,none⟩)/\σ_ 7=jV x5/\σ_ 8=jV bw/\σ_ 17=.slice ba p1.length bb/\σ_ 18=jV (↑p1.length:Int)/\PHeap.Le U U_/\sW w U U_ [.blk b2 51 B0] w_) bV ?_ ?_ ?_
 exact ⟨U,Z,Z,Z,Z,Z,Z,(zN _),aV⟩
 rintro ae bw cD cE ct aX ⟨bg,ah,bj,aq,bk,au,av,aZ,aW⟩ cn
 have bi:Hid ((↑ae:Int) < (↑p1.length:Int)):=zH (wBG aX)
 replace aX:=zH aX
 have br:Hid (w64 ((↑ae:Int) + 1)=(↑(ae + 1):Int)):=zH (by have h1:=aY.out;have h2:=bi.out;rw [wAX] <;> omega)
 refine sR fL1 Z (oR Z (zV Z ah av) (eN (zJ (cT Z bi (kN (zJ (zS (sR fL3 Z (bnK cn fun x44 bn bZ=>?_)))))))))
 have bH:=bq.le aZ
 have q:=bH.el (fun _=>rfl) (wAj bn)
 obtain ⟨cu,cz,bN,bP⟩:=q
 refine oR Z (ZV Z au bN ah zD zC (wCZ bn)) (oL Z (aW.ldC (f:=0) bP (v:=jV x44) Z Z zG Z) (oA Z Z (eN (sR fL3 Z (oM Z Z (oM Z aq (oR Z (yO Z Z Z) (eN (ifc bZ ?_ ?_)))))))))
 intro ap cd
 refine cT Z ap (rR fL3 Z (oM Z bk (oR Z (zU Z Z Z) (oA Z Z (zd (zf (zI (rR fL2 Z (oR Z (zt (zU Z ah Z) (congrArg (jV) br.out)) (oM Z Z (zd ?_)))))))))))
 cases cd
 exact zI ⟨Z,⟨bg,Z,bj,aq,Z,au,av,aZ,aW⟩⟩
 intro ap cg
 refine cF Z ap (Ze (zf (zI (rR fL2 Z (oR Z (zt (zU Z ah Z) (congrArg (jV) br.out)) (oM Z Z (zd ?_)))))))
 cases cg
 exact zI ⟨Z,⟨bg,Z,bj,aq,bk,au,av,aZ,aW⟩⟩
 rintro cG bA ⟨bz,bG,bD,bE,bm,cx,bF,bs,bp⟩
 have bC:Hid (¬ ((↑(((↑p1.length:Int):Int) - 0).toNat:Int) < (↑p1.length:Int))):=zH (wAq)
 refine sR fL1 Z (oR Z (zV Z bG bF) (eN (zJ (cF Z bC (ZH (zZ (zZ (zx (zI (sR (wEQ (.fx 3 (wWO (.nil)) .stop)) Z (oL Z (bp.ldBA (j:=0) Z Z bD YA Zh (vs:=B0) Z Z) (oM Z bE (oM Z bm ?_)))))))))))))
 have bI:=bS.le bs
 have bJ:=bT.le bs
 refine bnK bY fun x73 bK cj=>zL 0 Z Z Z Z (zK Z Z Tryz.call117 (zB Z (zB Z (zB Z zM))) Z) bp (fun hs=>wIn p0 ai ak aj am x5 cp bA bz hs bI bJ bK) (.inr Z) ?_
 rintro bh cq cB bB cy bQ ⟨rfl,rfl⟩
 have bR:sW w U bh [.blk b2 51 B0] bB:=bQ
 refine oM Z bm (bnK cj fun cC bL cm=>oR Z (Runs.quo Z Z Z bL) (oA Z Z (eN (zP ?_))))
 have hE:=nB cm;first | subst r | cases hE
 exact ⟨rfl,_,(zm rfl),bh,_,(bR.pick [] _ (by decide) rfl),rfl,rfl⟩
theorem wGT (p0:Int) (p1:Int) (p2:wCM) (bm:Nat) (ai:Option Addr) (aj:Nat) (ae:Option Addr) (ag:Nat) (p3:Int) (bn:Nat) (w:World) (U:PHeap) (hS:St0 w U []) (ak:Cl U bm 0 [jV p2.Cup.Skiers,jV p2.Cup.Races,jV p2.Cup.Best,.slice ai p2.Cup.Points.length aj,.slice ae p2.Cup.Done.length ag]) (bj:Sl U 1 ai aj p2.Cup.Points.length (nA KL.encI p2.Cup.Points)) (am:SlR U wHx ae ag p2.Cup.Done) (bk:Cl U bn 0 [jV p3]) {r:Int} (hm:wBy p0 p1 p2 p3=some r):Gv Tryz.prog 116 [jV p0,jV p1,.pointer (some ⟨bm,0,none⟩),.pointer (some ⟨bn,0,none⟩)] w (wBc w [] U (fun U_ L_ v=>v=jV r/\L_=[])):=by
 unfold wBy at hm
 refine Gv.of Tryz.func116 rfl Tryz.ntmps116 Tryz.results116 rfl (sR fL1 rfl (Zw rfl rfl rfl rfl rfl rfl (eN (zJ (ZO zz [3,1,3,3,1,3,3,1,1,2,3,1,3,3,1,3,3,1,1,2,2,3] (wUR (wUT (.fx 9 (.fx 19 (.fx 20 (.fl 21 .nil) .stop) .stop) .stop))) (by kernel_rfl) ?_)))))
 have ab:=hS.drew
 generalize hw_W2:({ w with drawn:=w.drawn + 1 }:World)=W2 at ab ⊢
 refine oR Z (zF Z Z Zv Z Zh) (oL Z (ab.ldCA (f:=0) ak Z Z YA Zh (us:=[jV p2.Cup.Skiers,jV p2.Cup.Races,jV p2.Cup.Best,.slice ai p2.Cup.Points.length aj,.slice ae p2.Cup.Done.length ag]) Z Z) (oR Z (zF Z Z Zv Z Zh) (oR Z (zF Z Z ZJ Z yj) (oL Z (ab.ldC (f:=4) ak (v:=.slice ae p2.Cup.Done.length ag) Z Z ym Z) (oM Z Z (bnK hm fun x3 h4 bQ=>?_))))))
 have q:=am.el (wAj h4)
 obtain ⟨b6,bV,cm,bG,aq,bS⟩:=q
 obtain ⟨aV,aX,rfl,bu⟩:=bS
 replace aq:Cl U b6 (bV + p1.toNat * 1) [.slice aV x3.length aX]:=aq
 refine oR Z (ZA Z Z bG Z ZK zk (wCO h4) (wCX h4)) (oL Z (ab.ldC (f:=0) aq (v:=.slice aV x3.length aX) Z Z zr Z) (oL Z (ab.ldC (f:=0) bk (v:=jV p3) Z Z zG Z) (oR Z (zF Z Z Zv Z Zh) (oL Z (ab.ldCA (f:=0) ak Z Z YA Zh (us:=[jV p2.Cup.Skiers,jV p2.Cup.Races,jV p2.Cup.Best,.slice ai p2.Cup.Points.length aj,.slice ae p2.Cup.Done.length ag]) Z Z) (oR Z (zF Z Z Zv Z Zh) (oR Z (zF Z Z ZJ Z yj) (oL Z (ab.ldC (f:=4) ak (v:=.slice ae p2.Cup.Done.length ag) Z Z ym Z) (oM Z Z (bnK bQ fun aZ an bN=>?_)))))))))
 have q:=am.el (wAj an)
 obtain ⟨br,bU,cn,bF,ap,bT⟩:=q
 obtain ⟨aW,aY,rfl,bw⟩:=bT
 replace ap:Cl U br (bU + p0.toNat * 1) [.slice aW aZ.length aY]:=ap
 refine oR Z (ZA Z Z bF Z ZK zk (wCO an) (wCX an)) (oL Z (ab.ldC (f:=0) ap (v:=.slice aW aZ.length aY) Z Z zr Z) (oL Z (ab.ldC (f:=0) bk (v:=jV p3) Z Z zG Z) (bnK bN fun x27 bz bO=>zL 0 Z Z Z Z (zK Z Z Tryz.call80 (zB Z (zB Z (zB Z zM))) Z) ab (fun hs=>wEx p2.Cup ai aj ae ag x3 aV aX p3 W2 U hs bj am bu bz) (.inr Z) ?_)))
 rintro bb bW cg bh au bH ⟨rfl,rfl⟩
 have bI:sW w U bb [] bh:=bH
 have bA:=bj.le au
 have bB:=am.le au
 have bC:=bw.le au
 refine bnK bO fun x40 bD bP=>zL 0 Z Z Z Z (zK Z Z Tryz.call80 (zB Z (zB Z (zB Z zM))) Z) bI (fun hs=>wEx p2.Cup ai aj ae ag aZ aW aY p3 bh bb hs bA bB bC bD) (.inr Z) ?_
 rintro be bX ci bi bZ bJ ⟨rfl,rfl⟩
 have bK:sW w U be [] bi:=bJ
 refine bnK bP fun x50 bE bR=>zL 0 Z Z Z Z (zK Z Z Tryz.call36 (zB Z (zB Z zM)) Z) bK (fun hs=>wCh x27 x40 bi be hs bE) (.inr Z) ?_
 rintro bg bY cj bq cd bL ⟨rfl,rfl⟩
 have bM:sW w U bg [] bq:=bL
 refine oA Z Z (eN (zP ?_))
 have hE:=nB bR;first | subst r | cases hE
 exact ⟨Z,_,(zm Z),bg,_,bM,Z,Z⟩
theorem wCR (p0:List Int) (ag:Option Addr) (ah:Nat) (p1:Int) (p2:Int) (p3:((Int × Int)->Option Int)) (be:Value) (w:World) (U:PHeap) (hS:St0 w U [.row ag ah 3 1 (nA KL.encI p0)]) (cg:FnOK Tryz.prog U be wUg wUh p3) {r:(List Int)} (hm:wAp p0 p1 p2 p3=some r):Gv Tryz.prog 181 [.slice ag p0.length ah,jV p1,jV p2,be] w (wBc w [.row ag ah 3 1 (nA KL.encI p0)] U (fun U_ L_ v=>v=.tuple #[]/\L_=[.row ag ah 3 1 (nA KL.encI r)]/\r.length=p0.length)):=by
 unfold wAp at hm
 refine Gv.of Tryz.func181 Z Tryz.ntmps181 Tryz.results181 Z (sR fL3 Z (oM Z Z (oR Z (zU Z Z Z) (oA Z Z (eN (zS ?_))))))
 let B0:Res:=.row ag ah 3 1 (nA KL.encI p0)
 refine yr (fun (l8,x9) σ_ w_=>∃ (U_:PHeap),σ_ 0=.slice ag l8.length ah/\σ_ 1=jV p1/\σ_ 2=jV p2/\σ_ 3=be/\σ_ 8=jV x9/\PHeap.Le U U_/\SW w [B0] U U_ [.row ag ah 3 1 (nA KL.encI l8)] w_/\l8.length=p0.length) hm ?_ ?_
 exact ⟨U,Z,Z,Z,Z,Z,(zN _),hS,Z⟩
 rintro ⟨l8,x9⟩ cO cQ cI ⟨bh,bP,bQ,bw,bR,bk,bs,bA,bz⟩ bq ci
 try dsimp only at bq
 refine zJ (sR fL3 Z (oM Z bk (oM Z bw (oR Z (zV Z Z Z) (eN ?_)))))
 by_cases am:x9 < p2
 have bF:=bq;rw [if_pos am] at bF;replace am:=zH am
 refine cT Z am (kN (zJ (zS (sR fL2 Z (oM Z bk (oA Z Z (eN (zS (yr (fun (aa,ae) σ_ w_=>∃ (U_:PHeap),σ_ 0=.slice ag aa.length ah/\σ_ 1=jV p1/\σ_ 2=jV p2/\σ_ 3=be/\σ_ 8=jV x9/\σ_ 9=jV ae/\PHeap.Le bh U_/\SW w [B0] U U_ [.row ag ah 3 1 (nA KL.encI aa)] w_/\aa.length=p0.length) bF ?_ ?_)))))))))
 exact ⟨bh,bP,bQ,bw,bR,bk,Z,(zN _),bA,bz⟩
 rintro ⟨aa,ae⟩ cP cR bu ⟨bJ,ak,aX,bm,aY,bn,an,bb,bV,bp⟩ br bC
 try dsimp only at br
 refine zJ (zJ (ZO zz [3,3,3,3,3,3,3,3,1,3,3,3,3,1,2,3,3] (wSL gCy) (by kernel_rfl) ?_))
 have aq:=bV.drew
 generalize hw_W54:({ bu with drawn:=bu.drawn + 1 }:World)=cJ at aq ⊢
 refine oM Z an (oM Z aX (oR Z (yG Z Z Z) (oM Z Z ?_)))
 by_cases ab:p1 < ae
 have bG:=br;rw [if_pos ab] at bG;replace ab:=zH ab
 refine zX Z Z Z (wT Z ab) Z aY (zX Z Z Z (wT Z ab) Z ak (zX Z Z Z (wT Z ab) Z an (bnK bG fun _ aj cw=>?_)))
 have q:=aq.rowSome (j:=0) rfl (by rw [wAC (f:=KL.encI) (sz:=1) (fun _=>rfl) aa];have hz:=wAT aj;omega)
 obtain ⟨cL,ai⟩:=q
 refine rU Z (wT Z ab) (ZA Z Z ai Z zD zC (wBP aj) (wBQ aj)) ?_
 have cj:=wBb (xs:=aa) (wAT aj)
 refine ZC rfl rfl rfl (zQ rfl rfl (ZU ab.out)) (aq.ldR (j:=0) rfl ai rfl rfl zG (wAa (sz:=1) (fun _=>rfl) _ _ 0 _ cj (by first | omega | rfl | simp) rfl)) rfl (zX rfl rfl rfl (zQ rfl rfl (ZU ab.out)) rfl ak (zX rfl rfl rfl (zQ rfl rfl (ZU ab.out)) rfl an (zY rfl rfl rfl (zQ rfl rfl (ZU ab.out)) (fun _=>Zk rfl rfl rfl) (bnK cw fun _ ap cx=>zY rfl rfl rfl (zQ rfl rfl (ZU ab.out)) (fun _=>ZA rfl rfl ai rfl zD zC (wBP ap) (wBQ ap)) ?_))))
 have cm:=wBb (xs:=aa) (wAT ap)
 refine ZC rfl rfl rfl (zQ rfl rfl (ZU ab.out)) (aq.ldR (j:=0) rfl ai rfl rfl zG (wAa (sz:=1) (fun _=>rfl) _ _ 0 _ cm (by first | omega | rfl | simp) rfl)) rfl (bnK cx fun cN bS cy=>?_)
 have bT:=cg.le bs
 have bU:=bT.le bb
 refine yI (a:=((gd aa ae.toNat),(gd aa (w64 (ae - 1)).toNat))) Z Z Z (wT Z ab) Z Z (zB Z (zB Z zM)) aq bU Z bS ?_
 rintro av cH cM bi bH bW ⟨rfl,rfl⟩
 have bB:SW w [B0] U av [.row ag ah 3 1 (nA KL.encI aa)] bi:=bW
 refine rU Z (wT Z ab) (zV Z Z Z) (oR Z (zb Z (ZU ab.out) Z) (eN (ifc cy ?_ ?_)))
 intro bj cz
 refine cT Z bj (kN (zJ (zS (ZO zz [3,3,3,3,3,3,3,3,3,1,3,3,3,1,3,0,3,0] (wQN gCz) (by kernel_rfl) ?_))))
 have aZ:=bB.drew
 generalize hw_W80:({ bi with drawn:=bi.drawn + 1 }:World)=cK at aZ ⊢
 refine oM Z ak (oM Z an (oM Z ak (oM Z an (oR Z (Zk Z Z Z) (oM Z ak (oM Z an (oR Z (Zk Z Z Z) (oR Z (ZA Z Z ai Z zD zC (wBP ap) (wBQ ap)) ?_))))))))
 have cn:=wBb (xs:=aa) (wAT ap)
 refine ZC rfl rfl rfl rfl (aZ.ldR (j:=0) rfl ai rfl rfl zG (wAa (sz:=1) (fun _=>rfl) _ _ 0 _ cn (by first | omega | rfl | simp) rfl)) rfl (zX rfl rfl rfl rfl rfl ak (zX rfl rfl rfl rfl rfl an (zY rfl rfl rfl rfl (fun _=>ZA rfl rfl ai rfl zD zC (wBP aj) (wBQ aj)) ?_)))
 have cp:=wBb (xs:=aa) (wAT aj)
 refine ZC rfl rfl rfl rfl (aZ.ldR (j:=0) rfl ai rfl rfl zG (wAa (sz:=1) (fun _=>rfl) _ _ 0 _ cp (by first | omega | rfl | simp) rfl)) rfl (zY rfl rfl rfl rfl (fun _=>ZA rfl rfl ai rfl zD zC (wBP aj) (wBQ aj)) ?_)
 have cq:=wBb (xs:=aa) (wAT aj)
 refine yd (j:=0) (vs:=[jV (gd aa (w64 (ae - 1)).toNat)]) (cs':=nA KL.encI (nE aa ae.toNat (gd aa (w64 (ae - 1)).toNat))) rfl rfl rfl rfl aZ rfl ai rfl rfl rfl zC (by rw [wAC (f:=KL.encI) (sz:=1) (fun _=>rfl)];have hz:=wAT aj;show _ + 1 <= _;first | omega | (simp only [nL];omega) | (simp only [nJ,nH,nI];omega)) rfl (wCo (sz:=1) (fo:=0) (fun _=>rfl) _ _ _ _ cq (by first | omega | (simp only [nL];omega) | (simp only [nJ,nH,nI];omega)) (zA rfl) rfl) rfl ?_
 intro bK bX
 have bY:SW w [B0] U av [.row ag ah 3 1 (nA KL.encI (nE aa ae.toNat (gd aa (w64 (ae - 1)).toNat)))] bK:=bX
 refine bnK cz fun _ az cA=>zY rfl rfl rfl rfl (fun _=>ZA rfl (nM (b:=(.slice ag aa.length ah:Value)) (c:=(.slice ag ((nE aa ae.toNat (gd aa (w64 (ae - 1)).toNat)).length) ah:Value)) rfl (by simp only [nD])) ai rfl zD zC (wBP az) (wBQ az)) ?_
 have cr:=wBb (xs:=(nE aa ae.toNat (gd aa (w64 (ae - 1)).toNat))) (by first | exact wAT az | (have hz:=wAT az;simpa only [nD] using hz))
 refine yd (j:=0) (vs:=[jV (gd aa ae.toNat)]) (cs':=nA KL.encI (nE (nE aa ae.toNat (gd aa (w64 (ae - 1)).toNat)) (w64 (ae - 1)).toNat (gd aa ae.toNat))) rfl rfl rfl rfl bY rfl ai rfl rfl rfl zC (by rw [wAC (f:=KL.encI) (sz:=1) (fun _=>rfl)];have hz:=wAT az;show _ + 1 <= _;first | omega | (simp only [nD];omega) | (simp only [nJ,nH,nI,nD];omega) | (simp only [nL];omega) | (simp only [nJ,nH,nI];omega)) rfl (wCo (sz:=1) (fo:=0) (fun _=>rfl) _ _ _ _ cr (by first | omega | (simp only [nL];omega) | (simp only [nJ,nH,nI];omega)) (zA rfl) rfl) rfl ?_
 intro bL bZ
 have cd:SW w [B0] U av [.row ag ah 3 1 (nA KL.encI (nE (nE aa ae.toNat (gd aa (w64 (ae - 1)).toNat)) (w64 (ae - 1)).toNat (gd aa ae.toNat)))] bL:=bZ
 refine zd (zf (zI (rR fL3 Z (oM Z an (oR Z (Zk Z Z Z) (oA Z Z (zd ?_)))))))
 have q:=nB cA
 obtain rfl:=q
 exact zI ⟨rfl,_,rfl,⟨av,(nM (b:=(.slice ag ((nE aa ae.toNat (gd aa (w64 (ae - 1)).toNat)).length) ah:Value)) (c:=(.slice ag ((nE (nE aa ae.toNat (gd aa (w64 (ae - 1)).toNat)) (w64 (ae - 1)).toNat (gd aa ae.toNat)).length) ah:Value)) (nM (b:=(.slice ag aa.length ah:Value)) (c:=(.slice ag ((nE aa ae.toNat (gd aa (w64 (ae - 1)).toNat)).length) ah:Value)) ak (by simp only [nD])) (by simp only [nD])),aX,bm,aY,bn,rfl,(bb.trans bH),cd,((nD.trans nD).trans bp)⟩⟩
 intro bj cB
 refine cF Z bj (ZH (zZ ?_))
 have q:=wAc cB
 obtain ⟨cG,cC,bO⟩:=q
 have q:=bC cG bO
 obtain rfl:=q
 refine zZ (zx (zf (zI (rR fL3 Z (oM Z bn (oR Z (zU Z Z Z) (oA Z Z (zd ?_))))))))
 have q:=nB cC
 obtain rfl:=q
 exact zI ⟨Z,_,Z,⟨av,ak,aX,bm,aY,Z,((bs.trans bb).trans bH),bB,bp⟩⟩
 have bD:=br;rw [if_neg ab] at bD;replace ab:=zH ab
 refine oF Z ab (oF Z ab (oF Z ab (oF Z ab (oF Z ab (oF Z ab (oF Z ab (oF Z ab (oF Z ab (oF Z ab (Zr Z Z Z (ze Z Z (ZT ab.out) Z) (oF Z ab (oR Z (zi Z (ZT ab.out) Z) (eN (zu Z (ZH (zZ ?_))))))))))))))))
 have q:=wAc bD
 obtain ⟨cD,ct,bM⟩:=q
 have q:=bC cD bM
 obtain rfl:=q
 refine zZ (zx (zf (zI (rR fL3 Z (oM Z bn (oR Z (zU Z Z Z) (oA Z Z (zd ?_))))))))
 have q:=nB ct
 obtain rfl:=q
 exact zI ⟨Z,_,Z,⟨bJ,ak,aX,bm,aY,Z,(bs.trans bb),aq,bp⟩⟩
 have bE:=bq;rw [if_neg am] at bE;replace am:=zH am
 refine cF Z am (ZH (zZ ?_))
 have q:=wAc bE
 obtain ⟨cE,cu,bN⟩:=q
 have q:=ci cE bN
 obtain rfl:=q
 refine zZ (zx ?_)
 have hE:=nB cu;first | subst r | cases hE
 exact ⟨Z,_,(wNG),bh,_,bA,Z,Z,bz⟩
theorem wFO (p0:List Int) (aa:Option Addr) (ab:Nat) (p1:Int) (p2:((Int × Int)->Option Int)) (ah:Value) (w:World) (U:PHeap) (hS:St0 w U [.row aa ab 3 1 (nA KL.encI p0)]) (bI:FnOK Tryz.prog U ah wUg wUh p2) {r:(List Int)} (hm:wBj p0 p1 p2=some r):Gv Tryz.prog 158 [.slice aa p0.length ab,jV p1,ah] w (wBc w [.row aa ab 3 1 (nA KL.encI p0)] U (fun U_ L_ v=>v=.tuple #[]/\L_=[.row aa ab 3 1 (nA KL.encI r)]/\r.length=p0.length)):=by
 unfold wBj at hm
 refine Gv.of Tryz.func158 Z Tryz.ntmps158 Tryz.results158 Z (sR fL1 Z (oA Z Z (eN (sR fL3 Z (oM Z Z (oA Z Z (oA Z Z (eN ?_))))))))
 have q:=bnd hm
 obtain ⟨⟨l2,x3⟩,cN,bP⟩:=q
 try dsimp only at bP
 let B0:Res:=.row aa ab 3 1 (nA KL.encI p0)
 refine yP (fun σ_ w_=>∃ (U_:PHeap),σ_ 0=.slice aa l2.length ab/\σ_ 1=jV p1/\σ_ 2=ah/\σ_ 6=jV 20/\σ_ 7=jV x3/\PHeap.Le U U_/\SW w [B0] U U_ [.row aa ab 3 1 (nA KL.encI l2)] w_/\l2.length=p0.length) ?_ ?_
 refine zS (yr (fun (an,x17,az) σ_ w_=>∃ (U_:PHeap),σ_ 0=.slice aa an.length ab/\σ_ 1=jV p1/\σ_ 2=ah/\σ_ 6=jV 20/\σ_ 7=jV x17/\σ_ 8=jV az/\PHeap.Le U U_/\SW w [B0] U U_ [.row aa ab 3 1 (nA KL.encI an)] w_/\an.length=p0.length) cN ?_ ?_)
 exact ⟨U,Z,Z,Z,Z,Z,Z,(zN _),hS,Z⟩
 rintro ⟨an,x17,az⟩ dq dv bU ⟨bj,aX,aY,aZ,ba,bw,au,bi,bG,bD⟩ bg cG
 try dsimp only at bg
 refine zJ (sR fL3 Z (oM Z au (oM Z aY (oR Z (yo Z Z Z) (eN ?_)))))
 by_cases aj:az <= p1
 have bN:=bg;rw [if_pos aj] at bN;replace aj:=zH aj
 refine cT Z aj (kN (zS (sR (wDo (.fx 4 .nil .stop)) Z (oM Z aX (oM Z bw (oM Z au (oM Z aZ ?_)))))))
 have cr:=bI.le bi
 refine bnK bN fun x39 ct cK=>zL 1 Z Z Z Z (zK Z Z Tryz.call181 (zB Z (zB Z (zB Z (zB Z zM)))) Z) bG (fun hs=>wCR an aa ab x17 az p2 ah bU bj hs cr ct) (.inl Z) ?_
 rintro bk cW dh bV cQ cz ⟨rfl,rfl,bE⟩
 have cA:SW w [B0] U bk [.row aa ab 3 1 (nA KL.encI x39)] bV:=cz
 refine eN (sR fL2 Z (oM Z au (oA Z Z (eN (rR fL4 Z (oM Z au (oM Z ba (oR Z (zU Z Z Z) (oA Z Z (zd (zf ?_)))))))))))
 have q:=nB cK
 obtain rfl:=q
 exact zI ⟨rfl,_,rfl,⟨bk,(nM (b:=(.slice aa an.length ab:Value)) (c:=(.slice aa x39.length ab:Value)) aX (by rw [bE])),aY,aZ,ba,rfl,rfl,(bi.trans cQ),cA,(bE.trans bD)⟩⟩
 have bO:=bg;rw [if_neg aj] at bO;replace aj:=zH aj
 refine cF Z aj (ZH (zZ ?_))
 have q:=wAc bO
 obtain ⟨cV,cL,cd⟩:=q
 have q:=cG cV cd
 obtain rfl:=q
 refine zZ (zx ?_)
 cases cL
 exact zI ⟨Z,⟨bj,aX,aY,aZ,ba,bw,bi,bG,bD⟩⟩
 rintro dw bW ⟨bT,bz,bA,bB,cm,cn,cR,cB,cu⟩
 refine sR (wDo (.fx 4 .nil .stop)) Z (oM Z bz (oM Z cn (oM Z bA (oM Z bB ?_))))
 have cw:=bI.le cR
 refine bnK bP fun x71 cx cM=>zL 1 Z Z Z Z (zK Z Z Tryz.call181 (zB Z (zB Z (zB Z (zB Z zM)))) Z) cB (fun hs=>wCR l2 aa ab x3 p1 p2 ah bW bT hs cw cx) (.inl Z) ?_
 rintro aV cX dm bX df cC ⟨rfl,rfl,bF⟩
 let B1:Res:=.row aa ab 3 1 (nA KL.encI x71)
 have cD:SW w [B0] U aV [B1] bX:=cC
 refine eN (zS (yr (fun _ σ_ w_=>∃ (U_:PHeap),σ_ 0=.slice aa x71.length ab/\σ_ 1=jV p1/\σ_ 2=ah/\σ_ 6=jV 20/\PHeap.Le aV U_/\SW w [B0] U U_ [B1] w_) cM ?_ ?_))
 exact ⟨aV,(nM (b:=(.slice aa l2.length ab:Value)) (c:=(.slice aa x71.length ab:Value)) bz (by rw [bF])),bA,bB,cm,(zN _),cD⟩
 rintro ⟨⟩ dr dx da ⟨aq,cp,bC,cq,bb,dg,bH⟩ bh cH
 try dsimp only at bh
 refine zJ (sR fL3 Z (oM Z bb (oM Z bC (oR Z (zV Z Z Z) (eN ?_)))))
 by_cases ag:20 < p1
 have bQ:=bh;rw [if_pos ag] at bQ;replace ag:=zH ag
 refine cT Z ag (kN (zS (sR fL4 rfl (zX rfl rfl rfl rfl rfl bb (zY rfl rfl rfl rfl (fun _=>zt (Runs.mulw rfl rfl rfl) (congrArg (jV) (show w64 (2 * 20)=40 by decide))) (Zw rfl rfl rfl rfl rfl rfl (Zw rfl rfl rfl rfl rfl rfl (eN ?_))))))))
 have q:=bnd bQ
 obtain ⟨⟨⟩,cO,bJ⟩:=q
 try dsimp only at bJ
 refine yP (fun σ_ w_=>∃ (U_:PHeap),σ_ 0=.slice aa x71.length ab/\σ_ 1=jV p1/\σ_ 2=ah/\σ_ 6=jV 20/\σ_ 7=jV 0/\PHeap.Le aq U_/\SW w [B0] U U_ [B1] w_) ?_ ?_
 refine zS (yr (fun _ σ_ w_=>∃ (U_:PHeap),σ_ 0=.slice aa x71.length ab/\σ_ 1=jV p1/\σ_ 2=ah/\σ_ 6=jV 20/\σ_ 7=jV 0/\σ_ 8=jV 40/\PHeap.Le aq U_/\SW w [B0] U U_ [B1] w_) cO ?_ ?_)
 exact ⟨aq,cp,bC,cq,bb,Z,Z,(zN _),bH⟩
 rintro ⟨⟩ dp dt cZ ⟨bS,bm,bn,bp,bq,aW,br,cP,cy⟩ be cE
 try dsimp only at be
 refine zJ (sR fL3 Z (oM Z br (oM Z bn (oR Z (yo Z Z Z) (eN ?_)))))
 by_cases ai:40 <= p1
 have bK:=be;rw [if_pos ai] at bK;replace ai:=zH ai
 refine cT Z ai (kN (zS (sR (wMT (.fx 7 .nil .stop)) rfl (zX rfl rfl rfl rfl rfl bm (zX rfl rfl rfl rfl rfl aW (zX rfl rfl rfl rfl rfl aW (zX rfl rfl rfl rfl rfl bq (zY rfl rfl rfl rfl (fun _=>zt (zU rfl rfl rfl) (congrArg (jV) (show w64 (0 + 20)=20 by decide))) (zX rfl rfl rfl rfl rfl br (zX rfl rfl rfl rfl rfl bp ?_))))))))))
 cases bK
 have bL:=be;rw [if_neg ai] at bL;replace ai:=zH ai
 refine cF Z ai (ZH (zZ ?_))
 have q:=wAc bL
 obtain ⟨cS,cI,bY⟩:=q
 have q:=cE cS bY
 obtain rfl:=q
 refine zZ (zx ?_)
 cases cI
 exact zI ⟨Z,⟨bS,bm,bn,bp,bq,aW,cP,cy⟩⟩
 rintro du c8 ⟨cY,cg,bs,ci,cj,bu,de,db⟩
 refine zJ (sR fL4 rfl (zX rfl rfl rfl rfl rfl bu (zX rfl rfl rfl rfl rfl cj (zY rfl rfl rfl rfl (fun _=>zt (zU rfl rfl rfl) (congrArg (jV) (show w64 (0 + 20)=20 by decide))) (Zw rfl rfl rfl rfl rfl rfl (eN (sR fL3 rfl (zX rfl rfl rfl rfl rfl rfl (zX rfl rfl rfl rfl rfl bs (zY rfl rfl rfl rfl (fun _=>zV rfl rfl rfl) (eN (cT Z ag (rR (wGw (.fx 5 .nil .stop)) rfl (zX rfl rfl rfl rfl rfl cg (zX rfl rfl rfl rfl rfl bu (zX rfl rfl rfl rfl rfl rfl (zX rfl rfl rfl rfl rfl bs (zX rfl rfl rfl rfl rfl ci ?_))))))))))))))))))
 cases bJ
 have bM:=bh;rw [if_neg ag] at bM;replace ag:=zH ag
 refine cF Z ag (ZH (zZ ?_))
 have q:=wAc bM
 obtain ⟨cU,cJ,bZ⟩:=q
 have q:=cH cU bZ
 obtain rfl:=q
 refine zZ (zx ?_)
 have hE:=nB cJ;first | subst r | cases hE
 exact ⟨Z,_,(wNG),aq,_,bH,Z,Z,(bF.trans cu)⟩
theorem wEW (p0:List Int) (ab:Option Addr) (ae:Nat) (p1:((Int × Int)->Option Int)) (ah:Value) (w:World) (U:PHeap) (hS:St0 w U [.row ab ae 3 1 (nA KL.encI p0)]) (ap:FnOK Tryz.prog U ah wUg wUh p1) {r:(List Int)} (hm:wBA p0 p1=some r):Gv Tryz.prog 115 [.slice ab p0.length ae,ah] w (wBc w [.row ab ae 3 1 (nA KL.encI p0)] U (fun U_ L_ v=>v=.tuple #[]/\L_=[.row ab ae 3 1 (nA KL.encI r)]/\r.length=p0.length)):=by
 unfold wBA at hm
 refine Gv.of Tryz.func115 Z Tryz.ntmps115 Tryz.results115 Z (rR (wDo (.fx 4 .nil .stop)) Z (oM Z Z (oM Z Z (oR Z (zn Z Z zD) (oM Z Z (bnK hm fun x2 h3 aq=>zL 1 Z Z Z Z (zK Z Z Tryz.call158 (zB Z (zB Z (zB Z zM))) Z) hS (fun hs=>wFO p0 ab ae (↑p0.length:Int) p1 ah w U hs ap h3) (.inl Z) ?_))))))
 rintro U5 L6 v7 W8 az an ⟨rfl,rfl,ak⟩
 have ao:SW w [.row ab ae 3 1 (nA KL.encI p0)] U U5 [.row ab ae 3 1 (nA KL.encI x2)] W8:=an
 refine zd ?_
 have hE:=nB aq;first | subst r | cases hE
 exact ⟨Z,_,(wNG),U5,_,ao,Z,Z,ak⟩
theorem wHR (p0:wCM) (aW:Option Addr) (aX:Nat) (ao:Option Addr) (ap:Nat) (p1:Int) (w:World) (U:PHeap) (hS:St0 w U []) (cP:Sl U 1 aW aX p0.Cup.Points.length (nA KL.encI p0.Cup.Points)) (cQ:SlR U wHx ao ap p0.Cup.Done) {r:(List Int)} (hm:wCQ p0 p1=some r):Gv Tryz.prog 78 [.agg #[jV p0.Cup.Skiers,jV p0.Cup.Races,jV p0.Cup.Best,.slice aW p0.Cup.Points.length aX,.slice ao p0.Cup.Done.length ap],jV p1] w (wBc w [] U (fun U_ L_ v=>∃ (A0:Option Addr) (c0:Nat),v=.slice A0 r.length c0/\L_=[.row A0 c0 3 1 (nA KL.encI r)])):=by
 unfold wCQ at hm
 refine Gv.of Tryz.func78 Z Tryz.ntmps78 Tryz.results78 Z (sR gDa Z ?_)
 let B0:List Value:=[jV p0.Cup.Skiers,jV p0.Cup.Races,jV p0.Cup.Best,.slice aW p0.Cup.Points.length aX,.slice ao p0.Cup.Done.length ap]
 refine zq (cs:=B0) rfl rfl rfl rfl rfl rfl (by rfl) hS ?_
 intro W1 b2 cG
 have q:=cG.freeze (k:=0) rfl
 obtain ⟨U5,bJ,am,cM⟩:=q
 replace am:=Cl.of am
 have cO:sW w U U5 [] W1:=cM
 replace am:Cl U5 b2 0 B0:=am
 refine zq (cs:=[jV p1]) rfl rfl rfl rfl rfl rfl (by rfl) cO ?_
 intro bN ai cz
 have q:=cz.freeze (k:=0) rfl
 obtain ⟨av,bj,ak,cE⟩:=q
 replace ak:=Cl.of ak
 have bH:sW w U av [] bN:=cE
 replace ak:Cl av ai 0 [jV p1]:=ak
 refine oA Z Z (eN (sR fL1 Z (oA Z Z (eN (zJ (sR fL5 Z (oR Z (zF Z Z Zv Z Zh) (oR Z (zF Z Z ZJ Z yj) ?_))))))))
 have bF:=am.le bj
 refine oL Z (bH.ldC (f:=4) bF (v:=.slice ao p0.Cup.Done.length ap) Z Z ym Z) (oR Z (zn Z Z ZK) (oM Z Z (eN (zS (bnK hm fun bk cU c8=>?_)))))
 have q:=wBM cU
 obtain ⟨bi,cV⟩:=q
 replace bi:=zH bi
 refine CK.forN' (fun ag an σ_ w_=>∃ (U_:PHeap) (au:Option Addr) (az:Nat),σ_ 11=jV (↑ag:Int)/\σ_ 2=.pointer (some ⟨b2,0,none⟩)/\σ_ 3=.pointer (some ⟨ai,0,none⟩)/\σ_ 5=.slice au an.length az/\σ_ 10=jV (↑p0.Cup.Done.length:Int)/\PHeap.Le av U_/\sW w U U_ [.row au az 3 1 (nA KL.encI an)] w_) cV ?_ ?_ ?_
 have cH:=bH.nilrow 3 1
 exact ⟨av,none,0,Z,Z,Z,Z,Z,(zN _),cH⟩
 rintro ag an dy dz dr bh ⟨aZ,au,az,be,bU,bV,bW,bB,dh,cI⟩ df
 have bz:Hid ((↑ag:Int) < (↑p0.Cup.Done.length:Int)):=zH (wBG bh)
 replace bh:=zH bh
 have cW:Hid (w64 ((↑ag:Int) + 1)=(↑(ag + 1):Int)):=zH (by have h1:=bi.out;have h2:=bz.out;rw [wAX] <;> omega)
 refine sR fL1 Z (oR Z (zV Z be bB) (eN (zJ (cT Z bz (kN (zJ (zS (sR fL2 Z (oM Z be (oA Z Z (eN (rR (.fl 0 (.fl 1 (.fx 2 gCv .stop))) Z (oM Z bW (oM Z Z (ZL (pv:=[(0,jV (↑ag:Int))]) (zs:=[jV 0]) (cs:=[jV (↑ag:Int)]) Z Z Z Z Z (wAG Z wAZ) zD zC ZW Z Z Z Z Z cI ?_)))))))))))))))
 intro bP bS cJ
 let B1:Res:=.row (some ⟨bS,0,none⟩) 1 3 1 (nA KL.encI [(↑ag:Int)])
 have bI:sW w U aZ [B1,.row au az 3 1 (nA KL.encI an)] bP:=cJ
 refine bnK df fun x66 cp da=>Zq (j:=1) (enc:=KL.encI) (xs:=an) (ys:=[(↑ag:Int)]) (zs:=x66) rfl rfl rfl rfl rfl yF wId rfl rfl rfl rfl rfl rfl bI rfl rfl rfl (bI.srcR (j:=0) rfl (by decide) (wAC (f:=KL.encI) (sz:=1) (fun _=>rfl) [(↑ag:Int)])) (fun _=>rfl) (fun _=>rfl) cp rfl ?_
 intro bn bA bQ cK
 have cL:sW w U aZ [B1,.row bn bA 3 1 (nA KL.encI x66)] bQ:=cK
 refine oA Z Z (zd (zf (zI (rR fL2 Z (oR Z (zt (zU Z be Z) (congrArg (jV) cW.out)) (oM Z Z (zd ?_)))))))
 cases da
 exact zI ⟨rfl,⟨aZ,bn,bA,rfl,bU,bV,rfl,bB,dh,(cL.pick [1] _ (by decide) rfl)⟩⟩
 rintro dA bR ⟨bu,ab,ae,bZ,bC,bX,bb,bY,aV,cN⟩
 have bT:Hid (¬ ((↑(((↑p0.Cup.Done.length:Int):Int) - 0).toNat:Int) < (↑p0.Cup.Done.length:Int))):=zH (wAq)
 refine sR fL1 Z (oR Z (zV Z bZ bY) (eN (zJ (cF Z bT (ZH (zZ (zZ (zx (zI (sR (.fl 0 (.fl 1 (.fx 2 .nil .stop))) Z (oM Z bb (oR Z (yJ Z zM (zB bC (zB bX zM))) ?_))))))))))))
 have bG:=bF.le aV
 have cq:=cP.le bJ
 have cr:=cq.le bj
 have ct:=cr.le aV
 have cu:=cQ.le bJ
 have cw:=cu.le bj
 have cd:=cw.le aV
 have cg:=ak.le aV
 have cx:FnOK Tryz.prog bu (.func (.func 116) #[] #[.pointer (some ⟨b2,0,none⟩),.pointer (some ⟨ai,0,none⟩)]) wUg wUh (fun x=>wBy x.1 x.2 p0 p1):=⟨116,[],[.pointer (some ⟨b2,0,none⟩),.pointer (some ⟨ai,0,none⟩)],rfl,Tryz.call116,fun U1 w1 x y vs le hs ha hm=>by obtain rfl:=ha;exact wGT x.1 x.2 p0 b2 aW aX ao ap p1 ai w1 U1 hs (bG.le le) (ct.le le) (cd.le le) (cg.le le) hm⟩
 refine bnK c8 fun aq ci cX=>zL 1 Z Z Z Z (zK Z Z Tryz.call115 (zB Z (zB Z zM)) Z) cN (fun hs=>wEW bk ab ae (fun x=>wBy x.1 x.2 p0 p1) (.func (.func 116) #[] #[.pointer (some ⟨b2,0,none⟩),.pointer (some ⟨ai,0,none⟩)]) bR bu hs cx ci) (.inl Z) ?_
 rintro aY dp dw ba dg cy ⟨rfl,rfl,bD⟩
 have bg:sW w U aY [.row ab ae 3 1 (nA KL.encI aq)] ba:=cy
 refine eN (sR fL9 rfl (zX rfl rfl rfl rfl rfl (nM (b:=(.slice ab bk.length ae:Value)) (c:=(.slice ab aq.length ae:Value)) bb (by rw [bD])) (zX rfl rfl rfl rfl rfl (nM (b:=(.slice ab bk.length ae:Value)) (c:=(.slice ab aq.length ae:Value)) bb (by rw [bD])) (zY rfl rfl rfl rfl (fun _=>zn rfl rfl zD) (zY rfl rfl rfl rfl (fun _=>zF rfl bC Zv rfl Zh) (zY rfl rfl rfl rfl (fun _=>zF rfl rfl ZJ rfl zC) ?_))))))
 have cj:=bG.le dg
 refine oL Z (bg.ldC (f:=2) cj (v:=jV p0.Cup.Best) Z Z zG Z) (oR Z (Runs.min Z Z Z) (bnK cX fun x115 bE cY=>?_))
 have q:=wII bE
 obtain ⟨dt,cR,cS,du,db⟩:=q
 have de:=bg.rowCap (j:=0) rfl (by decide) (wAC (f:=KL.encI) (sz:=1) (fun _=>rfl) aq)
 refine zY (v:=.slice ab x115.length ae) rfl rfl rfl rfl (fun _=>zt (Runs.slc (sz:=1) (a:=0) (b:=(min (↑aq.length:Int) p0.Cup.Best)) rfl rfl (.inr ⟨rfl,rfl⟩) (.inl ⟨_,rfl,rfl⟩) zD zC (nP _) cR cS de) (slcK.trans (by rw [db]))) ?_
 have cA:=bg.cutRowC (enc:=KL.encI) (k:=0) rfl bE
 have cB:sW w U aY [.row ab ae 3 1 (nA KL.encI x115)] ba:=cA
 refine oA Z Z (eN (sR gCt Z (oM Z Z (bnK cY fun bK cm cZ=>zL 1 Z Z Z Z (zK Z Z Tryz.call114 (zB Z zM) Z) cB (fun hs=>wEr x115 ab ae ba aY hs cm) (.inl Z) ?_))))
 rintro br dq dx bO dv cC ⟨rfl,rfl,cn⟩
 have cD:sW w U br [.row ab ae 3 1 (nA KL.encI bK)] bO:=cC
 refine eN (sR fL2 rfl (zX rfl rfl rfl rfl rfl (nM (b:=(.slice ab x115.length ae:Value)) (c:=(.slice ab bK.length ae:Value)) rfl (by rw [cn])) (Zw rfl rfl rfl rfl rfl rfl (eN (zP ?_)))))
 have hE:=nB cZ;first | subst r | cases hE
 exact ⟨Z,_,(zm Z),br,_,cD,ab,ae,Z,Z⟩
set_option maxHeartbeats 4000000
theorem wIo (p0:wCM) (aZ:Option Addr) (ba:Nat) (ao:Option Addr) (ap:Nat) (p1:Int) (w:World) (U:PHeap) (hS:St0 w U []) (cy:Sl U 1 aZ ba p0.Cup.Points.length (nA KL.encI p0.Cup.Points)) (bC:SlR U wHx ao ap p0.Cup.Done) {r:wHa} (hm:wDM p0 p1=some r):Gv Tryz.prog 47 [.agg #[jV p0.Cup.Skiers,jV p0.Cup.Races,jV p0.Cup.Best,.slice aZ p0.Cup.Points.length ba,.slice ao p0.Cup.Done.length ap],jV p1] w (wBc w [] U (fun U_ L_ v=>v=.agg (([jV r.total]:List Go.Value) ++ (nA KL.encI r.places.l)).toArray/\L_=[])):=by
 unfold wDM at hm
 refine Gv.of Tryz.func47 Z Tryz.ntmps47 Tryz.results47 Z (sR (.fx 0 (.fx 1 .nil .stop) .stop) Z ?_)
 let B0:List Value:=[jV p0.Cup.Skiers,jV p0.Cup.Races,jV p0.Cup.Best,.slice aZ p0.Cup.Points.length ba,.slice ao p0.Cup.Done.length ap]
 refine zq (cs:=B0) rfl rfl rfl rfl rfl rfl (by rfl) hS ?_
 intro W1 b2 dO
 refine zg (cs:=([jV 0]:List Go.Value) ++ (nA KL.encI (Arr.fill 61 0).l)) Z Z Z Z Z Tryz.zeroValue136 Z dO ?_
 intro W5 b6 dP
 have dR:sW w U U [.blk b6 136 (([jV 0]:List Go.Value) ++ (nA KL.encI (Arr.fill 61 0).l)),.blk b2 89 B0] W5:=dP
 refine eN (sR (.fx 0 .nil .stop) Z (zg (cs:=([jV 0]:List Go.Value) ++ (nA KL.encI (Arr.fill 61 0).l)) Z Z Z Z Z Tryz.zeroValue136 Z dR ?_))
 intro bU ae dI
 have cu:sW w U U [.blk ae 136 (([jV 0]:List Go.Value) ++ (nA KL.encI (Arr.fill 61 0).l)),.blk b6 136 (([jV 0]:List Go.Value) ++ (nA KL.encI (Arr.fill 61 0).l)),.blk b2 89 B0] bU:=dI
 refine eN (zJ (sR gDg Z (oL Z (cu.ldBA (j:=2) Z Z Z Tryz.isAgg89 Tryz.sizeOf89 (vs:=B0) Z Z) (oM Z Z (bnK hm fun an dh eu=>zL 0 Z Z Z Z (zK Z Z Tryz.call78 (zB Z (zB Z zM)) Z) cu (fun hs=>wHR p0 aZ ba ao ap p1 bU U hs cy bC dh) (.inr Z) ?_)))))
 rintro bj eX fy cL bJ dM ⟨bO,bY,rfl,rfl⟩
 let B1:Res:=.row bO bY 3 1 (nA KL.encI an)
 have dN:sW w U bj [B1,.blk ae 136 (([jV 0]:List Go.Value) ++ (nA KL.encI (Arr.fill 61 0).l)),.blk b6 136 (([jV 0]:List Go.Value) ++ (nA KL.encI (Arr.fill 61 0).l)),.blk b2 89 B0] cL:=dM
 refine oR Z (zn Z Z zD) (oM Z Z (eN (zS (bnK eu fun aj dY eB=>?_))))
 have q:=wBM dY
 obtain ⟨bH,dZ⟩:=q
 replace bH:=zH bH
 refine CK.forN' (fun aX x33 σ_ w_=>∃ (U_:PHeap),σ_ 14=jV (↑aX:Int)/\σ_ 1=jV p1/\σ_ 2=.pointer (some ⟨b2,0,none⟩)/\σ_ 4=.pointer (some ⟨b6,0,none⟩)/\σ_ 5=.pointer (some ⟨ae,0,none⟩)/\σ_ 12=.slice bO an.length bY/\σ_ 13=jV (↑an.length:Int)/\PHeap.Le bj U_/\sW w U U_ [.blk ae 136 (([jV x33]:List Go.Value) ++ (nA KL.encI (Arr.fill 61 0).l)),.blk b6 136 (([jV 0]:List Go.Value) ++ (nA KL.encI (Arr.fill 61 0).l)),.blk b2 89 B0,B1] w_) dZ ?_ ?_ ?_
 exact ⟨bj,rfl,rfl,rfl,rfl,rfl,rfl,rfl,(zN _),(dN.pick [1,2,3,0] _ (by decide) rfl)⟩
 rintro aX x33 fD fJ bV bE ⟨bR,bs,ci,bq,db,br,cj,cm,bK,bB⟩ eK
 have bZ:Hid ((↑aX:Int) < (↑an.length:Int)):=zH (wBG bE)
 replace bE:=zH bE
 have ef:Hid (w64 ((↑aX:Int) + 1)=(↑(aX + 1):Int)):=zH (by have h1:=bH.out;have h2:=bZ.out;rw [wAX] <;> omega)
 refine sR fL1 Z (oR Z (zV Z bs cm) (eN (zJ (cT Z bZ (kN (zJ (zS (sR fL3 Z (bnK eK fun _ bu eD=>?_)))))))))
 have q:=bB.rowSome (j:=3) rfl (by rw [wAC (f:=KL.encI) (sz:=1) (fun _=>rfl) an];have hz:=wAT bu;omega)
 obtain ⟨fh,cr⟩:=q
 refine oR Z (ZV Z cj cr bs zD zC (wAT bu)) ?_
 have d9:=wBb (xs:=an) (wAT bu)
 refine ZC rfl rfl rfl rfl (bB.ldR (j:=3) rfl cr rfl rfl zG (wAa (sz:=1) (fun _=>rfl) _ _ 0 _ d9 (by first | omega | rfl | simp) rfl)) rfl (Zw rfl rfl rfl rfl rfl rfl (eN (ZO zz [3,1,3,1,3,3,1,3,3,1,3,2,2,2,3,0] (wSK (.fx 11 (.fx 12 (.fx 13 (.fl 14 (.fx 15 .nil .stop)) .stop) .stop) .stop)) (by kernel_rfl) ?_)))
 have aV:=bB.drew
 generalize hw_W64:({ bV with drawn:=bV.drawn + 1 }:World)=cO at aV ⊢
 refine oR Z (zF Z br yn Z zC) (oL Z (aV.ldB (j:=0) Z Z Z zG (v:=jV x33) Z) (oR Z (zF Z bq Zv Z Zh) (oL Z (aV.ldBA (j:=2) Z Z Z YA Zh (vs:=B0) Z Z) (oR Z (zF Z bq Zv Z Zh) (oR Z (zF Z Z ZJ Z yj) (oL Z (aV.ldB (j:=2) Z Z Z ym (v:=.slice ao p0.Cup.Done.length ap) Z) (oM Z Z (bnK eD fun bN bw eE=>?_))))))))
 have dr:=bC.le bJ
 have cq:=dr.le bK
 have q:=cq.el (wAj bw)
 obtain ⟨cR,eV,fB,dA,bA,eH⟩:=q
 obtain ⟨bL,bM,rfl,dt⟩:=eH
 replace bA:Cl bR cR (eV + (gd an aX).toNat * 1) [.slice bL bN.length bM]:=bA
 refine oR Z (ZA Z Z dA Z ZK zk (wCO bw) (wCX bw)) (oL Z (aV.ldC (f:=0) bA (v:=.slice bL bN.length bM) Z Z zr Z) (oM Z ci ?_))
 have du:=cy.le bJ
 have dv:=du.le bK
 refine bnK eE fun x81 dw eF=>zL 0 Z Z Z Z (zK Z Z Tryz.call80 (zB Z (zB Z (zB Z zM))) Z) aV (fun hs=>wEx p0.Cup aZ ba ao ap bN bL bM p1 cO bR hs dv cq dt dw) (.inr Z) ?_
 rintro bS eY fz cP eO dQ ⟨rfl,rfl⟩
 have dS:sW w U bS [.blk ae 136 (([jV x33]:List Go.Value) ++ (nA KL.encI (Arr.fill 61 0).l)),.blk b6 136 (([jV 0]:List Go.Value) ++ (nA KL.encI (Arr.fill 61 0).l)),.blk b2 89 B0,B1] cP:=dQ
 refine ZL (pv:=[(0,jV x33),(1,jV x81)]) (zs:=[jV 0,jV 0]) (cs:=[jV x33,jV x81]) Z Z Z Z Z (wAG Z (wAG Z wAZ)) zD zC ZW Z Z Z Z Z dS ?_
 intro bk bW dT
 have dU:sW w U bS [.row (some ⟨bW,0,none⟩) 2 3 1 (nA KL.encI [x33,x81]),.blk ae 136 (([jV x33]:List Go.Value) ++ (nA KL.encI (Arr.fill 61 0).l)),.blk b6 136 (([jV 0]:List Go.Value) ++ (nA KL.encI (Arr.fill 61 0).l)),.blk b2 89 B0,B1] bk:=dT
 have q:=dU.freezeR (k:=0) (n:=[x33,x81].length) rfl (wAC (f:=KL.encI) (sz:=1) (fun _=>rfl) [x33,x81]) (by decide)
 obtain ⟨bT,eQ,eI,dV⟩:=q
 have dD:sW w U bT [.blk ae 136 (([jV x33]:List Go.Value) ++ (nA KL.encI (Arr.fill 61 0).l)),.blk b6 136 (([jV 0]:List Go.Value) ++ (nA KL.encI (Arr.fill 61 0).l)),.blk b2 89 B0,B1] bk:=dV
 refine bnK eF fun cG dg eh=>zL 0 Z Z Z Z (zK Z Z Tryz.call79 (zB Z zM) Z) dD (fun hs=>wLL [x33,x81] (some ⟨bW,0,none⟩) 2 bk bT hs eI dg) (.inr Z) ?_
 rintro bi eW fw cI eL dE ⟨rfl,rfl⟩
 have dF:sW w U bi [.blk ae 136 (([jV x33]:List Go.Value) ++ (nA KL.encI (Arr.fill 61 0).l)),.blk b6 136 (([jV 0]:List Go.Value) ++ (nA KL.encI (Arr.fill 61 0).l)),.blk b2 89 B0,B1] cI:=dE
 refine zY rfl rfl rfl rfl (fun _=>zF rfl br yn rfl zC) (zh (j:=0) (vs:=[jV cG]) rfl rfl rfl rfl dF rfl rfl rfl rfl zC (by simp) rfl rfl rfl ?_)
 intro cJ dG
 have dH:sW w U bi [.blk ae 136 (([jV cG]:List Go.Value) ++ (nA KL.encI (Arr.fill 61 0).l)),.blk b6 136 (([jV 0]:List Go.Value) ++ (nA KL.encI (Arr.fill 61 0).l)),.blk b2 89 B0,B1] cJ:=dG
 refine zd (zf (zI (rR fL2 Z (oR Z (zt (zU Z bs Z) (congrArg (jV) ef.out)) (oM Z Z (zd ?_))))))
 cases eh
 exact zI ⟨Z,⟨bi,Z,ci,bq,db,br,cj,cm,(((bK.trans eO).trans eQ).trans eL),dH⟩⟩
 rintro fE fb ⟨bP,de,cV,cW,cX,cY,fj,cZ,eM,ct⟩
 have cS:Hid (¬ ((↑(((↑an.length:Int):Int) - 0).toNat:Int) < (↑an.length:Int))):=zH (wAq)
 refine sR fL1 Z (oR Z (zV Z de cZ) (eN (zJ (cF Z cS (ZH (zZ (zZ (zx (zI (zJ (sR fL5 Z (oR Z (zF Z cW Zv Z Zh) (oR Z (zF Z Z ZJ Z yj) (oL Z (ct.ldB (j:=2) Z Z Z ym (v:=.slice ao p0.Cup.Done.length ap) Z) (oR Z (zn Z Z ZK) (oM Z Z (eN (zS (bnK eB fun ai dW en=>?_)))))))))))))))))))
 have q:=wBM dW
 obtain ⟨bG,dX⟩:=q
 replace bG:=zH bG
 refine CK.forN' (fun aW am σ_ w_=>∃ (U_:PHeap),σ_ 38=jV (↑aW:Int)/\σ_ 1=jV p1/\σ_ 4=.pointer (some ⟨b6,0,none⟩)/\σ_ 5=.pointer (some ⟨ae,0,none⟩)/\σ_ 36=.slice ao p0.Cup.Done.length ap/\σ_ 37=jV (↑p0.Cup.Done.length:Int)/\PHeap.Le bP U_/\sW w U U_ [.blk ae 136 (([jV aj]:List Go.Value) ++ (nA KL.encI am.l)),.blk b6 136 (([jV 0]:List Go.Value) ++ (nA KL.encI (Arr.fill 61 0).l)),.blk b2 89 B0] w_) dX ?_ ?_ ?_
 exact ⟨bP,rfl,cV,cX,cY,rfl,rfl,(zN _),(ct.pick [0,1,2] _ (by decide) rfl)⟩
 rintro aW am fC fG fc bD ⟨bb,bh,be,cd,bg,bn,bp,bI,az⟩ eJ
 have bX:Hid ((↑aW:Int) < (↑p0.Cup.Done.length:Int)):=zH (wBG bD)
 replace bD:=zH bD
 have cz:Hid (w64 ((↑aW:Int) + 1)=(↑(aW + 1):Int)):=zH (by have h1:=bG.out;have h2:=bX.out;rw [wAX] <;> omega)
 refine sR fL1 Z (oR Z (zV Z bh bp) (eN (zJ (cT Z bX (kN (zJ (zS (sR fL3 Z (bnK eJ fun cH cn er=>?_)))))))))
 have dm:=bC.le bJ
 have dp:=dm.le eM
 have dq:=dp.le bI
 have q:=dq.el (wAj cn)
 obtain ⟨cQ,eU,fA,dx,bz,eG⟩:=q
 obtain ⟨cD,cE,rfl,cp⟩:=eG
 replace bz:Cl bb cQ (eU + aW * 1) [.slice cD cH.length cE]:=bz
 refine oR Z (ZV Z bn dx bh ZK zk (wCZ cn)) (oL Z (az.ldC (f:=0) bz (v:=.slice cD cH.length cE) Z Z zr Z) (oA Z Z (eN (sR fL5 Z (oM Z Z (oM Z be (bnK er fun ak av ew=>?_)))))))
 have q:=cp.el (fun _=>rfl) (wAj av)
 obtain ⟨ff,ft,dy,dB⟩:=q
 refine oR Z (ZA Z Z dy Z zD zC (wCO av) (wCX av)) (oL Z (az.ldC (f:=0) dB (v:=jV ak) Z Z zG Z) (oR Z (yG Z Z Z) (eN (ifc ew ?_ ?_))))
 intro bm ey
 refine cT Z bm (rR (wRU (.fx 10 .nil .stop)) Z (oM Z Z (oM Z be ?_)))
 have q:=cp.el (fun _=>rfl) (wAj av)
 obtain ⟨fg,fu,dz,dC⟩:=q
 refine oR Z (ZA Z Z dz Z zD zC (wCO av) (wCX av)) (oL Z (az.ldC (f:=0) dC (v:=jV ak) Z Z zG Z) (oR Z (zF Z bg yn Z Tryz.sizeOf134) (bnK ey fun _ au ez=>oR Z (yz Z Z Z Tryz.runUnderlying134 zC (wBP au) (wBQ au)) ?_)))
 have d5:=Arr.at_ am (k:=ak.toNat) (by have hz0:=wAT au;omega)
 refine ZC rfl rfl rfl rfl (az.ldB (j:=0) rfl rfl ((rfl:ev _ _=.pointer (some ⟨ae,1 + ak.toNat * 1,none⟩)).trans (wRe (by omega))) zG (wUr (n:=1) rfl (cell0 (sz:=1) (fun _=>rfl) _ _ 0 _ d5 rfl))) rfl (zY rfl rfl rfl rfl (fun _=>zU rfl rfl rfl) (zY rfl rfl rfl rfl (fun _=>zF rfl bg yn rfl Tryz.sizeOf134) (zY rfl rfl rfl rfl (fun _=>yz rfl rfl rfl Tryz.runUnderlying134 zC (wBP au) (wBQ au)) ?_)))
 have d7:=Arr.at_ am (k:=ak.toNat) (by have hz0:=wAT au;omega)
 refine zh (j:=0) (vs:=[jV (w64 ((am.get ak.toNat) + 1))]) (cs':=([jV aj]:List Go.Value) ++ (nA KL.encI (am.set ak.toNat (w64 ((am.get ak.toNat) + 1))).l)) rfl rfl rfl rfl az rfl ((rfl:ev _ _=.pointer (some ⟨ae,1 + ak.toNat * 1,none⟩)).trans (wRe (by omega))) rfl rfl zC (by have hz0:=wAT au;simp only [nN,List.length_cons,List.length_nil,nL,wBS (f:=KL.encI) (sz:=1) (N:=61) am (fun _=>rfl) rfl];omega) rfl (wQY (n:=1) rfl (setN0 (sz:=1) (fo:=0) (fun _=>rfl) _ _ _ _ d7 (zA rfl) rfl)) rfl ?_
 intro cK dJ
 have dK:sW w U bb [.blk ae 136 (([jV aj]:List Go.Value) ++ (nA KL.encI (am.set ak.toNat (w64 ((am.get ak.toNat) + 1))).l)),.blk b6 136 (([jV 0]:List Go.Value) ++ (nA KL.encI (Arr.fill 61 0).l)),.blk b2 89 B0] cK:=dJ
 refine zd (zf (zI (rR fL2 Z (oR Z (zt (zU Z bh Z) (congrArg (jV) cz.out)) (oM Z Z (zd ?_))))))
 cases ez
 exact zI ⟨Z,⟨bb,Z,be,cd,bg,bn,bp,bI,dK⟩⟩
 intro bm eA
 refine cF Z bm (Ze (zf (zI (rR fL2 Z (oR Z (zt (zU Z bh Z) (congrArg (jV) cz.out)) (oM Z Z (zd ?_)))))))
 cases eA
 exact zI ⟨Z,⟨bb,Z,be,cd,bg,bn,bp,bI,az⟩⟩
 rintro fH fd ⟨bQ,df,fk,cg,c8,fm,da,fq,cw⟩
 have cU:Hid (¬ ((↑(((↑p0.Cup.Done.length:Int):Int) - 0).toNat:Int) < (↑p0.Cup.Done.length:Int))):=zH (wAq)
 refine sR fL1 Z (oR Z (zV Z df da) (eN (zJ (cF Z cU (ZH (zZ (zZ (zx (zI (sR gCt Z ?_))))))))))
 have cA:(([jV aj]:List Go.Value) ++ (nA KL.encI ai.l):List Go.Value).length=62:=by rw [nN,wBS (f:=KL.encI) (sz:=1) (N:=61) ai (fun _=>rfl) rfl];rfl
 refine oL Z (cw.ldBA (j:=0) Z Z c8 Tryz.isAgg136 Tryz.sizeOf136 (vs:=([jV aj]:List Go.Value) ++ (nA KL.encI ai.l)) (nO (Nat.le_of_eq cA)) cA) ?_
 have bF:=(show (([jV aj]:List Go.Value) ++ (nA KL.encI ai.l):List Go.Value).length=62 by rw [nN,wBS (f:=KL.encI) (sz:=1) (N:=61) ai (fun _=>rfl) rfl];rfl)
 have cB:=(show (([jV 0]:List Go.Value) ++ (nA KL.encI (Arr.fill 61 0).l):List Go.Value).length=62 by rw [nN,wBS (f:=KL.encI) (sz:=1) (N:=61) (Arr.fill 61 0) (fun _=>rfl) rfl];rfl)
 refine zh (j:=1) (vs:=([jV aj]:List Go.Value) ++ (nA KL.encI ai.l)) rfl rfl rfl rfl cw rfl cg rfl rfl (fun w=>by rw [bF];exact Tryz.sizeOf136 w) (by rw [bF,cB];exact zA rfl) (by rw [List.all_append,wFP (fun _=>rfl)];rfl) (wHv _ _ (bF.trans cB.symm)) rfl ?_
 intro cM dL
 have cx:sW w U bQ [.blk ae 136 (([jV aj]:List Go.Value) ++ (nA KL.encI ai.l)),.blk b6 136 (([jV aj]:List Go.Value) ++ (nA KL.encI ai.l)),.blk b2 89 B0] cM:=dL
 refine eN (zP ?_)
 cases en
 have cC:(([jV aj]:List Go.Value) ++ (nA KL.encI ai.l):List Go.Value).length=62:=by rw [nN,wBS (f:=KL.encI) (sz:=1) (N:=61) ai (fun _=>rfl) rfl];rfl
 exact ⟨rfl,_,(wLc (v:=.agg (([jV aj]:List Go.Value) ++ (nA KL.encI ai.l)).toArray) ⟨⟨_,cg,(wBo Tryz.isAgg136 Tryz.sizeOf136 (cx.blkAt (k:=1) rfl) (vs:=([jV aj]:List Go.Value) ++ (nA KL.encI ai.l)) (nO (Nat.le_of_eq cC)) cC)⟩,trivial⟩),bQ,_,(cx.pick [] _ (by decide) rfl),rfl,rfl⟩
theorem wHj (p0:wCM) (am:Option Addr) (ao:Nat) (an:Option Addr) (ap:Nat) (w:World) (U:PHeap) (hS:St0 w U []) (bP:Sl U 1 am ao p0.Cup.Points.length (nA KL.encI p0.Cup.Points)) (bQ:SlR U wHx an ap p0.Cup.Done) {r:(List Int)} (hm:wDX p0=some r):Gv Tryz.prog 23 [.agg #[jV p0.Cup.Skiers,jV p0.Cup.Races,jV p0.Cup.Best,.slice am p0.Cup.Points.length ao,.slice an p0.Cup.Done.length ap]] w (wBc w [] U (fun U_ L_ v=>∃ (A0:Option Addr) (c0:Nat),v=.slice A0 r.length c0/\L_=[.row A0 c0 3 1 (nA KL.encI r)])):=by
 unfold wDX at hm
 refine Gv.of Tryz.func23 Z Tryz.ntmps23 Tryz.results23 Z (sR gCr Z ?_)
 let B0:List Value:=[jV p0.Cup.Skiers,jV p0.Cup.Races,jV p0.Cup.Best,.slice am p0.Cup.Points.length ao,.slice an p0.Cup.Done.length ap]
 refine zq (cs:=B0) rfl rfl rfl rfl rfl rfl (by rfl) hS ?_
 intro W1 b2 bh
 refine oA Z Z (eN (sR fL1 Z (oA Z Z (eN (zJ (sR fL4 Z (oR Z (zF Z Z Zv Z Zh) (oR Z (zF Z Z ZJ Z zC) (oL Z (bh.ldB (j:=0) Z Z Z zG (v:=jV p0.Cup.Skiers) Z) (oM Z Z (eN (zS (bnK hm fun cp bR bU=>?_)))))))))))))
 have q:=wBM bR
 obtain ⟨av,bS⟩:=q
 replace av:=zH av
 refine CK.forN' (fun ae ah σ_ w_=>∃ (U_:PHeap) (ai:Option Addr) (ak:Nat),σ_ 8=jV (↑ae:Int)/\σ_ 1=.pointer (some ⟨b2,0,none⟩)/\σ_ 3=.slice ai ah.length ak/\σ_ 7=jV p0.Cup.Skiers/\PHeap.Le U U_/\sW w U U_ [.blk b2 89 B0,.row ai ak 3 1 (nA KL.encI ah)] w_) bS ?_ ?_ ?_
 have bI:=bh.nilrow 3 1
 exact ⟨U,none,0,rfl,rfl,rfl,rfl,(zN _),(bI.pick [1,0] _ (by decide) rfl)⟩
 rintro ae ah cn cq bp au ⟨bm,ai,ak,aq,be,bA,bg,az,bi⟩ bX
 have ba:Hid ((↑ae:Int) < p0.Cup.Skiers):=zH (wBG au)
 replace au:=zH au
 have bT:Hid (w64 ((↑ae:Int) + 1)=(↑(ae + 1):Int)):=zH (by have h1:=av.out;have h2:=ba.out;rw [wAX] <;> omega)
 refine sR fL1 Z (oR Z (zV Z aq bg) (eN (zJ (cT Z ba (kN (zJ (zS (sR fL2 Z (oM Z aq (oA Z Z (eN (rR (wEQ (.fx 3 (.fl 4 gDb) .stop)) Z (oM Z bA (oL Z (bi.ldBA (j:=0) Z Z be Tryz.isAgg89 Tryz.sizeOf89 (vs:=B0) Z Z) (oM Z Z ?_)))))))))))))))
 have bE:=bP.le az
 have bF:=bQ.le az
 refine bnK bX fun x47 bG bV=>zL 0 Z Z Z Z (zK Z Z Tryz.call47 (zB Z (zB Z zM)) Z) bi (fun hs=>wIo p0 am ao an ap (↑ae:Int) bp bm hs bE bF bG) (.inr Z) ?_
 rintro aj bZ cm bq bY bJ ⟨rfl,rfl⟩
 let B1:Res:=.row ai ak 3 1 (nA KL.encI ah)
 have bK:sW w U aj [.blk b2 89 B0,B1] bq:=bJ
 refine oR Z (Runs.fld Z Z yn Z (wFx zG (v:=jV x47.total) Z)) (ZL (pv:=[(0,jV x47.total)]) (zs:=[jV 0]) (cs:=[jV x47.total]) Z Z Z Z Z (wAG Z wAZ) zD zC ZW Z Z Z Z Z bK ?_)
 intro br bu bL
 let B2:Res:=.row (some ⟨bu,0,none⟩) 1 3 1 (nA KL.encI [x47.total])
 have bj:sW w U aj [B2,.blk b2 89 B0,B1] br:=bL
 refine bnK bV fun x62 bH bW=>Zq (j:=2) (enc:=KL.encI) (xs:=ah) (ys:=[x47.total]) (zs:=x62) rfl rfl rfl rfl rfl yF wId rfl rfl rfl rfl rfl rfl bj rfl rfl rfl (bj.srcR (j:=0) rfl (by decide) (wAC (f:=KL.encI) (sz:=1) (fun _=>rfl) [x47.total])) (fun _=>rfl) (fun _=>rfl) bH rfl ?_
 intro aW bb bs bM
 have bN:sW w U aj [B2,.blk b2 89 B0,.row aW bb 3 1 (nA KL.encI x62)] bs:=bM
 refine oA Z Z (zd (zf (zI (rR fL2 Z (oR Z (zt (zU Z aq Z) (congrArg (jV) bT.out)) (oM Z Z (zd ?_)))))))
 cases bW
 exact zI ⟨rfl,⟨aj,aW,bb,rfl,be,rfl,bg,(az.trans bY),(bN.pick [1,2] _ (by decide) rfl)⟩⟩
 rintro cr cg ⟨bn,bk,bw,bD,ci,bB,bC,cj,bO⟩
 have bz:Hid (¬ ((↑((p0.Cup.Skiers:Int) - 0).toNat:Int) < p0.Cup.Skiers)):=zH (wAq)
 refine sR fL1 Z (oR Z (zV Z bD bC) (eN (zJ (cF Z bz (ZH (zZ (zZ (zx (zI (sR fL2 Z (oM Z bB (oA Z Z (eN (zP ?_))))))))))))))
 have hE:=nB bU;first | subst r | cases hE
 exact ⟨rfl,_,(zm rfl),bn,_,(bO.pick [1] _ (by decide) rfl),bk,bw,rfl,rfl⟩
theorem wLM (p0:wBq) (ai:Option Addr) (ak:Nat) (aj:Option Addr) (am:Nat) (w:World) (U:PHeap) (hS:St0 w U []) (bB:Sl U 1 ai ak p0.Points.length (nA KL.encI p0.Points)) (bC:SlR U wHx aj am p0.Done) {r:(List Int) × Int} (hm:wDu p0=some r):Gv Tryz.prog 10 [.agg #[jV p0.Skiers,jV p0.Races,jV p0.Best,.slice ai p0.Points.length ak,.slice aj p0.Done.length am]] w (wBc w [] U (fun U_ L_ v=>∃ (A0:Option Addr) (c0:Nat),v=.tuple #[.slice A0 r.1.length c0,jV r.2]/\L_=[.row A0 c0 3 1 (nA KL.encI r.1)])):=by
 unfold wDu at hm
 refine Gv.of Tryz.func10 Z Tryz.ntmps10 Tryz.results10 Z (sR gDc Z ?_)
 let B0:List Value:=[jV p0.Skiers,jV p0.Races,jV p0.Best,.slice ai p0.Points.length ak,.slice aj p0.Done.length am]
 refine zq (cs:=B0) rfl rfl rfl rfl rfl rfl (by rfl) hS ?_
 intro W1 b2 be
 refine oA Z Z (oA Z Z (eN (sR (.fl 0 (.fx 1 (wWN gDb) .stop)) Z (oL Z (be.ldBA (j:=0) Z Z Z YA Zh (vs:=B0) Z Z) ?_))))
 have q:=bnd hm
 obtain ⟨⟨x5,x6⟩,h7,bg⟩:=q
 try dsimp only at bg
 refine zL 0 Z Z Z Z (zK Z Z Tryz.call22 (zB Z zM) Z) be (fun hs=>wMF p0 ai ak aj am W1 U hs bB bC h7) (.inr Z) ?_
 rintro U9 bH bM bi bK bq ⟨an,aq,ao,au,rfl,rfl,bk,bm⟩
 have br:sW w U U9 [.blk b2 51 B0] bi:=bq
 refine oM Z Z (oR Z (zw Z Z (v:=.agg #[jV x5.Cup.Skiers,jV x5.Cup.Races,jV x5.Cup.Best,.slice an x5.Cup.Points.length aq,.slice ao x5.Cup.Done.length au]) Z) (oR Z (zw Z Z (v:=jV x6) Z) (zg (cs:=[jV 0,jV 0,jV 0,.slice none 0 0,.slice none 0 0]) Z Z Z Z Z Tryz.zeroValue89 Z br ?_)))
 intro bJ aZ bs
 let B1:List Value:=[jV x5.Cup.Skiers,jV x5.Cup.Races,jV x5.Cup.Best,.slice an x5.Cup.Points.length aq,.slice ao x5.Cup.Done.length au]
 refine zh (j:=0) (vs:=B1) Z Z Z Z bs Z Z Z Z Tryz.sizeOf89 (zA Z) Z Z Z ?_
 intro aY bu
 have az:sW w U U9 [.blk aZ 89 B1,.blk b2 51 B0] aY:=bu
 refine oA Z Z (eN (zJ (sR fL2 Z (oM Z Z (oR Z (Zz Z Z Z) (eN (ifc bg ?_ ?_)))))))
 intro av bD
 refine zu (ZT (fun h=>h av.out)) (kN (sR (.fl 0 gCw) Z (oL Z (az.ldBA (j:=0) Z Z Z Tryz.isAgg89 Tryz.sizeOf89 (vs:=B1) Z Z) (bnK bD fun x31 bn bE=>zL 0 Z Z Z Z (zK Z Z Tryz.call23 (zB Z zM) Z) az (fun hs=>wHj x5 an aq ao au aY U9 hs bk bm bn) (.inr Z) ?_))))
 rintro aX bI bN bj bL bw ⟨aW,bb,rfl,rfl⟩
 have bz:sW w U aX [.row aW bb 3 1 (nA KL.encI x31),.blk aZ 89 B1,.blk b2 51 B0] bj:=bw
 refine oA Z Z (oA Z Z (eN (zP ?_)))
 cases bE
 exact ⟨rfl,_,(wGV rfl rfl),aX,_,(bz.pick [0] _ (by decide) rfl),aW,bb,rfl,rfl⟩
 intro av bF
 refine cT Z av (sR fL3 Z (oM Z Z (oA Z Z (oA Z Z (eN (zP (zR ?_)))))))
 have bA:=az.nilrow 3 1
 cases bF
 exact ⟨rfl,_,(wGV rfl rfl),U9,_,(bA.pick [0] _ (by decide) rfl),none,0,rfl,rfl⟩
theorem wGU (w:World) (U:PHeap) (hS:St0 w U []) {r:Bool} (hm:wDc=some r):Gv Tryz.prog 12 [] w (wBc w [] U (fun U_ L_ v=>v=.bool r/\L_=[])):=by
 cases hm
 refine (xr12 w).mono ?_
 rintro v w' ⟨rfl,k⟩
 exact ⟨U,[],hS.grow k,Z,Z⟩
theorem wFu (p0:List Int) (eu:Option Addr) (ey:Nat) (w:World) (U:PHeap) (hS:St0 w U []) (mh:Sl U 1 eu ey p0.length (nA KL.encB8 p0)) {r:Bool} (hm:wBl p0=some r):Gv Tryz.prog 3 [.slice eu p0.length ey] w (wBc w [] U (fun U_ L_ v=>v=.bool r/\L_=[])):=by
 unfold wBl at hm
 refine Gv.of Tryz.func3 Z Tryz.ntmps3 Tryz.results3 Z (sR fL1 Z (oA Z Z (eN (sR (.fl 0 (.fx 1 (.fx 2 (wNw (.fx 7 (.fx 8 (.fl 9 (.fl 10 .nil)) .stop) .stop)) .stop) .stop)) Z (oM Z Z (bnK hm fun x1 h2 mH=>zL 0 Z Z Z Z (zK Z Z Tryz.call5 (zB Z zM) Z) hS (fun hs=>wIe p0 eu ey w U hs mh h2) (.inr Z) ?_))))))
 rintro U4 L5 v6 W7 qe mg ⟨dx,eD,ff,rfl,rfl,jj⟩
 have lg:sW w U U4 [.blk dx 67 [.slice eD x1.bytes.length ff,jV x1.next,.int .u32 x1.state]] W7:=mg
 have q:=bnd mH
 obtain ⟨⟨ai,x17,gO,x19⟩,jp,gt⟩:=q
 try dsimp only at gt
 refine zL 1 Z Z Z Z (zK Z Z Tryz.call4 (zB Z (zB Z (zB Z (zB Z zM)))) Z) lg (fun hs=>wGm x1 dx eD ff 6 5 14 W7 U4 hs jj jp) (.inl Z) ?_
 rintro cp pp qn ig qb lG ⟨cg,cx,bP,bU,ci,cy,cj,cz,eE,fg,eF,fj,gU,iz,rfl,rfl,jK,p6⟩
 let B0:Res:=.blk dx 67 [.slice gU x19.bytes.length iz,jV x19.next,.int .u32 x19.state]
 let B1:Res:=.row cj cz 64 4 (nA wAM ai.Readings)
 let B2:Res:=.row ci cy 62 3 (nA wAB ai.Clocks)
 let B3:Res:=.row bP bU 55 2 (nA wAP ai.Splits)
 let B4:Res:=.row cg cx 3 1 (nA KL.encI ai.Starts)
 let B5:Res:=.row eF fj 3 1 (nA KL.encI gO)
 have lY:sW w U cp [B4,B3,B2,B1,B5,B0] ig:=lG
 refine oM Z Z (oR Z (zw Z Z (v:=.agg #[.slice cg ai.Starts.length cx,.slice bP ai.Splits.length bU,.slice ci ai.Clocks.length cy,.slice cj ai.Readings.length cz]) Z) (oR Z (zw Z Z (v:=.slice eE x17.length fg) Z) (oR Z (zw Z Z (v:=.slice eF gO.length fj) Z) (zg (cs:=[.slice none 0 0,.slice none 0 0,.slice none 0 0,.slice none 0 0]) Z Z Z Z Z Tryz.zeroValue28 Z lY ?_))))
 intro pJ ae lZ
 let B6:List Value:=[.slice cg ai.Starts.length cx,.slice bP ai.Splits.length bU,.slice ci ai.Clocks.length cy,.slice cj ai.Readings.length cz]
 refine zh (j:=0) (vs:=B6) Z Z Z Z lZ Z Z Z Z ZQ (zA Z) Z Z Z ?_
 intro ip l5
 have gh:sW w U cp [.blk ae 28 B6,B4,B3,B2,B1,B5,B0] ip:=l5
 refine oA Z Z (oA Z Z (eN (sR fL4 Z (oR Z (zF Z Z zW Z yK) (oL Z (gh.ldB (j:=0) Z Z Z yf (v:=.slice bP ai.Splits.length bU) Z) (oR Z (zn Z Z ZY) (oA Z Z (eN (sR (.fl 0 (.fx 1 (.fx 2 .nil .stop) .stop)) Z ?_)))))))))
 let B7:List Value:=[jV 0,.slice none 0 0,.slice none 0 0]
 refine oR Z (ZN (pv:=[]) (z:=B7) (cs:=B7) Z wAZ yl wKF Z Z) (zg (cs:=B7) Z Z Z Z Z yl Z gh ?_)
 intro pL bT l7
 refine zh (j:=0) (vs:=B7) Z Z Z Z l7 Z Z Z Z Zg (zA Z) Z Z Z ?_
 intro it md
 have me:sW w U cp [.blk bT 37 B7,.blk ae 28 B6,B4,B3,B2,B1,B5,B0] it:=md
 refine eN (zJ (sR fL3 Z (oM Z Z (oR Z (zn Z Z ZK) (oM Z Z (eN (zS (bnK gt fun bN mq oy=>?_))))))))
 have q:=wBM mq
 obtain ⟨d9,mr⟩:=q
 replace d9:=zH d9
 refine CK.forN' (fun bi bL σ_ w_=>∃ (U_:PHeap) (bR:Option Addr) (bW:Nat),σ_ 38=jV (↑bi:Int)/\σ_ 3=.pointer (some ⟨ae,0,none⟩)/\σ_ 6=jV (↑ai.Splits.length:Int)/\σ_ 7=.pointer (some ⟨bT,0,none⟩)/\σ_ 36=.slice eE x17.length fg/\σ_ 37=jV (↑x17.length:Int)/\PHeap.Le cp U_/\sW w U U_ [.row bR bW 39 2 (nA wAO bL),.blk bT 37 [jV 0,.slice bR bL.length bW,.slice none 0 0],B4,B3,B2,B1,.blk ae 28 B6,B0] w_) mr ?_ ?_ ?_
 have mf:=me.nilrow 39 2
 exact ⟨cp,none,0,rfl,rfl,rfl,rfl,rfl,rfl,(zN _),(mf.pick [0,1,3,4,5,6,2,8] _ (by decide) rfl)⟩
 rintro bi bL qB qI fc dZ ⟨cr,bR,bW,cZ,jc,fm,dE,fq,ft,gL,gi⟩ oX
 have fd:Hid ((↑bi:Int) < (↑x17.length:Int)):=zH (wBG dZ)
 replace dZ:=zH dZ
 have gj:Hid (w64 ((↑bi:Int) + 1)=(↑(bi + 1):Int)):=zH (by have h1:=d9.out;have h2:=fd.out;rw [wAX] <;> omega)
 refine sR fL1 Z (oR Z (zV Z cZ ft) (eN (zJ (cT Z fd (kN (zJ (zS (sR fL5 Z (oM Z cZ (bnK oX fun x106 fR my=>?_))))))))))
 have jg:=jK.le gL
 have q:=jg.el (wAj fR)
 obtain ⟨iu,o7,qv,j0,dT,oz⟩:=q
 obtain ⟨gM,gN,rfl,jh⟩:=oz
 replace dT:Cl cr iu (o7 + bi * 1) [.slice gM x106.length gN]:=dT
 refine zY rfl rfl rfl rfl (fun _=>ZV rfl fq j0 cZ ZK zk (wCZ fR)) (ZC rfl rfl rfl rfl (gi.ldC (f:=0) dT (v:=.slice gM x106.length gN) rfl rfl zr rfl) rfl (Zw rfl rfl rfl rfl rfl rfl (Zw rfl rfl rfl rfl rfl rfl (eN (ZO zz [3,1,3,3,3,3,3,1,3,2,0,3,0] (wUR (.fx 9 (.fx 10 (.fl 11 (.fx 12 .nil .stop)) .stop) .stop)) (by kernel_rfl) ?_)))))
 have db:=gi.drew
 generalize hw_W120:({ fc with drawn:=fc.drawn + 1 }:World)=pE at db ⊢
 refine oR Z (zF Z dE ZF Z yL) (oL Z (db.ldB (j:=1) Z Z Z yh (v:=.slice bR bL.length bW) Z) (oM Z Z (oR Z (zt (zU Z Z Z) (congrArg (jV) gj.out)) (oM Z Z (oM Z fm (bnK my fun bY fS mz=>?_))))))
 have q:=jh.el (fun _=>rfl) (wAj fS)
 obtain ⟨pM,qf,j3,j7⟩:=q
 refine oR Z (ZV Z Z j3 Z zD zC (wCZ fS)) (oL Z (db.ldC (f:=0) j7 (v:=jV bY) Z Z zG Z) ?_)
 let B8:List Value:=[jV (↑(bi + 1):Int),jV bY]
 refine oR Z (ZN (pv:=[(0,jV (↑(bi + 1):Int)),(1,jV bY)]) (z:=[jV 0,jV 0]) (cs:=B8) Z (wAG Z (wAG Z wAZ)) Tryz.zeroValue39 wRA Z Z) (ZL (pv:=[(0,.agg B8.toArray)]) (zs:=[jV 0,jV 0]) (cs:=B8) Z Z Z Z Z (wAG Z wAZ) Zf Zu Tryz.zeroValue39 Z Z Z Z Z db ?_)
 intro ib iv k6
 let B9:Res:=.row (some ⟨iv,0,none⟩) 1 39 2 (nA wAO [(⟨(↑(bi + 1):Int),bY⟩:wAQ)])
 let eG:Res:=.blk bT 37 [jV 0,.slice bR bL.length bW,.slice none 0 0]
 have f7:sW w U cr [B9,.row bR bW 39 2 (nA wAO bL),eG,B4,B3,B2,B1,.blk ae 28 B6,B0] ib:=k6
 refine bnK mz fun x133 ji mA=>Zq (j:=1) (enc:=wAO) (xs:=bL) (ys:=[(⟨(↑(bi + 1):Int),bY⟩:wAQ)]) (zs:=x133) rfl rfl rfl rfl rfl Tryz.underlying34 wSB rfl rfl rfl rfl rfl rfl f7 rfl rfl rfl (f7.srcR (j:=0) rfl (by decide) (wAC (f:=wAO) (sz:=2) (fun _=>rfl) [(⟨(↑(bi + 1):Int),bY⟩:wAQ)])) (fun _=>rfl) (fun _=>rfl) ji rfl ?_
 intro cK cV ic k8
 let eH:Res:=.row cK cV 39 2 (nA wAO x133)
 have k9:sW w U cr [B9,eH,eG,B4,B3,B2,B1,.blk ae 28 B6,B0] ic:=k8
 refine oR Z (zF Z dE ZF Z yL) (zh (j:=2) (vs:=[.slice cK x133.length cV]) Z Z Z Z k9 Z Z Z Z yL (zA Z) Z Z Z ?_)
 intro ie lc
 have lf:sW w U cr [B9,eH,.blk bT 37 [jV 0,.slice cK x133.length cV,.slice none 0 0],B4,B3,B2,B1,.blk ae 28 B6,B0] ie:=lc
 refine zd (zf (zI (rR fL2 Z (oR Z (zt (zU Z cZ Z) (congrArg (jV) gj.out)) (oM Z Z (zd ?_))))))
 cases mA
 exact zI ⟨rfl,⟨cr,cK,cV,rfl,jc,fm,dE,fq,ft,gL,(lf.pick [1,2,3,4,5,6,7,8] _ (by decide) rfl)⟩⟩
 rintro qD ct ⟨pD,cd,cw,jd,fu,fw,fy,pR,iJ,p7,f9⟩
 have iy:Hid (¬ ((↑(((↑x17.length:Int):Int) - 0).toNat:Int) < (↑x17.length:Int))):=zH (wAq)
 refine sR fL1 Z (oR Z (zV Z jd iJ) (eN (zJ (cF Z iy (ZH (zZ (zZ (zx (zI (sR (.fl 0 (.fl 1 (.fx 2 (wQO (.nil)) .stop))) Z (oL Z (f9.ldBA (j:=6) Z Z fu Zb ZQ (vs:=B6) Z Z) (oM Z fw ?_))))))))))))
 have q:=f9.freezeR (k:=2) (n:=ai.Starts.length) rfl (wAC (f:=KL.encI) (sz:=1) (fun _=>rfl) ai.Starts) (by decide)
 obtain ⟨gW,p8,oH,lh⟩:=q
 let aj:Res:=.blk bT 37 [jV 0,.slice cd bN.length cw,.slice none 0 0]
 let bB:Res:=.row cd cw 39 2 (nA wAO bN)
 have li:sW w U gW [bB,aj,B3,B2,B1,.blk ae 28 B6,B0] ct:=lh
 have q:=li.freezeR (k:=2) (n:=ai.Splits.length) rfl (wAC (f:=wAP) (sz:=2) (fun _=>rfl) ai.Splits) (by decide)
 obtain ⟨gX,oY,oI,lj⟩:=q
 have lm:sW w U gX [bB,aj,B2,B1,.blk ae 28 B6,B0] ct:=lj
 have q:=lm.freezeR (k:=2) (n:=ai.Clocks.length) rfl (wAC (f:=wAB) (sz:=3) (fun _=>rfl) ai.Clocks) (by decide)
 obtain ⟨gY,gH,oK,ln⟩:=q
 have lq:sW w U gY [bB,aj,B1,.blk ae 28 B6,B0] ct:=ln
 have q:=lq.freezeR (k:=2) (n:=ai.Readings.length) rfl (wAC (f:=wAM) (sz:=4) (fun _=>rfl) ai.Readings) (by decide)
 obtain ⟨eL,ef,gC,ls⟩:=q
 have lu:sW w U eL [bB,aj,.blk ae 28 B6,B0] ct:=ls
 have jk:=oH.le oY
 have jl:=jk.le gH
 have fT:=jl.le ef
 have jm:=oI.le gH
 have fU:=jm.le ef
 have fV:=oK.le ef
 have q:=bnd oy
 obtain ⟨⟨ap,gP⟩,jo,gq⟩:=q
 try dsimp only at gq
 refine zL 0 Z Z Z Z (zK Z Z Tryz.call6 (zB Z (zB Z zM)) Z) lu (fun hs=>wKI ai cg cx bP bU ci cy cj cz (↑ai.Splits.length:Int) ct eL hs fT fU fV gC jo) (.inr Z) ?_
 rintro eM pn qk eY dg lv ⟨bz,bD,rfl,rfl⟩
 let am:Res:=.row bz bD 55 2 (nA wAP ap)
 have ga:sW w U eM [am,bB,aj,.blk ae 28 B6,B0] eY:=lv
 refine oM Z Z (oR Z (zw Z Z (v:=.slice bz ap.length bD) Z) (oR Z (zw Z Z (v:=jV gP) Z) (oA Z Z (oA Z Z (eN (sR (.fl 0 (.fl 1 (.fx 2 (wQO (.nil)) .stop))) Z (oL Z (ga.ldBA (j:=3) Z Z fu Zb ZQ (vs:=B6) Z Z) (oM Z fw ?_))))))))
 have jq:=fT.le dg
 have jr:=fU.le dg
 have jt:=fV.le dg
 have ju:=gC.le dg
 have q:=bnd gq
 obtain ⟨⟨bM,gQ⟩,jv,gu⟩:=q
 try dsimp only at gu
 refine zL 0 Z Z Z Z (zK Z Z Tryz.call7 (zB Z (zB Z zM)) Z) ga (fun hs=>wLI ai cg cx bP bU ci cy cj cz (↑ai.Splits.length:Int) eY eM hs jq jr jt ju jv) (.inr Z) ?_
 rintro gZ po qm cQ p9 lw ⟨bA,bE,fW,rfl,rfl⟩
 have lx:sW w U gZ [.row bA bE 23 1 (nA wHF fW),inn 3 1 KL.encI fW bM,am,bB,aj,.blk ae 28 B6,B0] cQ:=lw
 have q:=St.freezeN (R:=wHx) lx (fun _ _ _ _ h=>⟨_,_,rfl,h⟩) (fun _=>rfl) (by decide) rfl
 obtain ⟨g6,qa,oO,ly⟩:=q
 have ge:sW w U g6 [am,bB,aj,.blk ae 28 B6,B0] cQ:=ly
 refine oM Z Z (oR Z (zw Z Z (v:=.slice bA bM.length bE) Z) (oR Z (zw Z Z (v:=jV gQ) Z) (oA Z Z (oA Z Z (eN (sR (.fl 0 (.fx 1 (wRV (.nil)) .stop)) Z ?_))))))
 let eI:List Value:=[jV 0,.slice cd bN.length cw,.slice none 0 0]
 refine oL Z (ge.ldBA (j:=2) Z Z fy yS Zg (vs:=eI) Z Z) ?_
 have q:=ge.freezeR (k:=1) (n:=bN.length) rfl (wAC (f:=wAO) (sz:=2) (fun _=>rfl) bN) (by decide)
 obtain ⟨eO,o0,gD,lz⟩:=q
 have lB:sW w U eO [am,aj,.blk ae 28 B6,B0] cQ:=lz
 have q:=bnd gu
 obtain ⟨⟨cJ,gR⟩,jw,gv⟩:=q
 try dsimp only at gv
 refine zL 0 rfl rfl rfl rfl (zK rfl rfl Tryz.call8 (zB rfl zM) rfl) lB (fun hs=>wKK (⟨0,bN,[]⟩:wAU) cd cw none 0 cQ eO hs gD (by first | exact Sl.nil _ _ _ _ | exact SlR.nil) jw) (.inr rfl) ?_
 rintro g7 pq qo dv gI lC ⟨dp,dz,rfl,rfl⟩
 have gf:sW w U g7 [.row dp dz 86 3 (nA wAH cJ),am,aj,.blk ae 28 B6,B0] dv:=lC
 refine oM Z Z (oR Z (zw Z Z (v:=.slice dp cJ.length dz) Z) (oR Z (zw Z Z (v:=jV gR) Z) (oA Z Z (oA Z Z (eN (sR (.fl 0 (.fl 1 (.fx 2 (wQO (.nil)) .stop))) Z (oL Z (gf.ldBA (j:=2) Z Z fy yS Zg (vs:=eI) Z Z) (oM Z Z ?_))))))))
 have q:=gf.freezeR (k:=0) (n:=cJ.length) rfl (wAC (f:=wAH) (sz:=3) (fun _=>rfl) cJ) (by decide)
 obtain ⟨eQ,gJ,oP,lD⟩:=q
 have lE:sW w U eQ [am,aj,.blk ae 28 B6,B0] dv:=lD
 have jx:=gD.le gI
 have jy:=jx.le gJ
 have q:=bnd gv
 obtain ⟨⟨ag,gS⟩,jz,gw⟩:=q
 try dsimp only at gw
 refine zL 0 rfl rfl rfl rfl (zK rfl rfl Tryz.call9 (zB rfl (zB rfl zM)) rfl) lE (fun hs=>wGp (⟨0,bN,[]⟩:wAU) cd cw none 0 cJ dp dz dv eQ hs jy (by first | exact Sl.nil _ _ _ _ | exact SlR.nil) oP jz) (.inr rfl) ?_
 rintro bs pu qp ii o3 lF ⟨au,az,rfl,rfl⟩
 let eJ:Res:=.row au az 3 1 (nA KL.encI ag)
 have bI:sW w U bs [eJ,am,aj,.blk ae 28 B6,B0] ii:=lF
 refine oM Z Z (oR Z (zw Z Z (v:=.slice au ag.length az) Z) (oR Z (zw Z Z (v:=.bool gS) Z) (oA Z Z (oA Z Z (eN (zJ (zJ (yu fun bO bw=>?_))))))))
 have fz:bO 10=.slice bz ap.length bD:=(bw 10).trans rfl
 have iK:bO 11=jV gP:=(bw 11).trans rfl
 have fA:bO 12=.slice bA bM.length bE:=(bw 12).trans rfl
 have iL:bO 13=jV gQ:=(bw 13).trans rfl
 have iM:bO 15=jV gR:=(bw 15).trans rfl
 have cA:bO 16=.slice au ag.length az:=(bw 16).trans rfl
 have iN:bO 17=.bool gS:=(bw 17).trans rfl
 clear bw
 refine rR fL28 Z (oM Z iK (oR Z (Zz Z Z Z) (oM Z Z (ifc gw ?_ ?_))))
 intro bF mB
 refine zX Z Z Z (zQ Z Z (ZT (fun h=>h bF.out))) Z iL (zY Z Z Z (zQ Z Z (ZT (fun h=>h bF.out))) (fun _=>Zz Z Z Z) (oR Z (zi Z (ZT (fun h=>h bF.out)) Z) (oM Z Z (ifc mB ?_ ?_))))
 intro bG mC
 refine zX Z Z Z (zQ Z Z (ZT (fun h=>h bG.out))) Z iM (zY Z Z Z (zQ Z Z (ZT (fun h=>h bG.out))) (fun _=>Zz Z Z Z) (oR Z (zi Z (ZT (fun h=>h bG.out)) Z) (oM Z Z (ifc mC ?_ ?_))))
 intro bH mD
 refine zX Z Z Z (zQ Z Z (ZT (fun h=>h bH.out))) Z iN (zY Z Z Z (zQ Z Z (ZT (fun h=>h bH.out))) (fun _=>ZB Z Z) (oR Z (zi Z (ZT (fun h=>h bH.out)) Z) (oM Z Z (ifc mD ?_ ?_))))
 intro aV mE
 refine zX Z Z Z (zQ Z Z (nC aV.out)) Z fz (zY Z Z Z (zQ Z Z (nC aV.out)) (fun _=>zn Z Z ZY) (zX Z Z Z (zQ Z Z (nC aV.out)) Z cA (zY Z Z Z (zQ Z Z (nC aV.out)) (fun _=>zn Z Z zD) (zY Z Z Z (zQ Z Z (nC aV.out)) (fun _=>Zz Z Z Z) (oR Z (zi Z (nC aV.out) Z) (oM Z Z (ifc mE ?_ ?_)))))))
 intro aW mF
 refine zX Z Z Z (zQ Z Z (ZT (fun h=>h aW.out))) Z fA (zY Z Z Z (zQ Z Z (ZT (fun h=>h aW.out))) (fun _=>zn Z Z ZK) (zX Z Z Z (zQ Z Z (ZT (fun h=>h aW.out))) Z cA (zY Z Z Z (zQ Z Z (ZT (fun h=>h aW.out))) (fun _=>zn Z Z zD) (zY Z Z Z (zQ Z Z (ZT (fun h=>h aW.out))) (fun _=>Zz Z Z Z) (oR Z (zi Z (ZT (fun h=>h aW.out)) Z) (eN (ifc mF ?_ ?_)))))))
 intro dA mG
 refine zu (ZT (fun h=>h dA.out)) (kN (sR (.fl 0 (.fl 1 (.fx 2 (.fl 3 (.fx 4 (.fl 5 (.fx 6 (.fx 7 .nil .stop) .stop)) .stop)) .stop))) Z (oM Z cA (oR Z (zn Z Z zD) (ZL (pv:=[(0,jV 60),(1,jV 54),(2,jV 48),(3,jV 43),(4,jV 40),(5,jV 38)]) (zs:=[jV 0,jV 0,jV 0,jV 0,jV 0,jV 0]) (cs:=[jV 60,jV 54,jV 48,jV 43,jV 40,jV 38]) Z Z Z Z Z (wAG Z (wAG Z (wAG Z (wAG Z (wAG Z (wAG Z wAZ)))))) zD zC ZW Z Z Z Z Z bI ?_)))))
 intro eZ cu lH
 let cL:Res:=.row (some ⟨cu,0,none⟩) 6 3 1 (nA KL.encI [60,54,48,43,40,38])
 have lI:sW w U bs [cL,eJ,am,aj,.blk ae 28 B6,B0] eZ:=lH
 refine oM Z cA ?_
 have q:=lI.freezeR (k:=1) (n:=ag.length) rfl (wAC (f:=KL.encI) (sz:=1) (fun _=>rfl) ag) (by decide)
 obtain ⟨cN,o5,gE,lK⟩:=q
 have lL:sW w U cN [cL,am,aj,.blk ae 28 B6,B0] eZ:=lK
 let cM:List Value:=[.slice au ag.length az]
 refine ZL (pv:=[(0,.slice au ag.length az)]) (zs:=[.slice none 0 0]) (cs:=cM) Z Z Z Z Z (wAG Z wAZ) ZK zk Tryz.zeroValue23 Z Z Z Z Z lL ?_
 intro ij cS lJ
 have oB:RlL cN wHx [ag] cM:=(RlL.cons (R:=wHx) (x:=ag) (vs:=cM) ⟨au,az,rfl,gE⟩ RlL.nil)
 let dq:Res:=.row (some ⟨cS,0,none⟩) 1 23 1 cM
 have lM:sW w U cN [dq,cL,am,aj,.blk ae 28 B6,B0] ij:=lJ
 let bb:List Value:=[jV (↑ag.length:Int),jV 1,jV 1,.slice (some ⟨cu,0,none⟩) 6 6,.slice (some ⟨cS,0,none⟩) 1 1]
 let eK:List Value:=[jV 0,jV 0,jV 0,.slice none 0 0,.slice none 0 0]
 refine oR Z (ZN (pv:=[(0,jV (↑ag.length:Int)),(1,jV 1),(2,jV 1),(3,.slice (some ⟨cu,0,none⟩) 6 6),(4,.slice (some ⟨cS,0,none⟩) 1 1)]) (z:=eK) (cs:=bb) Z (wAG Z (wAG Z (wAG Z (wAG Z (wAG Z wAZ))))) Tryz.zeroValue51 wRB Z Z) (zg (cs:=eK) Z Z Z Z Z Tryz.zeroValue51 Z lM ?_)
 intro pF av lN
 refine zh (j:=0) (vs:=bb) Z Z Z Z lN Z Z Z Z Zh (zA Z) Z Z Z ?_
 intro cR lO
 have gg:sW w U cN [.blk av 51 bb,dq,cL,am,aj,.blk ae 28 B6,B0] cR:=lO
 refine eN (sR (.fl 0 (.fx 1 (wRV (.nil)) .stop)) Z (oL Z (gg.ldBA (j:=0) Z Z Z YA Zh (vs:=bb) Z Z) ?_))
 have q:=gg.freezeR (k:=2) (n:=[60,54,48,43,40,38].length) rfl (wAC (f:=KL.encI) (sz:=1) (fun _=>rfl) [60,54,48,43,40,38]) (by decide)
 obtain ⟨g8,eh,oU,lP⟩:=q
 have lQ:sW w U g8 [.blk av 51 bb,dq,am,aj,.blk ae 28 B6,B0] cR:=lP
 have jA:=oB.le eh
 have q:=lQ.freezeRR (R:=wHx) (k:=1) rfl jA rfl (by decide)
 obtain ⟨eU,en,oW,lR⟩:=q
 have lS:sW w U eU [.blk av 51 bb,am,aj,.blk ae 28 B6,B0] cR:=lR
 have fY:=oU.le en
 have q:=bnd mG
 obtain ⟨⟨bq,gT⟩,jB,gy⟩:=q
 try dsimp only at gy
 refine zL 0 Z Z Z Z (zK Z Z Tryz.call10 (zB Z zM) Z) lS (fun hs=>wLM (⟨(↑ag.length:Int),1,1,[60,54,48,43,40,38],[ag]⟩:wBq) (some ⟨cu,0,none⟩) 6 (some ⟨cS,0,none⟩) 1 cR eU hs fY oW jB) (.inr Z) ?_
 rintro cq py qq il er lT ⟨bQ,bV,rfl,rfl⟩
 let bS:Res:=.row bQ bV 3 1 (nA KL.encI bq)
 have dV:sW w U cq [bS,.blk av 51 bb,am,aj,.blk ae 28 B6,B0] il:=lT
 refine oM Z Z (oR Z (zw Z Z (v:=.slice bQ bq.length bV) Z) (oR Z (zw Z Z (v:=jV gT) Z) (oA Z Z (oA Z Z (eN (zJ (zJ (yu fun bZ bK=>?_))))))))
 have iO:bZ 10=.slice bz ap.length bD:=(bK 10).trans fz
 have iP:bZ 11=jV gT:=(bK 11).trans rfl
 have iQ:bZ 12=.slice bA bM.length bE:=(bK 12).trans fA
 have dF:bZ 16=.slice au ag.length az:=(bK 16).trans cA
 have iR:bZ 18=.pointer (some ⟨av,0,none⟩):=(bK 18).trans rfl
 have fB:bZ 19=.slice bQ bq.length bV:=(bK 19).trans rfl
 clear bK
 refine rR fL9 Z (oM Z iP (oR Z (Zz Z Z Z) (oM Z Z (ifc gy ?_ ?_))))
 intro aX mI
 refine zX Z Z Z (zQ Z Z (ZT (fun h=>h aX.out))) Z fB (zY Z Z Z (zQ Z Z (ZT (fun h=>h aX.out))) (fun _=>zn Z Z zD) (zX Z Z Z (zQ Z Z (ZT (fun h=>h aX.out))) Z dF (zY Z Z Z (zQ Z Z (ZT (fun h=>h aX.out))) (fun _=>zn Z Z zD) (zY Z Z Z (zQ Z Z (ZT (fun h=>h aX.out))) (fun _=>Zz Z Z Z) (oR Z (zi Z (ZT (fun h=>h aX.out)) Z) (eN (ifc mI ?_ ?_)))))))
 intro dB bp
 refine zu (ZT (fun h=>h dB.out)) (kN (zJ (sR fL3 Z (oM Z dF (oR Z (zn Z Z zD) (oM Z Z (eN (zS ?_))))))))
 have q:=wCT bp
 obtain ⟨qj,bn⟩:=q
 have q:=wCS bn
 obtain ⟨d5,mj⟩:=q
 replace d5:=zH d5
 refine yQ (fun an _ σ_ w_=>∃ (U_:PHeap),σ_ 129=jV (↑an:Int)/\σ_ 10=.slice bz ap.length bD/\σ_ 12=.slice bA bM.length bE/\σ_ 16=.slice au ag.length az/\σ_ 18=.pointer (some ⟨av,0,none⟩)/\σ_ 19=.slice bQ bq.length bV/\σ_ 127=.slice au ag.length az/\σ_ 128=jV (↑ag.length:Int)/\PHeap.Le cq U_/\sW w U U_ [.blk av 51 bb,aj,.blk ae 28 B6,B0,am,bS] w_) mj ?_ ?_ ?_
 exact ⟨cq,rfl,iO,iQ,dF,iR,fB,rfl,rfl,(zN _),(dV.pick [1,3,4,5,2,0] _ (by decide) rfl)⟩
 rintro an ⟨⟩ qz qE pG dX ⟨bu,cY,fC,iT,iU,iV,iW,fD,fE,cH,de⟩ gF bJ
 try dsimp only at gF
 have fh:Hid ((↑an:Int) < (↑ag.length:Int)):=zH (wBG dX)
 replace dX:=zH dX
 have gm:Hid (w64 ((↑an:Int) + 1)=(↑(an + 1):Int)):=zH (by have h1:=d5.out;have h2:=fh.out;rw [wAX] <;> omega)
 refine sR fL1 Z (oR Z (zV Z cY fE) (eN (zJ (cT Z fh (kN (zJ (zS (sR fL5 Z (oM Z cY (bnK gF fun eA fZ mJ=>?_))))))))))
 have jC:=gE.le eh
 have jD:=jC.le en
 have jE:=jD.le er
 have jG:=jE.le cH
 have q:=jG.el (fun _=>rfl) (wAj fZ)
 obtain ⟨pN,qh,j4,j8⟩:=q
 refine oR Z (ZV Z fD j4 cY zD zC (wCZ fZ)) (oL Z (de.ldC (f:=0) j8 (v:=jV eA) Z Z zG Z) (oA Z Z (oA Z Z (eN (sR (wDo (.fx 4 (.fx 5 .nil .stop) .stop)) Z (oM Z fC (oM Z Z (bnK mJ fun _ dR mK=>?_))))))))
 have q:=de.rowSome (j:=4) rfl (by rw [wAC (f:=wAP) (sz:=2) (fun _=>rfl) ap];have hz:=wAT dR;omega)
 obtain ⟨pO,f5⟩:=q
 refine oR Z (ZV Z Z f5 Z ZY Za (wAT dR)) ?_
 have ms:=wBb (xs:=ap) (wAT dR)
 let cm:List Value:=[jV ((gd ap an).Lo),jV ((gd ap an).Hi)]
 refine ZC rfl rfl rfl rfl (de.ldRA (j:=4) rfl f5 rfl rfl Tryz.isAgg55 Za (vs:=cm) (wET (sz:=2) (fun _=>rfl) _ _ _ ms (by first | omega | rfl | simp) rfl) rfl) rfl (zg (cs:=[jV 0,jV 0]) rfl rfl rfl rfl rfl yR rfl de ?_)
 intro pH cU lU
 refine zh (j:=0) (vs:=cm) Z Z Z Z lU Z Z Z Z Za (zA Z) Z Z Z ?_
 intro dw lV
 have lW:sW w U bu [.blk cU 55 cm,.blk av 51 bb,aj,.blk ae 28 B6,B0,am,bS] dw:=lV
 refine eN (zJ (zJ (yu fun bj be=>?_)))
 have iX:bj 10=.slice bz ap.length bD:=(be 10).trans fC
 have iY:bj 12=.slice bA bM.length bE:=(be 12).trans iT
 have dG:bj 16=.slice au ag.length az:=(be 16).trans iU
 have fG:bj 18=.pointer (some ⟨av,0,none⟩):=(be 18).trans iV
 have fH:bj 19=.slice bQ bq.length bV:=(be 19).trans iW
 have fJ:bj 20=jV (↑an:Int):=(be 20).trans rfl
 have dH:bj 21=jV eA:=(be 21).trans rfl
 have cB:bj 22=.pointer (some ⟨cU,0,none⟩):=(be 22).trans rfl
 have iZ:bj 127=.slice au ag.length az:=(be 127).trans fD
 have i4:bj 128=jV (↑ag.length:Int):=(be 128).trans fE
 have i5:bj 129=jV (↑an:Int):=(be 129).trans cY
 clear be
 refine ZO zz [3,1,3,3,3,1,3,3,3,3,3,3,3,1,3,3,3,3,3,1,3,3,3,3,3,3,1,3,1,3,1,3,3,1,3,3] fL36 (by kernel_rfl) ?_
 have ao:=lW.drew
 generalize hw_W415:({ dw with drawn:=dw.drawn + 1 }:World)=pI at ao ⊢
 refine oR Z (zF Z cB ZI Z zC) (oL Z (ao.ldB (j:=0) Z Z Z zG (v:=jV ((gd ap an).Lo)) Z) (oR Z (zV Z Z Z) (oM Z Z (ifc mK ?_ ?_))))
 intro aY mL
 refine oT Z aY (oT Z aY (oT Z aY (oT Z aY (oT Z aY (oR Z (zb Z (ZU aY.out) Z) (oM Z Z (oN Z (oN Z (oN Z (oN Z (oR Z (zb Z Z Z) (oM Z Z (oN Z (oN Z (oN Z (oN Z (oR Z (zb Z Z Z) (oM Z Z (oN Z (oN Z (oN Z (oN Z (oN Z (oN Z (oN Z (oN Z (oN Z (oN Z (oN Z (oN Z (oR Z (zb Z Z Z) (eN (zo Z (sR fL1 Z (oA Z Z (eN (zP (zR (za (zR ?_))))))))))))))))))))))))))))))))))))))))
 have q:=wAc mL
 obtain ⟨o9,mM,iC⟩:=q
 have q:=wBn bp bn (bJ o9 iC)
 obtain rfl:=q
 refine zR (za (zR ?_))
 have hE:=nB mM;first | subst r | cases hE
 exact ⟨rfl,_,(zm rfl),bu,_,(ao.pick [] _ (by decide) rfl),rfl,rfl⟩
 intro aY mN
 refine rU Z (wF Z aY) (zF Z cB ZI Z zC) (ZC Z Z Z (wF Z aY) (ao.ldB (j:=0) Z Z Z zG (v:=jV ((gd ap an).Hi)) Z) Z (zX Z Z Z (wF Z aY) Z dG (rU Z (wF Z aY) (zn Z Z zD) (rU Z (wF Z aY) (yG Z Z Z) (oR Z (zi Z (ZT aY.out) Z) (oM Z Z (ifc mN ?_ ?_)))))))
 intro bg mO
 refine oT Z bg (oT Z bg (oT Z bg (oT Z bg (oR Z (zb Z (ZU bg.out) Z) (oM Z Z (oN Z (oN Z (oN Z (oN Z (oR Z (zb Z Z Z) (oM Z Z (oN Z (oN Z (oN Z (oN Z (oN Z (oN Z (oN Z (oN Z (oN Z (oN Z (oN Z (oN Z (oR Z (zb Z Z Z) (eN (zo Z (sR fL1 Z (oA Z Z (eN (zP (zR (za (zR ?_)))))))))))))))))))))))))))))))))
 have q:=wAc mO
 obtain ⟨pd,mP,iD⟩:=q
 have q:=wBn bp bn (bJ pd iD)
 obtain rfl:=q
 refine zR (za (zR ?_))
 have hE:=nB mP;first | subst r | cases hE
 exact ⟨rfl,_,(zm rfl),bu,_,(ao.pick [] _ (by decide) rfl),rfl,rfl⟩
 intro bg mQ
 refine zX Z Z Z (wF Z bg) Z dH (rU Z (wF Z bg) (zF Z cB ZI Z zC) (ZC Z Z Z (wF Z bg) (ao.ldB (j:=0) Z Z Z zG (v:=jV ((gd ap an).Lo)) Z) Z (rU Z (wF Z bg) (zV Z Z Z) (oR Z (zi Z (ZT bg.out) Z) (oM Z Z (ifc mQ ?_ ?_))))))
 intro bh mR
 refine oT Z bh (oT Z bh (oT Z bh (oT Z bh (oR Z (zb Z (ZU bh.out) Z) (oM Z Z (oN Z (oN Z (oN Z (oN Z (oN Z (oN Z (oN Z (oN Z (oN Z (oN Z (oN Z (oN Z (oR Z (zb Z Z Z) (eN (zo Z (sR fL1 Z (oA Z Z (eN (zP (zR (za (zR ?_)))))))))))))))))))))))))))
 have q:=wAc mR
 obtain ⟨pe,mS,iE⟩:=q
 have q:=wBn bp bn (bJ pe iE)
 obtain rfl:=q
 refine zR (za (zR ?_))
 have hE:=nB mS;first | subst r | cases hE
 exact ⟨rfl,_,(zm rfl),bu,_,(ao.pick [] _ (by decide) rfl),rfl,rfl⟩
 intro bh mT
 refine zX Z Z Z (wF Z bh) Z dH (rU Z (wF Z bh) (zF Z cB ZI Z zC) (ZC Z Z Z (wF Z bh) (ao.ldB (j:=0) Z Z Z zG (v:=jV ((gd ap an).Hi)) Z) Z (rU Z (wF Z bh) (yG Z Z Z) (oR Z (zi Z (ZT bh.out) Z) (oM Z Z (ifc mT ?_ ?_))))))
 intro ah mU
 refine oT Z ah (oT Z ah (oT Z ah (oT Z ah (oT Z ah (oT Z ah (oT Z ah (oT Z ah (oT Z ah (oT Z ah (oT Z ah (oT Z ah (oR Z (zb Z (ZU ah.out) Z) (eN (zo Z (sR fL1 Z (oA Z Z (eN (zP (zR (za (zR ?_)))))))))))))))))))))
 have q:=wAc mU
 obtain ⟨pf,mV,iF⟩:=q
 have q:=wBn bp bn (bJ pf iF)
 obtain rfl:=q
 refine zR (za (zR ?_))
 have hE:=nB mV;first | subst r | cases hE
 exact ⟨rfl,_,(zm rfl),bu,_,(ao.pick [] _ (by decide) rfl),rfl,rfl⟩
 intro ah mW
 refine zX Z Z Z (wF Z ah) Z fH (zX Z Z Z (wF Z ah) Z fJ (bnK mW fun _ cE mX=>?_))
 have q:=ao.rowSome (j:=6) rfl (by rw [wAC (f:=KL.encI) (sz:=1) (fun _=>rfl) bq];have hz:=wAT cE;omega)
 obtain ⟨pP,da⟩:=q
 refine rU Z (wF Z ah) (ZV Z Z da Z zD zC (wAT cE)) ?_
 have mu:=wBb (xs:=bq) (wAT cE)
 refine ZC rfl rfl rfl (zQ rfl rfl (ZT ah.out)) (ao.ldR (j:=6) rfl da rfl rfl zG (wAa (sz:=1) (fun _=>rfl) _ _ 0 _ mu (by first | omega | rfl | simp) rfl)) rfl (zY rfl rfl rfl (zQ rfl rfl (ZT ah.out)) (fun _=>zF rfl fG ZJ rfl zk) (ZC rfl rfl rfl (zQ rfl rfl (ZT ah.out)) (ao.ldB (j:=1) rfl rfl rfl zr (v:=.slice (some ⟨cu,0,none⟩) 6 6) rfl) rfl (zY rfl rfl rfl (zQ rfl rfl (ZT ah.out)) (fun _=>zF rfl cB ZI rfl zC) (ZC rfl rfl rfl (zQ rfl rfl (ZT ah.out)) (ao.ldB (j:=0) rfl rfl rfl zG (v:=jV ((gd ap an).Lo)) rfl) rfl (zY rfl rfl rfl (zQ rfl rfl (ZT ah.out)) (fun _=>Zk rfl rfl rfl) (bnK mX fun pk dS mY=>?_))))))
 have jH:=fY.le er
 have jJ:=jH.le cH
 have q:=jJ.el (fun _=>rfl) (wAj dS)
 obtain ⟨pQ,qi,j5,j9⟩:=q
 refine rU Z (wF Z ah) (ZA Z Z j5 Z zD zC (wCO dS) (wCX dS)) (ZC Z Z Z (wF Z ah) (ao.ldC (f:=0) j9 (v:=jV pk) Z Z zG Z) Z (rU Z (wF Z ah) (yG Z Z Z) (oR Z (zi Z (ZT ah.out) Z) (eN (ifc mY ?_ ?_)))))
 intro dC mZ
 refine cT Z dC (sR fL1 Z (oA Z Z (eN (zP (zR (za (zR ?_)))))))
 have q:=wAc mZ
 obtain ⟨pg,m4,iG⟩:=q
 have q:=wBn bp bn (bJ pg iG)
 obtain rfl:=q
 refine zR (za (zR ?_))
 have hE:=nB m4;first | subst r | cases hE
 exact ⟨rfl,_,(zm rfl),bu,_,(ao.pick [] _ (by decide) rfl),rfl,rfl⟩
 intro dC m5
 refine cF Z dC (kN (sR fL1 Z (oA Z Z (eN (zJ (sR fL3 Z (oM Z dG (oR Z (zn Z Z zD) (oM Z Z (eN (zS (bnK m5 fun qC mn m6=>?_))))))))))))
 have q:=wBM mn
 obtain ⟨d7,mo⟩:=q
 replace d7:=zH d7
 refine CK.forN' (fun bX dy σ_ w_=>∃ (U_:PHeap),σ_ 176=jV (↑bX:Int)/\σ_ 10=.slice bz ap.length bD/\σ_ 12=.slice bA bM.length bE/\σ_ 16=.slice au ag.length az/\σ_ 18=.pointer (some ⟨av,0,none⟩)/\σ_ 19=.slice bQ bq.length bV/\σ_ 20=jV (↑an:Int)/\σ_ 21=jV eA/\σ_ 23=.bool dy/\σ_ 127=.slice au ag.length az/\σ_ 128=jV (↑ag.length:Int)/\σ_ 129=jV (↑an:Int)/\σ_ 175=jV (↑ag.length:Int)/\PHeap.Le bu U_/\sW w U U_ [.blk cU 55 cm,.blk av 51 bb,aj,.blk ae 28 B6,B0,am,bS] w_) mo ?_ ?_ ?_
 exact ⟨bu,Z,iX,iY,dG,fG,fH,fJ,dH,Z,iZ,i4,i5,Z,(zN _),ao⟩
 rintro bX dy qA qF im dY ⟨cO,cD,dI,cW,dJ,dK,dL,cC,dM,i6,dN,dO,dP,cX,dh,df⟩ gG
 have fk:Hid ((↑bX:Int) < (↑ag.length:Int)):=zH (wBG dY)
 replace dY:=zH dY
 have dW:Hid (w64 ((↑bX:Int) + 1)=(↑(bX + 1):Int)):=zH (by have h1:=d7.out;have h2:=fk.out;rw [wAX] <;> omega)
 refine sR fL1 Z (oR Z (zV Z cD cX) (eN (zJ (cT Z fk (kN (zJ (zS (sR fL2 Z (oM Z cD (oA Z Z (eN (rR (wSK (.fx 11 (wUV (.nil)) .stop)) Z (oM Z i6 (oM Z Z ?_))))))))))))))
 by_cases ak:dy=true
 have gz:=gG;rw [if_pos ak] at gz;replace ak:=zH ak
 refine zX Z Z Z (zQ Z Z (congrArg nG ak.out)) Z Z (zX Z Z Z (zQ Z Z (congrArg nG ak.out)) Z cC (zY Z Z Z (zQ Z Z (congrArg nG ak.out)) (fun _=>yO Z Z Z) (zX Z Z Z (zQ Z Z (congrArg nG ak.out)) Z Z (ifc gz ?_ ?_))))
 intro aq m7
 refine oT Z aq (oT Z aq (oT Z aq (oT Z aq (oT Z aq (Zr Z Z Z (ze Z Z (ZU aq.out) Z) (zY Z Z Z (zQ Z Z (congrArg nG ak.out)) (fun _=>zb Z (ZU aq.out) Z) (oR Z (zb Z (congrArg nG ak.out) Z) (oA Z Z (zd (zf (zI (rR fL2 Z (oR Z (zt (zU Z cD Z) (congrArg (jV) dW.out)) (oM Z Z (zd ?_)))))))))))))))
 cases m7
 exact zI ⟨Z,⟨cO,Z,dI,cW,dJ,dK,dL,cC,dM,Z,dN,dO,dP,cX,dh,df⟩⟩
 intro aq m8
 refine zX Z Z Z (wF Z aq) Z cW (zX Z Z Z (wF Z aq) Z Z (bnK m8 fun eB f4 m9=>?_))
 have jL:=oO.le o0
 have jM:=jL.le gI
 have jN:=jM.le gJ
 have jO:=jN.le o3
 have jP:=jO.le o5
 have jQ:=jP.le eh
 have jR:=jQ.le en
 have jS:=jR.le er
 have jU:=jS.le cH
 have jW:=jU.le dh
 have q:=jW.el (wAj f4)
 obtain ⟨iw,o8,qw,j6,dU,oG⟩:=q
 obtain ⟨ew,ez,rfl,jX⟩:=oG
 replace dU:Cl cO iw (o8 + bX * 1) [.slice ew eB.length ez]:=dU
 refine rU Z (wF Z aq) (ZV Z Z j6 Z ZK zk (wCZ f4)) (ZC Z Z Z (wF Z aq) (df.ldC (f:=0) dU (v:=.slice ew eB.length ez) Z Z zr Z) Z (zX Z Z Z (wF Z aq) Z cC (bnK m9 fun qx jY n5=>zL 0 Z Z Z (wF Z aq) (zK Z Z Tryz.call11 (zB Z (zB Z zM)) Z) df (fun hs=>wDg eB ew ez (↑an:Int) im cO hs jX jY) (.inr Z) ?_)))
 rintro eW pB qr io o6 l3 ⟨rfl,rfl⟩
 have l4:sW w U eW [.blk cU 55 cm,.blk av 51 bb,aj,.blk ae 28 B6,B0,am,bS] io:=l3
 refine zY Z Z Z (zQ Z Z (congrArg nG ak.out)) (fun _=>zi Z (ZT aq.out) Z) (oR Z (zb Z (congrArg nG ak.out) Z) (oA Z Z (zd (zf (zI (rR fL2 Z (oR Z (zt (zU Z cD Z) (congrArg (jV) dW.out)) (oM Z Z (zd ?_)))))))))
 cases n5
 exact zI ⟨Z,⟨eW,Z,dI,cW,dJ,dK,dL,cC,dM,Z,dN,dO,dP,cX,(dh.trans o6),l4⟩⟩
 have gA:=gG;rw [if_neg ak] at gA;replace ak:=zH ak
 refine ZG Z Z Z (ze Z Z (congrArg nG (nK.2 ak.out)) Z) (ZG Z Z Z (ze Z Z (congrArg nG (nK.2 ak.out)) Z) (ZG Z Z Z (ze Z Z (congrArg nG (nK.2 ak.out)) Z) (ZG Z Z Z (ze Z Z (congrArg nG (nK.2 ak.out)) Z) (ZG Z Z Z (wEA Z Z Z) (ZG Z Z Z (wEA Z Z Z) (ZG Z Z Z (wEA Z Z Z) (ZG Z Z Z (wEA Z Z Z) (ZG Z Z Z (wEA Z Z Z) (Zr Z Z Z (wEA Z Z Z) (ZG Z Z Z (ze Z Z (congrArg nG (nK.2 ak.out)) Z) (oR Z (zi Z (congrArg nG (nK.2 ak.out)) Z) (oA Z Z (zd (zf (zI (rR fL2 Z (oR Z (zt (zU Z cD Z) (congrArg (jV) dW.out)) (oM Z Z (zd ?_)))))))))))))))))))
 cases gA
 exact zI ⟨Z,⟨cO,Z,dI,cW,dJ,dK,dL,cC,dM,Z,dN,dO,dP,cX,dh,df⟩⟩
 rintro qG pK ⟨cP,je,fK,fL,fM,fN,dQ,i7,i8,i9,fO,fP,fQ,ja,gK,cG⟩
 have iA:Hid (¬ ((↑(((↑ag.length:Int):Int) - 0).toNat:Int) < (↑ag.length:Int))):=zH (wAq)
 refine sR fL1 Z (oR Z (zV Z je ja) (eN (zJ (cF Z iA (ZH (zZ (zZ (zx (zI (sR fL12 Z (oM Z i9 (oM Z Z (ifc m6 ?_ ?_)))))))))))))
 intro aZ n7
 refine zX Z Z Z (zQ Z Z (congrArg nG aZ.out)) Z i8 (zY Z Z Z (zQ Z Z (congrArg nG aZ.out)) (fun _=>Zz Z Z Z) (zX Z Z Z (zQ Z Z (congrArg nG aZ.out)) Z Z (ifc n7 ?_ ?_)))
 intro ba n8
 refine zX Z Z Z (zQ Z Z (ZT (fun h=>h ba.out))) Z dQ (zX Z Z Z (zQ Z Z (ZT (fun h=>h ba.out))) Z i7 (zY Z Z Z (zQ Z Z (ZT (fun h=>h ba.out))) (fun _=>ZV Z Z da Z zD zC (wAT cE)) ?_))
 have mw:=wBb (xs:=bq) (wAT cE)
 refine ZC rfl rfl rfl (zQ rfl rfl (ZT (fun h=>h ba.out))) (cG.ldR (j:=6) rfl da rfl rfl zG (wAa (sz:=1) (fun _=>rfl) _ _ 0 _ mw (by first | omega | rfl | simp) rfl)) rfl (zY rfl rfl rfl (zQ rfl rfl (ZT (fun h=>h ba.out))) (fun _=>Zz rfl rfl rfl) (zY rfl rfl rfl (zQ rfl rfl (congrArg nG aZ.out)) (fun _=>zi rfl (ZT (fun h=>h ba.out)) rfl) (zY rfl rfl rfl rfl (fun _=>zb rfl (congrArg nG aZ.out) rfl) (eN (ifc n8 ?_ ?_)))))
 intro dD n9
 refine zu (ZT (fun h=>h dD.out)) (Ze (zf (zI (rR fL2 Z (oR Z (zt (zU Z fQ Z) (congrArg (jV) gm.out)) (oM Z Z (zd ?_)))))))
 have q:=nB n9
 obtain rfl:=q
 exact zI ⟨rfl,_,rfl,⟨cP,rfl,fK,fL,fM,fN,dQ,fO,fP,(cH.trans gK),(cG.pick [1,2,3,4,5,6] _ (by decide) rfl)⟩⟩
 intro dD oa
 refine cT Z dD (sR fL1 Z (oA Z Z (eN (zP (za (zR ?_))))))
 have q:=wAc oa
 obtain ⟨ph,oc,iH⟩:=q
 have q:=wBn bp bn (bJ ph iH)
 obtain rfl:=q
 refine zR (za (zR ?_))
 have hE:=nB oc;first | subst r | cases hE
 exact ⟨rfl,_,(zm rfl),cP,_,(cG.pick [] _ (by decide) rfl),rfl,rfl⟩
 intro ba od
 refine oT Z ba (oT Z ba (oT Z ba (oT Z ba (oT Z ba (zY Z Z Z (zQ Z Z (congrArg nG aZ.out)) (fun _=>zb Z (ZU ba.out) Z) (oR Z (zb Z (congrArg nG aZ.out) Z) (eN (zo Z (sR fL1 Z (oA Z Z (eN (zP (za (zR ?_))))))))))))))
 have q:=wAc od
 obtain ⟨pj,oe,iI⟩:=q
 have q:=wBn bp bn (bJ pj iI)
 obtain rfl:=q
 refine zR (za (zR ?_))
 have hE:=nB oe;first | subst r | cases hE
 exact ⟨rfl,_,(zm rfl),cP,_,(cG.pick [] _ (by decide) rfl),rfl,rfl⟩
 intro aZ og
 refine ZG Z Z Z (ze Z Z (congrArg nG (nK.2 aZ.out)) Z) (ZG Z Z Z (ze Z Z (congrArg nG (nK.2 aZ.out)) Z) (ZG Z Z Z (ze Z Z (congrArg nG (nK.2 aZ.out)) Z) (ZG Z Z Z (wEA Z Z Z) (ZG Z Z Z (wEA Z Z Z) (ZG Z Z Z (wEA Z Z Z) (ZG Z Z Z (wEA Z Z Z) (ZG Z Z Z (wEA Z Z Z) (ZG Z Z Z (ze Z Z (congrArg nG (nK.2 aZ.out)) Z) (oR Z (zi Z (congrArg nG (nK.2 aZ.out)) Z) (eN (zu Z (Ze (zf (zI (rR fL2 Z (oR Z (zt (zU Z fQ Z) (congrArg (jV) gm.out)) (oM Z Z (zd ?_))))))))))))))))))
 have q:=nB og
 obtain rfl:=q
 exact zI ⟨rfl,_,rfl,⟨cP,rfl,fK,fL,fM,fN,dQ,fO,fP,(cH.trans gK),(cG.pick [1,2,3,4,5,6] _ (by decide) rfl)⟩⟩
 rintro ⟨⟩ qH iq ⟨g9,jf,pS,pT,pU,pV,pY,pZ,jb,qc,l6⟩ mi
 have gB:=wDe bp bn mi
 try dsimp only at gB
 have iB:Hid (¬ ((↑(((↑ag.length:Int):Int) - 0).toNat:Int) < (↑ag.length:Int))):=zH (wAq)
 refine sR fL1 Z (oR Z (zV Z jf jb) (eN (zJ (cF Z iB (ZH (zZ (zZ (zx (zI (sR gCr Z (bnK gB fun qy jZ oh=>zL 0 Z Z Z Z (zK Z Z Tryz.call12 zM Z) l6 (fun hs=>wGU iq g9 hs jZ) (.inr Z) ?_)))))))))))
 rintro eX pC qt ir qd ma ⟨rfl,rfl⟩
 have mb:sW w U eX [.blk av 51 bb,aj,.blk ae 28 B6,B0,am,bS] ir:=ma
 refine oA Z Z (eN (zP ?_))
 have hE:=nB oh;first | subst r | cases hE
 exact ⟨rfl,_,(zm rfl),eX,_,(mb.pick [] _ (by decide) rfl),rfl,rfl⟩
 intro dB oi
 refine cT Z dB (sR fL1 Z (oA Z Z (eN (zP (zR ?_)))))
 have hE:=nB oi;first | subst r | cases hE
 exact ⟨rfl,_,(zm rfl),cq,_,(dV.pick [] _ (by decide) rfl),rfl,rfl⟩
 intro aX oj
 refine oT Z aX (oT Z aX (oT Z aX (oT Z aX (oT Z aX (oR Z (zb Z (ZU aX.out) Z) (eN (zo Z (sR fL1 Z (oA Z Z (eN (zP (zR ?_))))))))))))
 have hE:=nB oj;first | subst r | cases hE
 exact ⟨rfl,_,(zm rfl),cq,_,(dV.pick [] _ (by decide) rfl),rfl,rfl⟩
 intro dA ol
 refine cT Z dA (sR fL1 Z (oA Z Z (eN (zP (zR ?_)))))
 have hE:=nB ol;first | subst r | cases hE
 exact ⟨rfl,_,(zm rfl),bs,_,(bI.pick [] _ (by decide) rfl),rfl,rfl⟩
 intro aW om
 refine oT Z aW (oT Z aW (oT Z aW (oT Z aW (oT Z aW (oR Z (zb Z (ZU aW.out) Z) (eN (zo Z (sR fL1 Z (oA Z Z (eN (zP (zR ?_))))))))))))
 have hE:=nB om;first | subst r | cases hE
 exact ⟨rfl,_,(zm rfl),bs,_,(bI.pick [] _ (by decide) rfl),rfl,rfl⟩
 intro aV oq
 refine ZG Z Z Z (ze Z Z (nF (aV.out)) Z) (ZG Z Z Z (ze Z Z (nF (aV.out)) Z) (ZG Z Z Z (ze Z Z (nF (aV.out)) Z) (ZG Z Z Z (ze Z Z (nF (aV.out)) Z) (ZG Z Z Z (ze Z Z (nF (aV.out)) Z) (oR Z (zb Z (nF (aV.out)) Z) (oM Z Z (oN Z (oN Z (oN Z (oN Z (oN Z (oR Z (zb Z Z Z) (eN (zo Z (sR fL1 Z (oA Z Z (eN (zP (zR ?_)))))))))))))))))))
 have hE:=nB oq;first | subst r | cases hE
 exact ⟨rfl,_,(zm rfl),bs,_,(bI.pick [] _ (by decide) rfl),rfl,rfl⟩
 intro bH ot
 refine oT Z bH (oT Z bH (oR Z (zb Z (ZU bH.out) Z) (oM Z Z (oN Z (oN Z (oN Z (oN Z (oN Z (oR Z (zb Z Z Z) (oM Z Z (oN Z (oN Z (oN Z (oN Z (oN Z (oR Z (zb Z Z Z) (eN (zo Z (sR fL1 Z (oA Z Z (eN (zP (zR ?_)))))))))))))))))))))))
 have hE:=nB ot;first | subst r | cases hE
 exact ⟨rfl,_,(zm rfl),bs,_,(bI.pick [] _ (by decide) rfl),rfl,rfl⟩
 intro bG ou
 refine oT Z bG (oT Z bG (oR Z (zb Z (ZU bG.out) Z) (oM Z Z (oN Z (oN Z (oR Z (zb Z Z Z) (oM Z Z (oN Z (oN Z (oN Z (oN Z (oN Z (oR Z (zb Z Z Z) (oM Z Z (oN Z (oN Z (oN Z (oN Z (oN Z (oR Z (zb Z Z Z) (eN (zo Z (sR fL1 Z (oA Z Z (eN (zP (zR ?_)))))))))))))))))))))))))))
 have hE:=nB ou;first | subst r | cases hE
 exact ⟨rfl,_,(zm rfl),bs,_,(bI.pick [] _ (by decide) rfl),rfl,rfl⟩
 intro bF ow
 refine oT Z bF (oT Z bF (oR Z (zb Z (ZU bF.out) Z) (oM Z Z (oN Z (oN Z (oR Z (zb Z Z Z) (oM Z Z (oN Z (oN Z (oR Z (zb Z Z Z) (oM Z Z (oN Z (oN Z (oN Z (oN Z (oN Z (oR Z (zb Z Z Z) (oM Z Z (oN Z (oN Z (oN Z (oN Z (oN Z (oR Z (zb Z Z Z) (eN (zo Z (sR fL1 Z (oA Z Z (eN (zP (zR ?_)))))))))))))))))))))))))))))))
 have hE:=nB ow;first | subst r | cases hE
 exact ⟨rfl,_,(zm rfl),bs,_,(bI.pick [] _ (by decide) rfl),rfl,rfl⟩
end Go.Proofs.YtadbejldcmkokaaGreat
