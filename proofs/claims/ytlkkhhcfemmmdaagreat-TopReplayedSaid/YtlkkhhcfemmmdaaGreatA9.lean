import Derived.Test.YtlkkhhcfemmmdaaGreatA7
import Derived.Test.YtlkkhhcfemmmdaaGreatA6
import Derived.Test.YtlkkhhcfemmmdaaGreatA8
set_option linter.all false
open List renaming flatMap->nA,getElem_cons_succ->nD,getElem_cons_zero->nE,getElem_toArray->nG,length_set->nH,length_append->nI,set->nJ,forall_mem_cons->nL,all_append->nO,take_of_length_le->nP
open Option.some renaming inj->nB
open Int renaming toNat_natCast->nK
open Eq renaming trans->nM
open Go.Value renaming bool->nN
open Bool renaming eq_false_iff->nQ
open Option renaming map->nR
namespace Go.Proofs.YtlkkhhcfemmmdaaGreat
open Go.KL
def gBz:Sch:=.fx 0 (.fl 1 .nil) .stop
def gCa:Sch:=.fx 0 (.fx 1 .nil .stop) .stop
def gCb:Sch:=.fx 4 (.fl 5 .nil) .stop
def gCc:Sch:=.fl 0 (.fx 1 .nil .stop)
def gCd:Sch:=.fx 3 (.fl 4 .nil) .stop
def gCe:Sch:=.fx 4 (.fx 5 .nil .stop) .stop
def gCf:Sch:=.fl 0 (.fl 1 (.fx 2 .nil .stop))
def gCg:Sch:=.fx 0 (.fx 1 (.fl 2 .nil) .stop) .stop
def gCh:Sch:=.fx 0 (.fl 1 (.fl 2 .nil)) .stop
def gCi:Sch:=.fx 5 (.fx 6 (.fl 7 .nil) .stop) .stop
def gCj:Sch:=.fx 3 (.fl 4 (.fl 5 .nil)) .stop
def gCk:Sch:=.fx 3 (.fl 4 (.fx 5 .nil .stop)) .stop
def gCl:Sch:=.fx 9 (.fx 10 (.fl 11 .nil) .stop) .stop
def gCm:Sch:=.fl 0 (.fl 1 (.fx 2 (.fx 3 (.fx 4 .nil .stop) .stop) .stop))
set_option maxHeartbeats 4000000
theorem wFE (p0:wAQ) (au:Option Addr) (aw:Nat) (av:Option Addr) (az:Nat) (p1:Int) (w:World) (U:PHeap) (hS:St0 w U []) (bJ:Sl U 1 au aw p0.Cup.Points.length (nA KL.encI p0.Cup.Points)) (bK:SlR U wEH av az p0.Cup.Done) {r:Int} (hm:wBi p0 p1=some r):Gv Tryz.prog 30 [.agg #[jV p0.Cup.Skiers,jV p0.Cup.Races,jV p0.Cup.Best,.slice au p0.Cup.Points.length aw,.slice av p0.Cup.Done.length az],jV p1] w (wBW w [] U (fun U_ L_ v=>v=jV r/\L_=[])):=by
 unfold wBi at hm
 refine Go.KX.Gv.ofM Tryz.func30 Z Tryz.ntmps30 Tryz.results30 (zB Z) (sR gBz Z ?_)
 let B0:List Value:=[jV p0.Cup.Skiers,jV p0.Cup.Races,jV p0.Cup.Best,.slice au p0.Cup.Points.length aw,.slice av p0.Cup.Done.length az]
 refine ZA (cs:=B0) rfl rfl rfl rfl rfl rfl (by rfl) hS ?_
 intro W1 b2 bH
 refine oA Z Z (eN (sR gCm Z (oL Z (bH.ldBA (j:=0) Z Z Z Zo ZP (vs:=B0) Z Z) (oM Z Z (bnK hm fun x5 h6 dA=>zG 0 Z Z Z Z (zF Z Z Tryz.call29 (zA Z (zA Z zK)) Z) bH (fun hs=>wEP p0 au aw av az p1 W1 U hs bJ bK h6) (.inr Z) ?_)))))
 rintro U8 L9 dQ bZ bS cL ⟨rfl,rfl⟩
 have cN:sW w U U8 [.blk b2 87 B0] bZ:=cL
 refine zq (cs:=([jV 0]:List Go.Value) ++ (nA KL.encI (Arr.fill 61 0).l)) Z Z Z Z Z Tryz.zeroValue94 Z cN ?_
 intro cg ah cW
 have db:sW w U U8 [.blk ah 94 (([jV 0]:List Go.Value) ++ (nA KL.encI (Arr.fill 61 0).l)),.blk b2 87 B0] cg:=cW
 have bq:=(show (([jV x5.total]:List Go.Value) ++ (nA KL.encI x5.places.l):List Go.Value).length=62 by rw [nI,wBu (f:=KL.encI) (sz:=1) (N:=61) x5.places (fun _=>rfl) rfl];rfl)
 have bP:=(show (([jV 0]:List Go.Value) ++ (nA KL.encI (Arr.fill 61 0).l):List Go.Value).length=62 by rw [nI,wBu (f:=KL.encI) (sz:=1) (N:=61) (Arr.fill 61 0) (fun _=>rfl) rfl];rfl)
 refine zo (j:=0) (vs:=([jV x5.total]:List Go.Value) ++ (nA KL.encI x5.places.l)) rfl rfl rfl rfl db rfl rfl rfl rfl (fun w=>by rw [bq];exact yN w) (by rw [bq,bP];exact zB rfl) (by rw [nO,wFK (fun _=>rfl)];rfl) (wIF _ _ (bq.trans bP.symm)) rfl ?_
 intro cq dg
 have dh:sW w U U8 [.blk ah 94 (([jV x5.total]:List Go.Value) ++ (nA KL.encI x5.places.l)),.blk b2 87 B0] cq:=dg
 refine eN (sR gCa Z (zq (cs:=[jV 0]) Z Z Z Z Z Zx Z dh ?_))
 intro dI ak dm
 refine zo (j:=0) (vs:=[jV 1]) Z Z Z Z dm Z Z Z Z zC (zB Z) Z Z Z ?_
 intro bz dp
 have bI:sW w U U8 [.blk ak 3 [jV 1],.blk ah 94 (([jV x5.total]:List Go.Value) ++ (nA KL.encI x5.places.l)),.blk b2 87 B0] bz:=dp
 refine eN (zH (sR gCf Z (oL Z (bI.ldBA (j:=2) Z Z Z Zo ZP (vs:=B0) Z Z) (oM Z Z ?_))))
 have bE:=bJ.le bS
 have bF:=bK.le bS
 have q:=bnd dA
 obtain ⟨⟨⟩,cC,bR⟩:=q
 try dsimp only at bR
 refine zG 0 Z Z Z Z (zF Z Z Tryz.call71 (zA Z (zA Z zK)) Z) bI (fun hs=>wHi p0 au aw av az p1 bz U8 hs bE bF cC) (.inr Z) ?_
 rintro bu dG dS cr bT dr ⟨bA,bB,rfl,rfl,cD,cE⟩
 have dt:sW w U bu [.blk ak 3 [jV 1],.blk ah 94 (([jV x5.total]:List Go.Value) ++ (nA KL.encI x5.places.l)),.blk b2 87 B0] cr:=dr
 refine eN (zV (CK.fresh fun bg bb=>?_))
 have cx:bg 5=.pointer (some ⟨ah,0,none⟩):=(bb 5).trans rfl
 have bD:bg 6=.pointer (some ⟨ak,0,none⟩):=(bb 6).trans rfl
 have cy:bg 15=.func (.func 104) #[] #[.pointer (some ⟨bA,0,none⟩),.pointer (some ⟨bB,0,none⟩)]:=(bb 15).trans rfl
 clear bb
 refine bnK bR fun bV dw bQ=>?_
 have cz:=bE.le bT
 have cA:=bF.le bT
 refine CK.rangeY (S:=Int) (E:=Empty) (ar:=wUv) (PY:=(fun (x115:Int) (U_:PHeap) (L_:List Res)=>L_=[.blk ak 3 [jV x115],.blk ah 94 (([jV x5.total]:List Go.Value) ++ (nA KL.encI x5.places.l)),.blk b2 87 B0])) (PE:=(fun (_:Empty) _ _=>False)) (exO:=Empty.elim) (s0:=1) (rr:=bV) cy Tryz.call104 dt (by decide) (fun _ _ _ h=>by obtain rfl:=h;rfl) (fun e=>nomatch e) rfl (fun l w1 L1 PY' PE' cK cH du=>wGu PY' PE' _ l _ p0 bA au aw av az p1 bB w1 L1 bu cK cH du cD cz cA cE dw) ?_ ?_
 rintro an dP dK x115 ae dT dO aZ dD dC be ap dL cM cJ dv bL ba am
 obtain rfl:=cJ
 obtain rfl:=dv
 replace am:∀ t,ba t=upd (upd bg 16 (jV ae.1)) 17 (.agg (([jV ae.2.total]:List Go.Value) ++ (nA KL.encI ae.2.places.l)).toArray) t:=am
 have dJ:ba 16=jV ae.1:=(am 16).trans ((wEU _ _ (by decide)).trans (wEI _ _ _))
 have cu:ba 17=.agg (([jV ae.2.total]:List Go.Value) ++ (nA KL.encI ae.2.places.l)).toArray:=(am 17).trans (wEI _ _ _)
 have cw:ba 5=.pointer (some ⟨ah,0,none⟩):=(am 5).trans ((wEU _ _ (by decide)).trans ((wEU _ _ (by decide)).trans cx))
 have bC:ba 6=.pointer (some ⟨ak,0,none⟩):=(am 6).trans ((wEU _ _ (by decide)).trans ((wEU _ _ (by decide)).trans bD))
 clear am
 let B1:Res:=.blk ak 3 [jV x115]
 have cP:St ap aZ [.obj an be,B1,.blk ah 94 (([jV x5.total]:List Go.Value) ++ (nA KL.encI x5.places.l)),.blk b2 87 B0] dC:=cM
 try dsimp only at bL
 refine rR gCa Z (zq (cs:=([jV 0]:List Go.Value) ++ (nA KL.encI (Arr.fill 61 0).l)) Z Z Z Z Z Tryz.zeroValue94 Z cP ?_)
 intro cd aq cQ
 have cR:St ap aZ [.blk aq 94 (([jV 0]:List Go.Value) ++ (nA KL.encI (Arr.fill 61 0).l)),.obj an be,B1,.blk ah 94 (([jV x5.total]:List Go.Value) ++ (nA KL.encI x5.places.l)),.blk b2 87 B0] cd:=cQ
 have bp:=(show (([jV ae.2.total]:List Go.Value) ++ (nA KL.encI ae.2.places.l):List Go.Value).length=62 by rw [nI,wBu (f:=KL.encI) (sz:=1) (N:=61) ae.2.places (fun _=>rfl) rfl];rfl)
 have bM:=(show (([jV 0]:List Go.Value) ++ (nA KL.encI (Arr.fill 61 0).l):List Go.Value).length=62 by rw [nI,wBu (f:=KL.encI) (sz:=1) (N:=61) (Arr.fill 61 0) (fun _=>rfl) rfl];rfl)
 refine zo (j:=0) (vs:=([jV ae.2.total]:List Go.Value) ++ (nA KL.encI ae.2.places.l)) rfl rfl rfl rfl cR rfl rfl cu rfl (fun w=>by rw [bp];exact yN w) (by rw [bp,bM];exact zB rfl) (by rw [nO,wFK (fun _=>rfl)];rfl) (wIF _ _ (bp.trans bM.symm)) rfl ?_
 intro ci cS
 have cU:St ap aZ [.blk aq 94 (([jV ae.2.total]:List Go.Value) ++ (nA KL.encI ae.2.places.l)),.obj an be,B1,.blk ah 94 (([jV x5.total]:List Go.Value) ++ (nA KL.encI x5.places.l)),.blk b2 87 B0] ci:=cS
 refine zk ⟨rfl,rfl,_,_,(cU.pick [1,0,2,3,4] [.obj an be,.blk aq 94 (([jV ae.2.total]:List Go.Value) ++ (nA KL.encI ae.2.places.l)),B1,.blk ah 94 (([jV x5.total]:List Go.Value) ++ (nA KL.encI x5.places.l)),.blk b2 87 B0] (by decide) rfl),fun bw br cV=>?_⟩
 have bk:St ap aZ [.obj an br,.blk aq 94 (([jV ae.2.total]:List Go.Value) ++ (nA KL.encI ae.2.places.l)),B1,.blk ah 94 (([jV x5.total]:List Go.Value) ++ (nA KL.encI x5.places.l)),.blk b2 87 B0] bw:=cV
 refine zV (sR fL3 Z ?_)
 have bN:(([jV ae.2.total]:List Go.Value) ++ (nA KL.encI ae.2.places.l):List Go.Value).length=62:=by rw [nI,wBu (f:=KL.encI) (sz:=1) (N:=61) ae.2.places (fun _=>rfl) rfl];rfl
 refine oL Z (bk.ldBA (j:=1) Z Z Z Tryz.isAgg94 yN (vs:=([jV ae.2.total]:List Go.Value) ++ (nA KL.encI ae.2.places.l)) (nP (Nat.le_of_eq bN)) bN) (oR Z (yD Z (zA Z zK) zK) (oA Z Z (eN (sR gCf Z (oM Z Z ?_)))))
 have bO:(([jV x5.total]:List Go.Value) ++ (nA KL.encI x5.places.l):List Go.Value).length=62:=by rw [nI,wBu (f:=KL.encI) (sz:=1) (N:=61) x5.places (fun _=>rfl) rfl];rfl
 refine oL Z (bk.ldBA (j:=3) Z Z cw Tryz.isAgg94 yN (vs:=([jV x5.total]:List Go.Value) ++ (nA KL.encI x5.places.l)) (nP (Nat.le_of_eq bO)) bO) (bnK bL fun dU cB dx=>zG 0 Z Z Z Z (zF Z Z Tryz.call72 (zA Z zK) Z) bk (fun hs=>wHj ae.2 x5 bw aZ hs cB) (.inr Z) ?_)
 rintro bs dE dR cj dM cX ⟨rfl,rfl⟩
 have bm:St ap bs [.obj an br,.blk aq 94 (([jV ae.2.total]:List Go.Value) ++ (nA KL.encI ae.2.places.l)),B1,.blk ah 94 (([jV x5.total]:List Go.Value) ++ (nA KL.encI x5.places.l)),.blk b2 87 B0] cj:=cX
 refine eN (ifc dx ?_ ?_)
 intro bj dy
 refine zu (congrArg nN bj.out) (rR gCf Z (oL Z (bm.ldB (j:=2) Z Z bC zO (v:=jV x115) Z) (oR Z (zZ Z Z Z) (zo (j:=2) (vs:=[jV (w64 (x115 + 1))]) Z Z Z Z bm Z bC Z Z zC (zB Z) Z Z Z ?_))))
 intro cm cY
 have cZ:St ap bs [.obj an br,.blk aq 94 (([jV ae.2.total]:List Go.Value) ++ (nA KL.encI ae.2.places.l)),.blk ak 3 [jV (w64 (x115 + 1))],.blk ah 94 (([jV x5.total]:List Go.Value) ++ (nA KL.encI x5.places.l)),.blk b2 87 B0] cm:=cY
 refine zk (zh ?_)
 have q:=nB dy
 obtain rfl:=q
 exact ⟨_,_,(cZ.pick [0,2,3,4] _ (by decide) rfl),rfl,rfl⟩
 intro bj dz
 refine zn (congrArg nN (nQ.2 bj.out)) (Zd (zh ?_))
 have q:=nB dz
 obtain rfl:=q
 exact ⟨_,_,(bm.pick [0,2,3,4] _ (by decide) rfl),rfl,rfl⟩
 rintro bU bi dF cn dN da
 rcases bV with bW | ct
 try dsimp only at bQ
 rintro rfl
 let B2:Res:=.blk ak 3 [jV bW]
 have bG:sW w U bi [B2,.blk ah 94 (([jV x5.total]:List Go.Value) ++ (nA KL.encI x5.places.l)),.blk b2 87 B0,.obj bU (.deferred (some []))] cn:=da
 refine zh (zJ (sR fL2 rfl (zr rfl rfl rfl rfl (bG.ldB (j:=0) rfl rfl bD zO (v:=jV bW) rfl) rfl (Ze rfl rfl rfl rfl rfl rfl (eN (zM (wLd (by first | exact .inl rfl | exact .inr rfl) (rbs:=[bU]) (L:=[B2,.blk ah 94 (([jV x5.total]:List Go.Value) ++ (nA KL.encI x5.places.l)),.blk b2 87 B0]) bG fun cp de=>?_)))))))
 have df:sW w U bi [B2,.blk ah 94 (([jV x5.total]:List Go.Value) ++ (nA KL.encI x5.places.l)),.blk b2 87 B0] cp:=de
 have hE:=nB bQ;first | subst r | cases hE
 exact ⟨_,(zi rfl),bi,_,(df.pick [] _ (by decide) rfl),rfl,rfl⟩
 exact ct.elim
theorem wCH (p0:List wAN) (ah:Option Addr) (ai:Nat) (p1:Int) (p2:Int) (p3:((wAN × wAN)->Option Int)) (bh:Value) (w:World) (U:PHeap) (hS:St0 w U [.row ah ai 59 4 (nA wAJ p0)]) (cp:FnOK Tryz.prog U bh ar97 rr97 p3) {r:(List wAN)} (hm:wAr p0 p1 p2 p3=some r):Gv Tryz.prog 105 [.slice ah p0.length ai,jV p1,jV p2,bh] w (wBW w [.row ah ai 59 4 (nA wAJ p0)] U (fun U_ L_ v=>v=.tuple #[]/\L_=[.row ah ai 59 4 (nA wAJ r)]/\r.length=p0.length)):=by
 unfold wAr at hm
 refine Gv.of Tryz.func105 Z Tryz.ntmps105 Tryz.results105 Z (sR fL3 Z (oM Z Z (oR Z (zZ Z Z Z) (oA Z Z (eN (zV ?_))))))
 let B0:Res:=.row ah ai 59 4 (nA wAJ p0)
 refine yI (fun (l8,x9) σ_ w_=>∃ (U_:PHeap),σ_ 0=.slice ah l8.length ai/\σ_ 1=jV p1/\σ_ 2=jV p2/\σ_ 3=bh/\σ_ 8=jV x9/\PHeap.Le U U_/\SW w [B0] U U_ [.row ah ai 59 4 (nA wAJ l8)] w_/\l8.length=p0.length) hm ?_ ?_
 exact ⟨U,Z,Z,Z,Z,Z,(zU _),hS,Z⟩
 rintro ⟨l8,x9⟩ cV cX cP ⟨bm,bU,bV,bD,bW,br,bB,bF,bE⟩ bz cq
 try dsimp only at bz
 refine zH (sR fL3 Z (oM Z br (oM Z bD (oR Z (ze Z Z Z) (eN ?_)))))
 by_cases an:x9 < p2
 have bK:=bz;rw [if_pos an] at bK;replace an:=zI an
 refine cT Z an (kN (zH (zV (sR fL2 Z (oM Z br (oA Z Z (eN (zV (yI (fun (aa,ae) σ_ w_=>∃ (U_:PHeap),σ_ 0=.slice ah aa.length ai/\σ_ 1=jV p1/\σ_ 2=jV p2/\σ_ 3=bh/\σ_ 8=jV x9/\σ_ 9=jV ae/\PHeap.Le bm U_/\SW w [B0] U U_ [.row ah ai 59 4 (nA wAJ aa)] w_/\aa.length=p0.length) bK ?_ ?_)))))))))
 exact ⟨bm,bU,bV,bD,bW,br,Z,(zU _),bF,bE⟩
 rintro ⟨aa,ae⟩ cW cY bC ⟨bO,am,aZ,bs,ba,bu,ao,bg,cd,bw⟩ bA bH
 try dsimp only at bA
 refine zH (zH (ZT ZH [3,3,3,3,3,3,3,3,1,3,3,3,3,1,2,3,3] (wPk (.fx 14 (.fl 15 (.fl 16 .nil)) .stop)) (by kernel_rfl) ?_))
 have au:=cd.drew
 generalize hw_W54:({ bC with drawn:=bC.drawn + 1 }:World)=cQ at au ⊢
 refine oM Z ao (oM Z aZ (oR Z (Zz Z Z Z) (oM Z Z ?_)))
 by_cases ag:p1 < ae
 have bL:=bA;rw [if_pos ag] at bL;replace ag:=zI ag
 refine zQ Z Z Z (wT Z ag) Z ba (zQ Z Z Z (wT Z ag) Z am (zQ Z Z Z (wT Z ag) Z ao (bnK bL fun _ ak cB=>?_)))
 have q:=au.rowSome (j:=0) rfl (by rw [wAF (f:=wAJ) (sz:=4) (fun _=>rfl) aa];have hz:=wAR ak;omega)
 obtain ⟨cS,aj⟩:=q
 refine rU Z (wT Z ag) (ZQ Z Z aj Z Zl Zr (wBk ak) (wBl ak)) ?_
 have cr:=wBt (xs:=aa) (wAR ak)
 let B1:List Value:=[jV ((gd aa ae.toNat).Skier),jV ((gd aa ae.toNat).Rank),jV ((gd aa ae.toNat).Points),jV ((gd aa ae.toNat).Wins)]
 refine zr rfl rfl rfl (zS rfl rfl (ZU ag.out)) (au.ldRA (j:=0) rfl aj rfl rfl Tryz.isAgg59 Zr (vs:=B1) (wDR (sz:=4) (fun _=>rfl) _ _ _ cr (by first | omega | rfl | simp) rfl) rfl) rfl (zQ rfl rfl rfl (zS rfl rfl (ZU ag.out)) rfl am (zQ rfl rfl rfl (zS rfl rfl (ZU ag.out)) rfl ao (za rfl rfl rfl (zS rfl rfl (ZU ag.out)) (fun _=>Zj rfl rfl rfl) (bnK cB fun _ aq cC=>za rfl rfl rfl (zS rfl rfl (ZU ag.out)) (fun _=>ZQ rfl rfl aj rfl Zl Zr (wBk aq) (wBl aq)) ?_))))
 have ct:=wBt (xs:=aa) (wAR aq)
 let B2:List Value:=[jV ((gd aa (w64 (ae - 1)).toNat).Skier),jV ((gd aa (w64 (ae - 1)).toNat).Rank),jV ((gd aa (w64 (ae - 1)).toNat).Points),jV ((gd aa (w64 (ae - 1)).toNat).Wins)]
 refine zr rfl rfl rfl (zS rfl rfl (ZU ag.out)) (au.ldRA (j:=0) rfl aj rfl rfl Tryz.isAgg59 Zr (vs:=B2) (wDR (sz:=4) (fun _=>rfl) _ _ _ ct (by first | omega | rfl | simp) rfl) rfl) rfl (bnK cC fun x65 bX cD=>?_)
 have bY:=cp.le bB
 have bZ:=bY.le bg
 refine yF (a:=((gd aa ae.toNat),(gd aa (w64 (ae - 1)).toNat))) Z Z Z (wT Z ag) Z Z (zA Z (zA Z zK)) au bZ Z bX ?_
 rintro aw cN cU bp bM cg ⟨rfl,rfl⟩
 have bG:SW w [B0] U aw [.row ah ai 59 4 (nA wAJ aa)] bp:=cg
 refine rU Z (wT Z ag) (ze Z Z Z) (oR Z (zj Z (ZU ag.out) Z) (eN (ifc cD ?_ ?_)))
 intro bq cE
 refine cT Z bq (kN (zH (zV (ZT ZH [3,3,3,3,3,3,3,3,3,1,3,3,3,1,3,0,3,0] (wND (.fx 15 (.fl 16 (.fx 17 .nil .stop)) .stop)) (by kernel_rfl) ?_))))
 have bb:=bG.drew
 generalize hw_W80:({ bp with drawn:=bp.drawn + 1 }:World)=cR at bb ⊢
 refine oM Z am (oM Z ao (oM Z am (oM Z ao (oR Z (Zj Z Z Z) (oM Z am (oM Z ao (oR Z (Zj Z Z Z) (oR Z (ZQ Z Z aj Z Zl Zr (wBk aq) (wBl aq)) ?_))))))))
 have cu:=wBt (xs:=aa) (wAR aq)
 refine zr rfl rfl rfl rfl (bb.ldRA (j:=0) rfl aj rfl rfl Tryz.isAgg59 Zr (vs:=B2) (wDR (sz:=4) (fun _=>rfl) _ _ _ cu (by first | omega | rfl | simp) rfl) rfl) rfl (zQ rfl rfl rfl rfl rfl am (zQ rfl rfl rfl rfl rfl ao (za rfl rfl rfl rfl (fun _=>ZQ rfl rfl aj rfl Zl Zr (wBk ak) (wBl ak)) ?_)))
 have cw:=wBt (xs:=aa) (wAR ak)
 refine zr rfl rfl rfl rfl (bb.ldRA (j:=0) rfl aj rfl rfl Tryz.isAgg59 Zr (vs:=B1) (wDR (sz:=4) (fun _=>rfl) _ _ _ cw (by first | omega | rfl | simp) rfl) rfl) rfl (za rfl rfl rfl rfl (fun _=>ZQ rfl rfl aj rfl Zl Zr (wBk ak) (wBl ak)) ?_)
 have cx:=wBt (xs:=aa) (wAR ak)
 refine yX (j:=0) (vs:=B2) (cs':=nA wAJ (nJ aa ae.toNat (gd aa (w64 (ae - 1)).toNat))) rfl rfl rfl rfl bb rfl aj rfl rfl rfl Zr (by rw [wAF (f:=wAJ) (sz:=4) (fun _=>rfl)];have hz:=wAR ak;show _ + 4 <= _;first | omega | (simp only [nK];omega) | (simp only [nG,nD,nE];omega)) rfl (wEW (sz:=4) (fo:=0) (fun _=>rfl) _ _ _ _ cx (by first | omega | (simp only [nK];omega) | (simp only [nG,nD,nE];omega)) (zB rfl) rfl) rfl ?_
 intro bP ci
 have cj:SW w [B0] U aw [.row ah ai 59 4 (nA wAJ (nJ aa ae.toNat (gd aa (w64 (ae - 1)).toNat)))] bP:=ci
 refine bnK cE fun _ az cG=>za rfl rfl rfl rfl (fun _=>ZQ rfl (nM (b:=(.slice ah aa.length ai:Value)) (c:=(.slice ah ((nJ aa ae.toNat (gd aa (w64 (ae - 1)).toNat)).length) ai:Value)) rfl (by simp only [nH])) aj rfl Zl Zr (wBk az) (wBl az)) ?_
 have cy:=wBt (xs:=(nJ aa ae.toNat (gd aa (w64 (ae - 1)).toNat))) (by first | exact wAR az | (have hz:=wAR az;simpa only [nH] using hz))
 refine yX (j:=0) (vs:=B1) (cs':=nA wAJ (nJ (nJ aa ae.toNat (gd aa (w64 (ae - 1)).toNat)) (w64 (ae - 1)).toNat (gd aa ae.toNat))) rfl rfl rfl rfl cj rfl aj rfl rfl rfl Zr (by rw [wAF (f:=wAJ) (sz:=4) (fun _=>rfl)];have hz:=wAR az;show _ + 4 <= _;first | omega | (simp only [nH];omega) | (simp only [nG,nD,nE,nH];omega) | (simp only [nK];omega) | (simp only [nG,nD,nE];omega)) rfl (wEW (sz:=4) (fo:=0) (fun _=>rfl) _ _ _ _ cy (by first | omega | (simp only [nK];omega) | (simp only [nG,nD,nE];omega)) (zB rfl) rfl) rfl ?_
 intro bQ cm
 have cn:SW w [B0] U aw [.row ah ai 59 4 (nA wAJ (nJ (nJ aa ae.toNat (gd aa (w64 (ae - 1)).toNat)) (w64 (ae - 1)).toNat (gd aa ae.toNat)))] bQ:=cm
 refine zk (zh (zJ (rR fL3 Z (oM Z ao (oR Z (Zj Z Z Z) (oA Z Z (zk ?_)))))))
 have q:=nB cG
 obtain rfl:=q
 exact zJ ⟨rfl,_,rfl,⟨aw,(nM (b:=(.slice ah ((nJ aa ae.toNat (gd aa (w64 (ae - 1)).toNat)).length) ai:Value)) (c:=(.slice ah ((nJ (nJ aa ae.toNat (gd aa (w64 (ae - 1)).toNat)) (w64 (ae - 1)).toNat (gd aa ae.toNat)).length) ai:Value)) (nM (b:=(.slice ah aa.length ai:Value)) (c:=(.slice ah ((nJ aa ae.toNat (gd aa (w64 (ae - 1)).toNat)).length) ai:Value)) am (by simp only [nH])) (by simp only [nH])),aZ,bs,ba,bu,rfl,(bg.trans bM),cn,((nH.trans nH).trans bw)⟩⟩
 intro bq cH
 refine cF Z bq (ZD (zb ?_))
 have q:=wAS cH
 obtain ⟨cM,cJ,bT⟩:=q
 have q:=bH cM bT
 obtain rfl:=q
 refine zb (zz (zh (zJ (rR fL3 Z (oM Z bu (oR Z (zZ Z Z Z) (oA Z Z (zk ?_))))))))
 have q:=nB cJ
 obtain rfl:=q
 exact zJ ⟨Z,_,Z,⟨aw,am,aZ,bs,ba,Z,((bB.trans bg).trans bM),bG,bw⟩⟩
 have bI:=bA;rw [if_neg ag] at bI;replace ag:=zI ag
 refine oF Z ag (oF Z ag (oF Z ag (oF Z ag (oF Z ag (oF Z ag (oF Z ag (oF Z ag (oF Z ag (oF Z ag (ZO Z Z Z (zW Z Z (ZI ag.out) Z) (oF Z ag (oR Z (zR Z (ZI ag.out) Z) (eN (zn Z (ZD (zb ?_))))))))))))))))
 have q:=wAS bI
 obtain ⟨cK,cz,bR⟩:=q
 have q:=bH cK bR
 obtain rfl:=q
 refine zb (zz (zh (zJ (rR fL3 Z (oM Z bu (oR Z (zZ Z Z Z) (oA Z Z (zk ?_))))))))
 have q:=nB cz
 obtain rfl:=q
 exact zJ ⟨Z,_,Z,⟨bO,am,aZ,bs,ba,Z,(bB.trans bg),au,bw⟩⟩
 have bJ:=bz;rw [if_neg an] at bJ;replace an:=zI an
 refine cF Z an (ZD (zb ?_))
 have q:=wAS bJ
 obtain ⟨cL,cA,bS⟩:=q
 have q:=cq cL bS
 obtain rfl:=q
 refine zb (zz ?_)
 have hE:=nB cA;first | subst r | cases hE
 exact ⟨Z,_,(wNE),bm,_,bF,Z,Z,bE⟩
theorem wEc (p0:List wAN) (aa:Option Addr) (ae:Nat) (p1:Int) (p2:((wAN × wAN)->Option Int)) (ai:Value) (w:World) (U:PHeap) (hS:St0 w U [.row aa ae 59 4 (nA wAJ p0)]) (bM:FnOK Tryz.prog U ai ar97 rr97 p2) {r:(List wAN)} (hm:wBp p0 p1 p2=some r):Gv Tryz.prog 73 [.slice aa p0.length ae,jV p1,ai] w (wBW w [.row aa ae 59 4 (nA wAJ p0)] U (fun U_ L_ v=>v=.tuple #[]/\L_=[.row aa ae 59 4 (nA wAJ r)]/\r.length=p0.length)):=by
 unfold wBp at hm
 refine Gv.of Tryz.func73 Z Tryz.ntmps73 Tryz.results73 Z (sR fL1 Z (oA Z Z (eN (sR fL3 Z (oM Z Z (oA Z Z (oA Z Z (eN ?_))))))))
 have q:=bnd hm
 obtain ⟨⟨l2,x3⟩,cU,bT⟩:=q
 try dsimp only at bT
 let B0:Res:=.row aa ae 59 4 (nA wAJ p0)
 refine CK.cut (fun σ_ w_=>∃ (U_:PHeap),σ_ 0=.slice aa l2.length ae/\σ_ 1=jV p1/\σ_ 2=ai/\σ_ 6=jV 20/\σ_ 7=jV x3/\PHeap.Le U U_/\SW w [B0] U U_ [.row aa ae 59 4 (nA wAJ l2)] w_/\l2.length=p0.length) ?_ ?_
 refine zV (yI (fun (ao,x17,aX) σ_ w_=>∃ (U_:PHeap),σ_ 0=.slice aa ao.length ae/\σ_ 1=jV p1/\σ_ 2=ai/\σ_ 6=jV 20/\σ_ 7=jV x17/\σ_ 8=jV aX/\PHeap.Le U U_/\SW w [B0] U U_ [.row aa ae 59 4 (nA wAJ ao)] w_/\ao.length=p0.length) cU ?_ ?_)
 exact ⟨U,Z,Z,Z,Z,Z,Z,(zU _),hS,Z⟩
 rintro ⟨ao,x17,aX⟩ dz dD bY ⟨bp,ba,bb,be,bg,bC,aw,bm,bK,bH⟩ bj cL
 try dsimp only at bj
 refine zH (sR fL3 Z (oM Z aw (oM Z bb (oR Z (yP Z Z Z) (eN ?_)))))
 by_cases ak:aX <= p1
 have bR:=bj;rw [if_pos ak] at bR;replace ak:=zI ak
 refine cT Z ak (kN (zV (sR (wET (.fx 4 .nil .stop)) Z (oM Z ba (oM Z bC (oM Z aw (oM Z be ?_)))))))
 have cx:=bM.le bm
 refine bnK bR fun x39 cy cQ=>zG 1 Z Z Z Z (zF Z Z Tryz.call105 (zA Z (zA Z (zA Z (zA Z zK)))) Z) bK (fun hs=>wCH ao aa ae x17 aX p2 ai bY bp hs cx cy) (.inl Z) ?_
 rintro bq de dw bZ cX cD ⟨rfl,rfl,bI⟩
 have cE:SW w [B0] U bq [.row aa ae 59 4 (nA wAJ x39)] bZ:=cD
 refine eN (sR fL2 Z (oM Z aw (oA Z Z (eN (rR fL4 Z (oM Z aw (oM Z bg (oR Z (zZ Z Z Z) (oA Z Z (zk (zh ?_)))))))))))
 have q:=nB cQ
 obtain rfl:=q
 exact zJ ⟨rfl,_,rfl,⟨bq,(nM (b:=(.slice aa ao.length ae:Value)) (c:=(.slice aa x39.length ae:Value)) ba (by rw [bI])),bb,be,bg,rfl,rfl,(bm.trans cX),cE,(bI.trans bH)⟩⟩
 have bS:=bj;rw [if_neg ak] at bS;replace ak:=zI ak
 refine cF Z ak (ZD (zb ?_))
 have q:=wAS bS
 obtain ⟨db,cR,cm⟩:=q
 have q:=cL db cm
 obtain rfl:=q
 refine zb (zz ?_)
 cases cR
 exact zJ ⟨Z,⟨bp,ba,bb,be,bg,bC,bm,bK,bH⟩⟩
 rintro dE cd ⟨bX,bD,bE,bF,cr,ct,cY,cG,cz⟩
 refine sR (wET (.fx 4 .nil .stop)) Z (oM Z bD (oM Z ct (oM Z bE (oM Z bF ?_))))
 have cA:=bM.le cY
 refine bnK bT fun aq cB cS=>zG 1 Z Z Z Z (zF Z Z Tryz.call105 (zA Z (zA Z (zA Z (zA Z zK)))) Z) cG (fun hs=>wCH l2 aa ae x3 p1 p2 ai cd bX hs cA cB) (.inl Z) ?_
 rintro aY df dx cg du cH ⟨rfl,rfl,bJ⟩
 let B1:Res:=.row aa ae 59 4 (nA wAJ aq)
 have cJ:SW w [B0] U aY [B1] cg:=cH
 refine eN (zV (yI (fun _ σ_ w_=>∃ (U_:PHeap),σ_ 0=.slice aa aq.length ae/\σ_ 1=jV p1/\σ_ 2=ai/\σ_ 6=jV 20/\PHeap.Le aY U_/\SW w [B0] U U_ [B1] w_) cS ?_ ?_))
 exact ⟨aY,(nM (b:=(.slice aa l2.length ae:Value)) (c:=(.slice aa aq.length ae:Value)) bD (by rw [bJ])),bE,bF,cr,(zU _),cJ⟩
 rintro ⟨⟩ dA dF dp ⟨av,cu,bG,cw,bh,dv,bL⟩ bk cM
 try dsimp only at bk
 refine zH (sR fL3 Z (oM Z bh (oM Z bG (oR Z (ze Z Z Z) (eN ?_)))))
 by_cases ah:20 < p1
 have bU:=bk;rw [if_pos ah] at bU;replace ah:=zI ah
 refine cT Z ah (kN (zV (sR fL4 rfl (zQ rfl rfl rfl rfl rfl bh (za rfl rfl rfl rfl (fun _=>zw (yW rfl rfl rfl) (congrArg (jV) (show w64 (2 * 20)=40 by decide))) (Ze rfl rfl rfl rfl rfl rfl (Ze rfl rfl rfl rfl rfl rfl (eN ?_))))))))
 have q:=bnd bU
 obtain ⟨⟨⟩,cV,bN⟩:=q
 try dsimp only at bN
 refine CK.cut (fun σ_ w_=>∃ (U_:PHeap),σ_ 0=.slice aa aq.length ae/\σ_ 1=jV p1/\σ_ 2=ai/\σ_ 6=jV 20/\σ_ 7=jV 0/\PHeap.Le av U_/\SW w [B0] U U_ [B1] w_) ?_ ?_
 refine zV (yI (fun _ σ_ w_=>∃ (U_:PHeap),σ_ 0=.slice aa aq.length ae/\σ_ 1=jV p1/\σ_ 2=ai/\σ_ 6=jV 20/\σ_ 7=jV 0/\σ_ 8=jV 40/\PHeap.Le av U_/\SW w [B0] U U_ [B1] w_) cV ?_ ?_)
 exact ⟨av,cu,bG,cw,bh,Z,Z,(zU _),bL⟩
 rintro ⟨⟩ dy dB dh ⟨bW,br,bs,bu,bw,aZ,bz,cW,cC⟩ bi cK
 try dsimp only at bi
 refine zH (sR fL3 Z (oM Z bz (oM Z bs (oR Z (yP Z Z Z) (eN ?_)))))
 by_cases aj:40 <= p1
 have bO:=bi;rw [if_pos aj] at bO;replace aj:=zI aj
 refine cT Z aj (kN (zV (sR (wML (.fx 7 .nil .stop)) rfl (zQ rfl rfl rfl rfl rfl br (zQ rfl rfl rfl rfl rfl aZ (zQ rfl rfl rfl rfl rfl aZ (zQ rfl rfl rfl rfl rfl bw (za rfl rfl rfl rfl (fun _=>zw (zZ rfl rfl rfl) (congrArg (jV) (show w64 (0 + 20)=20 by decide))) (zQ rfl rfl rfl rfl rfl bz (zQ rfl rfl rfl rfl rfl bu ?_))))))))))
 cases bO
 have bP:=bi;rw [if_neg aj] at bP;replace aj:=zI aj
 refine cF Z aj (ZD (zb ?_))
 have q:=wAS bP
 obtain ⟨cZ,cN,ci⟩:=q
 have q:=cK cZ ci
 obtain rfl:=q
 refine zb (zz ?_)
 cases cN
 exact zJ ⟨Z,⟨bW,br,bs,bu,bw,aZ,cW,cC⟩⟩
 rintro dC dm ⟨dg,cn,bA,cp,cq,bB,dt,dr⟩
 refine zH (sR fL4 rfl (zQ rfl rfl rfl rfl rfl bB (zQ rfl rfl rfl rfl rfl cq (za rfl rfl rfl rfl (fun _=>zw (zZ rfl rfl rfl) (congrArg (jV) (show w64 (0 + 20)=20 by decide))) (Ze rfl rfl rfl rfl rfl rfl (eN (sR fL3 rfl (zQ rfl rfl rfl rfl rfl rfl (zQ rfl rfl rfl rfl rfl bA (za rfl rfl rfl rfl (fun _=>ze rfl rfl rfl) (eN (cT Z ah (rR (wID (.fx 5 .nil .stop)) rfl (zQ rfl rfl rfl rfl rfl cn (zQ rfl rfl rfl rfl rfl bB (zQ rfl rfl rfl rfl rfl rfl (zQ rfl rfl rfl rfl rfl bA (zQ rfl rfl rfl rfl rfl cp ?_))))))))))))))))))
 cases bN
 have bQ:=bk;rw [if_neg ah] at bQ;replace ah:=zI ah
 refine cF Z ah (ZD (zb ?_))
 have q:=wAS bQ
 obtain ⟨da,cP,cj⟩:=q
 have q:=cM da cj
 obtain rfl:=q
 refine zb (zz ?_)
 have hE:=nB cP;first | subst r | cases hE
 exact ⟨Z,_,(wNE),av,_,bL,Z,Z,(bJ.trans cz)⟩
theorem wDN (p0:List wAN) (ae:Option Addr) (ag:Nat) (p1:((wAN × wAN)->Option Int)) (ai:Value) (w:World) (U:PHeap) (hS:St0 w U [.row ae ag 59 4 (nA wAJ p0)]) (aq:FnOK Tryz.prog U ai ar97 rr97 p1) {r:(List wAN)} (hm:wAl p0 p1=some r):Gv Tryz.prog 31 [.slice ae p0.length ag,ai] w (wBW w [.row ae ag 59 4 (nA wAJ p0)] U (fun U_ L_ v=>v=.tuple #[]/\L_=[.row ae ag 59 4 (nA wAJ r)]/\r.length=p0.length)):=by
 unfold wAl at hm
 refine Gv.of Tryz.func31 Z Tryz.ntmps31 Tryz.results31 Z (rR (wET (.fx 4 .nil .stop)) Z (oM Z Z (oM Z Z (oR Z (zy Z Z Zl) (oM Z Z (bnK hm fun x2 h3 au=>zG 1 Z Z Z Z (zF Z Z Tryz.call73 (zA Z (zA Z (zA Z zK))) Z) hS (fun hs=>wEc p0 ae ag (↑p0.length:Int) p1 ai w U hs aq h3) (.inl Z) ?_))))))
 rintro U5 L6 v7 W8 az ao ⟨rfl,rfl,am⟩
 have ap:SW w [.row ae ag 59 4 (nA wAJ p0)] U U5 [.row ae ag 59 4 (nA wAJ x2)] W8:=ao
 refine zk ?_
 have hE:=nB au;first | subst r | cases hE
 exact ⟨Z,_,(wNE),U5,_,ap,Z,Z,am⟩
theorem wKI (p0:wAN) (p1:wAN) (w:World) (U:PHeap) (hS:St0 w U [])  {r:Int} (hm:wCx p0 p1=some r):Gv Tryz.prog 32 [.agg #[jV p0.Skier,jV p0.Rank,jV p0.Points,jV p0.Wins],.agg #[jV p1.Skier,jV p1.Rank,jV p1.Points,jV p1.Wins]] w (wBW w [] U (fun U_ L_ v=>v=jV r/\L_=[])):=by
 unfold wCx at hm
 refine Gv.of Tryz.func32 Z Tryz.ntmps32 Tryz.results32 Z (sR gCg Z ?_)
 let B0:List Value:=[jV p0.Skier,jV p0.Rank,jV p0.Points,jV p0.Wins]
 refine ZA (cs:=B0) rfl rfl rfl rfl rfl rfl (by rfl) hS ?_
 intro W1 b2 av
 let B1:List Value:=[jV p1.Skier,jV p1.Rank,jV p1.Points,jV p1.Wins]
 refine ZA (cs:=B1) rfl rfl rfl rfl rfl rfl (by rfl) av ?_
 intro W5 b6 ag
 refine oA Z Z (eN (sR (wET gCb) Z (oR Z (zD Z Z Tryz.runUnderlying59 Z zC) (oL Z (ag.ldB (j:=1) Z Z Z zO (v:=jV p0.Rank) Z) (oR Z (zD Z Z Tryz.runUnderlying59 Z zC) (oL Z (ag.ldB (j:=0) Z Z Z zO (v:=jV p1.Rank) Z) (bnK hm fun x9 ap aw=>zG 0 Z Z Z Z (zF Z Z Tryz.call33 (zA Z (zA Z zK)) Z) ag (fun hs=>wCR p0.Rank p1.Rank W5 U hs ap) (.inr Z) ?_)))))))
 rintro aj az aZ ak aY aq ⟨rfl,rfl⟩
 have au:sW w U aj [.blk b6 59 B1,.blk b2 59 B0] ak:=aq
 refine oA Z Z (eN (zM ?_))
 have hE:=nB aw;first | subst r | cases hE
 exact ⟨rfl,_,(zi rfl),aj,_,(au.pick [] _ (by decide) rfl),rfl,rfl⟩
theorem wIu (p0:wAU) (bh:Option Addr) (bj:Nat) (bi:Option Addr) (bk:Nat) (w:World) (U:PHeap) (hS:St0 w U []) (dv:Sl U 1 bh bj p0.Points.length (nA KL.encI p0.Points)) (dw:SlR U wEH bi bk p0.Done) {r:(List wAN) × Int} (hm:wEZ p0=some r):Gv Tryz.prog 13 [.agg #[jV p0.Skiers,jV p0.Races,jV p0.Best,.slice bh p0.Points.length bj,.slice bi p0.Done.length bk]] w (wBW w [] U (fun U_ L_ v=>∃ (A0:Option Addr) (c0:Nat),v=.tuple #[.slice A0 r.1.length c0,jV r.2]/\L_=[.row A0 c0 59 4 (nA wAJ r.1)])):=by
 unfold wEZ at hm
 refine Gv.of Tryz.func13 Z Tryz.ntmps13 Tryz.results13 Z (sR gCh Z ?_)
 let B0:List Value:=[jV p0.Skiers,jV p0.Races,jV p0.Best,.slice bh p0.Points.length bj,.slice bi p0.Done.length bk]
 refine ZA (cs:=B0) rfl rfl rfl rfl rfl rfl (by rfl) hS ?_
 intro W1 b2 bT
 refine oA Z Z (oA Z Z (eN (sR (.fl 0 (.fx 1 (wPl gCi) .stop)) Z (oL Z (bT.ldBA (j:=0) Z Z Z ZG zX (vs:=B0) Z Z) ?_))))
 have q:=bnd hm
 obtain ⟨⟨x5,x6⟩,h7,bW⟩:=q
 try dsimp only at bW
 refine zG 0 Z Z Z Z (zF Z Z Tryz.call26 (zA Z zK) Z) bT (fun hs=>wFn p0 bh bj bi bk W1 U hs dv dw h7) (.inr Z) ?_
 rintro U9 dM dW cm dS cW ⟨az,bb,aX,be,rfl,rfl,cE,cG⟩
 have db:sW w U U9 [.blk b2 29 B0] cm:=cW
 refine oM Z Z (oR Z (ZB Z Z (v:=.agg #[jV x5.Cup.Skiers,jV x5.Cup.Races,jV x5.Cup.Best,.slice az x5.Cup.Points.length bb,.slice aX x5.Cup.Done.length be]) Z) (oR Z (ZB Z Z (v:=jV x6) Z) (zq (cs:=[jV 0,jV 0,jV 0,.slice none 0 0,.slice none 0 0]) Z Z Z Z Z yG Z db ?_)))
 intro dQ am de
 let B1:List Value:=[jV x5.Cup.Skiers,jV x5.Cup.Races,jV x5.Cup.Best,.slice az x5.Cup.Points.length bb,.slice aX x5.Cup.Done.length be]
 refine zo (j:=0) (vs:=B1) Z Z Z Z de Z Z Z Z ZP (zB Z) Z Z Z ?_
 intro cp df
 have bw:sW w U U9 [.blk am 87 B1,.blk b2 29 B0] cp:=df
 refine oA Z Z (eN (zH (sR fL2 Z (oM Z Z (oR Z (Zs Z Z Z) (eN (ifc bW ?_ ?_)))))))
 intro br dF
 refine zn (ZI (fun h=>h br.out)) (kN (sR fL1 Z (oA Z Z (eN (zH (sR fL4 Z (oR Z (zD Z Z zt Z zX) (oR Z (zD Z Z zY Z zC) (oL Z (bw.ldB (j:=0) Z Z Z zO (v:=jV x5.Cup.Skiers) Z) (oM Z Z (eN (zV (bnK dF fun bE dx dG=>?_)))))))))))))
 have q:=wBr dx
 obtain ⟨bB,dy⟩:=q
 replace bB:=zI bB
 refine CK.forN' (fun aj aw σ_ w_=>∃ (U_:PHeap) (aY:Option Addr) (bg:Nat),σ_ 20=jV (↑aj:Int)/\σ_ 4=.pointer (some ⟨am,0,none⟩)/\σ_ 6=.slice aY aw.length bg/\σ_ 19=jV x5.Cup.Skiers/\PHeap.Le U9 U_/\sW w U U_ [.blk am 87 B1,.blk b2 29 B0,.row aY bg 59 4 (nA wAJ aw)] w_) dy ?_ ?_ ?_
 have dg:=bw.nilrow 59 4
 exact ⟨U9,none,0,rfl,rfl,rfl,rfl,(zU _),(dg.pick [1,2,0] _ (by decide) rfl)⟩
 rintro aj aw dZ ep cq bz ⟨bZ,aY,bg,bu,bs,cz,bP,bC,bU⟩ dI
 have bN:Hid ((↑aj:Int) < x5.Cup.Skiers):=zI (wBq bz)
 replace bz:=zI bz
 have dA:Hid (w64 ((↑aj:Int) + 1)=(↑(aj + 1):Int)):=zI (by have h1:=bB.out;have h2:=bN.out;rw [wAT] <;> omega)
 refine sR fL1 Z (oR Z (ze Z bu bP) (eN (zH (cT Z bN (kN (zH (zV (sR fL2 Z (oM Z bu (oA Z Z (eN (sR gCm Z (oL Z (bU.ldBA (j:=0) Z Z bs Zo ZP (vs:=B1) Z Z) (oM Z Z ?_))))))))))))))
 have bQ:=cE.le bC
 have bR:=cG.le bC
 refine bnK dI fun aa cJ dH=>zG 0 Z Z Z Z (zF Z Z Tryz.call29 (zA Z (zA Z zK)) Z) bU (fun hs=>wEP x5 az bb aX be (↑aj:Int) cq bZ hs bQ bR cJ) (.inr Z) ?_
 rintro ba dP dY cr bD dh ⟨rfl,rfl⟩
 let B2:Res:=.row aY bg 59 4 (nA wAJ aw)
 have dm:sW w U ba [.blk am 87 B1,.blk b2 29 B0,B2] cr:=dh
 refine zq (cs:=([jV 0]:List Go.Value) ++ (nA KL.encI (Arr.fill 61 0).l)) Z Z Z Z Z Tryz.zeroValue94 Z dm ?_
 intro ct ao dp
 have dr:sW w U ba [.blk ao 94 (([jV 0]:List Go.Value) ++ (nA KL.encI (Arr.fill 61 0).l)),.blk am 87 B1,.blk b2 29 B0,B2] ct:=dp
 have bA:=(show (([jV aa.total]:List Go.Value) ++ (nA KL.encI aa.places.l):List Go.Value).length=62 by rw [nI,wBu (f:=KL.encI) (sz:=1) (N:=61) aa.places (fun _=>rfl) rfl];rfl)
 have bV:=(show (([jV 0]:List Go.Value) ++ (nA KL.encI (Arr.fill 61 0).l):List Go.Value).length=62 by rw [nI,wBu (f:=KL.encI) (sz:=1) (N:=61) (Arr.fill 61 0) (fun _=>rfl) rfl];rfl)
 refine zo (j:=0) (vs:=([jV aa.total]:List Go.Value) ++ (nA KL.encI aa.places.l)) rfl rfl rfl rfl dr rfl rfl rfl rfl (fun w=>by rw [bA];exact yN w) (by rw [bA,bV];exact zB rfl) (by rw [nO,wFK (fun _=>rfl)];rfl) (wIF _ _ (bA.trans bV.symm)) rfl ?_
 intro bq dt
 have du:sW w U ba [.blk ao 94 (([jV aa.total]:List Go.Value) ++ (nA KL.encI aa.places.l)),.blk am 87 B1,.blk b2 29 B0,B2] bq:=dt
 refine eN (ZT ZH [3,3,1,3,2,3,1,3,3,1,3,2,0,3] (wET (fC5_9 (.fx 4 (.fl 10 (.fx 11 (.fx 12 (.fl 13 .nil) .stop) .stop)) .stop))) (by kernel_rfl) ?_)
 have av:=du.drew
 generalize hw_W94:({ bq with drawn:=bq.drawn + 1 }:World)=cu at av ⊢
 refine zQ rfl rfl rfl rfl rfl cz (zQ rfl rfl rfl rfl rfl rfl (zr rfl rfl rfl rfl (av.ldBA (j:=1) rfl rfl bs Zo ZP (vs:=B1) rfl rfl) rfl (zQ rfl rfl rfl rfl rfl rfl (za rfl rfl rfl rfl (fun _=>zD rfl rfl ZL rfl zC) (zr rfl rfl rfl rfl (av.ldB (j:=0) rfl rfl rfl zO (v:=jV aa.total) rfl) rfl (za rfl rfl rfl rfl (fun _=>zD rfl rfl ZL rfl yH) (za rfl rfl rfl rfl (fun _=>zw (Runs.iaA rfl rfl rfl yJ zC (by decide) (by decide)) rfl) ?_)))))))
 have dz:=Arr.at_ aa.places (k:=1) (by omega)
 refine zr rfl rfl rfl rfl (av.ldB (j:=0) rfl rfl ((rfl:ev _ _=.pointer (some ⟨ao,2,none⟩)).trans (wIR (by omega))) zO (wJO (n:=1) rfl (wNH (sz:=1) (fun _=>rfl) _ _ 0 _ dz rfl))) rfl ?_
 have cK:=bQ.le bD
 have cL:=bR.le bD
 refine bnK dH fun x98 cM dB=>zG 0 Z Z Z Z (zF Z Z Tryz.call30 (zA Z (zA Z zK)) Z) av (fun hs=>wFE x5 az bb aX be (↑aj:Int) cu ba hs cK cL cM) (.inr Z) ?_
 rintro aZ dN dV cg dJ cP ⟨rfl,rfl⟩
 have cQ:sW w U aZ [.blk ao 94 (([jV aa.total]:List Go.Value) ++ (nA KL.encI aa.places.l)),.blk am 87 B1,.blk b2 29 B0,B2] cg:=cP
 let B3:List Value:=[jV (↑aj:Int),jV x98,jV aa.total,jV (aa.places.get 1)]
 let B4:List Value:=[jV 0,jV 0,jV 0,jV 0]
 refine oR Z (Zi (pv:=[(0,jV (↑aj:Int)),(1,jV x98),(2,jV aa.total),(3,jV (aa.places.get 1))]) (z:=B4) (cs:=B3) Z (wAK Z (wAK Z (wAK Z (wAK Z wAb)))) Tryz.zeroValue59 wQa Z Z) (ZM (pv:=[(0,.agg B3.toArray)]) (zs:=B4) (cs:=B3) Z Z Z Z Z (wAK Z wAb) Zl Zr Tryz.zeroValue59 Z Z Z Z Z cQ ?_)
 intro ci cw cR
 let B5:Res:=.row (some ⟨cw,0,none⟩) 1 59 4 (nA wAJ [(⟨(↑aj:Int),x98,aa.total,(aa.places.get 1)⟩:wAN)])
 have bS:sW w U aZ [B5,.blk ao 94 (([jV aa.total]:List Go.Value) ++ (nA KL.encI aa.places.l)),.blk am 87 B1,.blk b2 29 B0,B2] ci:=cR
 refine bnK dB fun x113 cB dC=>Zv (j:=4) (enc:=wAJ) (xs:=aw) (ys:=[(⟨(↑aj:Int),x98,aa.total,(aa.places.get 1)⟩:wAN)]) (zs:=x113) rfl rfl rfl rfl rfl Tryz.underlying54 wUx rfl rfl rfl rfl rfl rfl bS rfl rfl rfl (bS.srcR (j:=0) rfl (by decide) (wAF (f:=wAJ) (sz:=4) (fun _=>rfl) [(⟨(↑aj:Int),x98,aa.total,(aa.places.get 1)⟩:wAN)])) (fun _=>rfl) (fun _=>rfl) cB rfl ?_
 intro bG bM cj cS
 have cU:sW w U aZ [B5,.blk ao 94 (([jV aa.total]:List Go.Value) ++ (nA KL.encI aa.places.l)),.blk am 87 B1,.blk b2 29 B0,.row bG bM 59 4 (nA wAJ x113)] cj:=cS
 refine oA Z Z (zk (zh (zJ (rR fL2 Z (oR Z (zw (zZ Z bu Z) (congrArg (jV) dA.out)) (oM Z Z (zk ?_)))))))
 cases dC
 exact zJ ⟨rfl,⟨aZ,bG,bM,rfl,bs,rfl,bP,((bC.trans bD).trans dJ),(cU.pick [2,3,4] _ (by decide) rfl)⟩⟩
 rintro eh bK ⟨bp,an,ap,cA,dR,bO,cy,dT,cV⟩
 have cx:Hid (¬ ((↑((x5.Cup.Skiers:Int) - 0).toNat:Int) < x5.Cup.Skiers)):=zI (wBH)
 refine sR fL1 Z (oR Z (ze Z cA cy) (eN (zH (cF Z cx (ZD (zb (zb (zz (zJ (sR gCc Z (oM Z bO ?_)))))))))))
 have cN:FnOK Tryz.prog bp (.func (.func 32) #[] #[]) ar97 rr97 (fun x=>wCx x.1 x.2):=⟨32,[],[],rfl,Tryz.call32,fun U1 w1 x y vs le hs ha hm=>by obtain rfl:=ha;exact wKI x.1 x.2 w1 U1 hs  hm⟩
 refine bnK dG fun bX cC dD=>?_
 have cX:sW w U bp [.row an ap 59 4 (nA wAJ bE),.blk am 87 B1,.blk b2 29 B0] bK:=cV.pick [2,0,1] _ (by decide) rfl
 refine zG 1 Z Z Z Z (zF Z Z Tryz.call31 (zA Z (zA Z zK)) Z) cX (fun hs=>wDN bE an ap (fun x=>wCx x.1 x.2) (.func (.func 32) #[] #[]) bK bp hs cN cC) (.inl Z) ?_
 rintro bJ dO dX cn dU cY ⟨rfl,rfl,cD⟩
 have cZ:sW w U bJ [.row an ap 59 4 (nA wAJ bX),.blk am 87 B1,.blk b2 29 B0] cn:=cY
 refine eN (sR fL3 rfl (zQ rfl rfl rfl rfl rfl (nM (b:=(.slice an bE.length ap:Value)) (c:=(.slice an bX.length ap:Value)) bO (by rw [cD])) (Ze rfl rfl rfl rfl rfl rfl (Ze rfl rfl rfl rfl rfl rfl (eN (zM ?_))))))
 cases dD
 exact ⟨rfl,_,(wLV rfl rfl),bJ,_,(cZ.pick [0] _ (by decide) rfl),an,ap,rfl,rfl⟩
 intro br dE
 refine cT Z br (sR fL3 Z (oM Z Z (oA Z Z (oA Z Z (eN (zM (zN ?_)))))))
 have da:=bw.nilrow 59 4
 cases dE
 exact ⟨rfl,_,(wLV rfl rfl),U9,_,(da.pick [0] _ (by decide) rfl),none,0,rfl,rfl⟩
set_option maxHeartbeats 4000000
theorem wFF (p0:List wAN) (av:Option Addr) (az:Nat) (p1:List wAN) (aw:Option Addr) (aX:Nat) (w:World) (U:PHeap) (hS:St0 w U []) (bG:Sl U 4 av az p0.length (nA wAJ p0)) (bH:Sl U 4 aw aX p1.length (nA wAJ p1)) {r:Bool} (hm:wBM p0 p1=some r):Gv Tryz.prog 14 [.slice av p0.length az,.slice aw p1.length aX] w (wBW w [] U (fun U_ L_ v=>v=.bool r/\L_=[])):=by
 unfold wBM at hm
 refine Gv.of Tryz.func14 Z Tryz.ntmps14 Tryz.results14 Z (sR fL1 Z (oA Z Z (eN (zH (sR fL5 Z (oM Z Z (oR Z (zy Z Z Zl) (oM Z Z (oR Z (zy Z Z Zl) (oR Z (Zs Z Z Z) (eN ?_)))))))))))
 by_cases c1:(↑p0.length:Int)=(↑p1.length:Int)
 have ak:=hm;rw [if_pos c1] at ak;replace c1:=zI c1
 refine zn (ZI (fun h=>h c1.out)) (kN (zH (sR fL3 Z (oM Z Z (oR Z (zy Z Z Zl) (oM Z Z (eN (zV ?_))))))))
 have q:=wDo ak
 obtain ⟨r5,ao⟩:=q
 have q:=wDn ao
 obtain ⟨aq,bK⟩:=q
 replace aq:=zI aq
 refine yS (fun k4 _ σ_ w_=>∃ (U_:PHeap),σ_ 13=jV (↑k4:Int)/\σ_ 0=.slice av p0.length az/\σ_ 1=.slice aw p1.length aX/\σ_ 12=jV (↑p0.length:Int)/\PHeap.Le U U_/\sW w U U_ [] w_) bK ?_ ?_ ?_
 exact ⟨U,Z,Z,Z,Z,(zU _),hS⟩
 rintro k4 ⟨⟩ ci cm aZ ap ⟨aY,an,bb,be,bg,au,bE⟩ bm bI
 try dsimp only at bm
 have ba:Hid ((↑k4:Int) < (↑p0.length:Int)):=zI (wBq ap)
 replace ap:=zI ap
 have bL:Hid (w64 ((↑k4:Int) + 1)=(↑(k4 + 1):Int)):=zI (by have h1:=aq.out;have h2:=ba.out;rw [wAT] <;> omega)
 refine sR fL1 rfl (za rfl rfl rfl rfl (fun _=>ze rfl an bg) (eN (zH (cT Z ba (kN (zH (zV (sR fL2 rfl (zQ rfl rfl rfl rfl rfl an (Ze rfl rfl rfl rfl rfl rfl (eN (zH (ZT ZH [3,3,3,1,3,3,3,1,3] fL9 (by kernel_rfl) ?_)))))))))))))
 have ah:=bE.drew
 generalize hw_W25:({ aZ with drawn:=aZ.drawn + 1 }:World)=bS at ah ⊢
 refine oM Z bb (oM Z Z (bnK bm fun x26 bh bM=>?_))
 have bw:=bG.le au
 have q:=bw.el (fun _=>rfl) (wBD bh)
 obtain ⟨bU,bZ,bA,bC⟩:=q
 refine oR Z (ZZ Z Z bA Z Zl Zr (wDB bh)) (oL Z (ah.ldCA (f:=0) bC Z Z Tryz.isAgg59 Zr (us:=[jV x26.Skier,jV x26.Rank,jV x26.Points,jV x26.Wins]) Z Z) (oM Z be (oM Z Z (bnK bM fun aj bi bN=>?_))))
 have bz:=bH.le au
 have q:=bz.el (fun _=>rfl) (wBD bi)
 obtain ⟨bV,cd,bB,bD⟩:=q
 refine oR Z (ZZ Z Z bB Z Zl Zr (wDB bi)) (oL Z (ah.ldCA (f:=0) bD Z Z Tryz.isAgg59 Zr (us:=[jV aj.Skier,jV aj.Rank,jV aj.Points,jV aj.Wins]) Z Z) (oR Z (zw (Runs.neS (enc:=wAJ) (a:=x26) (b:=aj) Z Z Z eqT59 eqG59) (congrArg nN (decide_not).symm)) (eN (ifc bN ?_ ?_))))
 intro am bO
 refine zn (ZI (fun h=>h am.out)) (Zd (zh (zJ (rR fL2 Z (oR Z (zw (zZ Z an Z) (congrArg (jV) bL.out)) (oM Z Z (zk ?_)))))))
 have q:=nB bO
 obtain rfl:=q
 exact zJ ⟨Z,_,Z,⟨aY,Z,bb,be,bg,au,ah⟩⟩
 intro am bP
 refine cT Z am (sR fL1 Z (oA Z Z (eN (zM (zf (zN ?_))))))
 have q:=wAS bP
 obtain ⟨bR,bQ,br⟩:=q
 have q:=wCa ak ao (bI bR br)
 obtain rfl:=q
 refine zN (zf (zN ?_))
 have hE:=nB bQ;first | subst r | cases hE
 exact ⟨Z,_,(zi Z),aY,_,ah,Z,Z⟩
 rintro ⟨⟩ cj bT ⟨bp,bu,bW,bX,bs,bY,bF⟩ bJ
 have bj:=wEt ak ao bJ
 try dsimp only at bj
 have bq:Hid (¬ ((↑(((↑p0.length:Int):Int) - 0).toNat:Int) < (↑p0.length:Int))):=zI (wBH)
 refine sR fL1 Z (oR Z (ze Z bu bs) (eN (zH (cF Z bq (ZD (zb (zb (zz (zJ (sR fL1 Z (oA Z Z (eN (zM ?_)))))))))))))
 have hE:=nB bj;first | subst r | cases hE
 exact ⟨Z,_,(zi Z),bp,_,bF,Z,Z⟩
 have bk:=hm;rw [if_neg c1] at bk;replace c1:=zI c1
 refine cT Z c1 (sR fL1 Z (oA Z Z (eN (zM (zN ?_)))))
 have hE:=nB bk;first | subst r | cases hE
 exact ⟨Z,_,(zi Z),U,_,hS,Z,Z⟩
theorem wIA (p0:wAQ) (ap:Nat) (an:Option Addr) (au:Nat) (ao:Option Addr) (av:Nat) (p1:Int) (aq:Nat) (w:World) (U:PHeap) (hS:St0 w U []) (bb:Cl U ap 0 [jV p0.Cup.Skiers,jV p0.Cup.Races,jV p0.Cup.Best,.slice an p0.Cup.Points.length au,.slice ao p0.Cup.Done.length av]) (bj:Sl U 1 an au p0.Cup.Points.length (nA KL.encI p0.Cup.Points)) (bk:SlR U wEH ao av p0.Cup.Done) (be:Cl U aq 0 [jV p1]) {r:(List Int)} (hm:wCZ p0 p1=some r):Gv Tryz.prog 133 [.pointer (some ⟨ap,0,none⟩),.pointer (some ⟨aq,0,none⟩)] w (wBW w [] U (fun U_ L_ v=>∃ (A0:Option Addr) (c0:Nat),v=.slice A0 r.length c0/\L_=[.row A0 c0 3 1 (nA KL.encI r)])):=by
 unfold wCZ at hm
 refine Gv.of Tryz.func133 Z Tryz.ntmps133 Tryz.results133 Z (sR fL1 Z (oA Z Z (eN (sR (wDq gCd) Z (oR Z (zD Z Z zt Z zX) (oR Z (zD Z Z zY Z zC) (oL Z (hS.ldC (f:=0) bb (v:=jV p0.Cup.Skiers) Z Z zO Z) (bnK hm fun x1 h2 bi=>OKS.makeSlice (enc:=KL.encI) (z:=(0:Int)) (v:=jV 0) Z Z Z Z Z (wDO zL) wJz Z Z Z Z Z Z h2 hS ?_))))))))
 intro W4 b5 ba
 have am:sW w U U [.row (some ⟨b5,0,none⟩) x1.length 3 1 (nA KL.encI x1)] W4:=ba
 refine oA Z Z (eN (sR (wDq (.fx 3 .nil .stop)) Z (oM Z Z (oL Z (am.ldC (f:=0) be (v:=jV p1) Z Z zO Z) (bnK bi fun _ h9 bh=>oR Z (ZQ Z Z Z Z zL zC (wBk h9) (wBl h9)) ?_)))))
 have bg:=wBt (xs:=x1) (wAR h9)
 refine yX (j:=0) (vs:=[jV 1]) (cs':=nA KL.encI (nJ x1 p1.toNat 1)) rfl rfl rfl rfl am rfl rfl rfl rfl rfl zC (by rw [wAF (f:=KL.encI) (sz:=1) (fun _=>rfl)];have hz:=wAR h9;show _ + 1 <= _;first | omega | (simp only [nK];omega) | (simp only [nG,nD,nE];omega)) rfl (wEW (sz:=1) (fo:=0) (fun _=>rfl) _ _ _ _ bg (by first | omega | (simp only [nK];omega) | (simp only [nG,nD,nE];omega)) (zB rfl) rfl) rfl ?_
 intro aw aY
 have aZ:sW w U U [.row (some ⟨b5,0,none⟩) x1.length 3 1 (nA KL.encI (nJ x1 p1.toNat 1))] aw:=aY
 refine eN (sR fL2 rfl (zQ rfl rfl rfl rfl rfl (nM (b:=(.slice (some ⟨b5,0,none⟩) x1.length x1.length:Value)) (c:=(.slice (some ⟨b5,0,none⟩) ((nJ x1 p1.toNat 1).length) x1.length:Value)) rfl (by simp only [nH])) (Ze rfl rfl rfl rfl rfl rfl (eN (zM ?_)))))
 cases bh
 exact ⟨Z,_,(zi Z),U,_,aZ,(some ⟨b5,0,none⟩),x1.length,Z,Z⟩
theorem wGg (p0:wAQ) (aZ:Option Addr) (ba:Nat) (an:Option Addr) (ao:Nat) (p1:Int) (w:World) (U:PHeap) (hS:St0 w U []) (cV:Sl U 1 aZ ba p0.Cup.Points.length (nA KL.encI p0.Cup.Points)) (cW:SlR U wEH an ao p0.Cup.Done) {r:(List (List Int))} (hm:wDL p0 p1=some r):Gv Tryz.prog 107 [.agg #[jV p0.Cup.Skiers,jV p0.Cup.Races,jV p0.Cup.Best,.slice aZ p0.Cup.Points.length ba,.slice an p0.Cup.Done.length ao],jV p1] w (wBW w [] U (fun U_ L_ v=>∃ (A0:Option Addr) (c0:Nat) (bC:List Value),v=.slice A0 r.length c0/\L_=[.row A0 c0 26 1 bC]/\RlL U_ wEH r bC)):=by
 unfold wDL at hm
 refine Gv.of Tryz.func107 Z Tryz.ntmps107 Tryz.results107 Z (sR gCg Z ?_)
 let B0:List Value:=[jV p0.Cup.Skiers,jV p0.Cup.Races,jV p0.Cup.Best,.slice aZ p0.Cup.Points.length ba,.slice an p0.Cup.Done.length ao]
 refine ZA (cs:=B0) rfl rfl rfl rfl rfl rfl (by rfl) hS ?_
 intro W1 b2 cJ
 have q:=cJ.freeze (k:=0) rfl
 obtain ⟨U5,bJ,ai,cM⟩:=q
 replace ai:=Cl.of ai
 have cR:sW w U U5 [] W1:=cM
 replace ai:Cl U5 b2 0 B0:=ai
 refine ZA (cs:=[jV p1]) rfl rfl rfl rfl rfl rfl (by rfl) cR ?_
 intro bR be cE
 have q:=cE.freeze (k:=0) rfl
 obtain ⟨av,bm,ah,cH⟩:=q
 replace ah:=Cl.of ah
 have bi:sW w U av [] bR:=cH
 replace ah:Cl av be 0 [jV p1]:=ah
 refine oA Z Z (eN (sR fL2 Z (oR Z (yD Z zK (zA Z (zA Z zK))) (oA Z Z (eN (sR fL1 Z (oA Z Z (eN (zH (sR fL9 Z (oR Z (zD Z Z zt Z zX) (oR Z (zD Z Z zY Z zC) ?_))))))))))))
 have bh:=ai.le bm
 refine oL Z (bi.ldC (f:=1) bh (v:=jV p0.Cup.Races) Z Z zO Z) (oR Z (zD Z Z zt Z zX) (oR Z (zD Z Z zY Z ZV) (oL Z (bi.ldC (f:=4) bh (v:=.slice an p0.Cup.Done.length ao) Z Z Zq Z) (oR Z (zy Z Z zx) (oR Z (Zj Z Z Z) (oM Z Z (eN (zV (bnK hm fun dw cX da=>?_)))))))))
 have q:=wBr cX
 obtain ⟨bk,cY⟩:=q
 replace bk:=zI bk
 refine CK.forN' (fun aj aY σ_ w_=>∃ (U_:PHeap) (ap:Option Addr) (aw:Nat) (aX:List Value),σ_ 16=jV (↑aj:Int)/\σ_ 5=.func (.func 133) #[] #[.pointer (some ⟨b2,0,none⟩),.pointer (some ⟨be,0,none⟩)]/\σ_ 6=.slice ap aY.length aw/\σ_ 15=jV (w64 (p0.Cup.Races - (↑p0.Cup.Done.length:Int)))/\PHeap.Le av U_/\sW w U U_ [.row ap aw 26 1 aX] w_/\RlL U_ wEH aY aX) cY ?_ ?_ ?_
 have cK:=bi.nilrow 26 1
 exact ⟨av,none,0,[],Z,Z,Z,Z,(zU _),cK,RlL.nil⟩
 rintro aj aY dv dy bT bj ⟨bO,ap,aw,aX,bG,bE,cg,bF,ak,cL,cp⟩ dh
 have bB:Hid ((↑aj:Int) < (w64 (p0.Cup.Races - (↑p0.Cup.Done.length:Int)))):=zI (wBq bj)
 replace bj:=zI bj
 have cZ:Hid (w64 ((↑aj:Int) + 1)=(↑(aj + 1):Int)):=zI (by have h1:=bk.out;have h2:=bB.out;rw [wAT] <;> omega)
 refine sR fL1 Z (oR Z (ze Z bG bF) (eN (zH (cT Z bB (kN (zH (zV (rR (.fl 0 (.fl 1 (.fx 2 (.fx 3 gCb .stop) .stop))) Z (oM Z cg (oM Z bE ?_))))))))))
 have cq:=bh.le ak
 have cr:=cV.le bJ
 have ct:=cr.le bm
 have cu:=ct.le ak
 have cw:=cW.le bJ
 have cx:=cw.le bm
 have cy:=cx.le ak
 have cz:=ah.le ak
 refine bnK dh fun ae cA db=>zG 0 Z Z Z Z (zF Z Z Tryz.call133 zK Z) cL (fun hs=>wIA p0 b2 aZ ba an ao p1 be bT bO hs cq cu cy cz cA) (.inr Z) ?_
 rintro bP dm du bw bK cN ⟨aq,az,rfl,rfl⟩
 let B1:Res:=.row ap aw 26 1 aX
 have cP:sW w U bP [.row aq az 3 1 (nA KL.encI ae),B1] bw:=cN
 have q:=cP.freezeR (k:=0) (n:=ae.length) rfl (wAF (f:=KL.encI) (sz:=1) (fun _=>rfl) ae) (by decide)
 obtain ⟨ag,bL,dg,cS⟩:=q
 have cU:sW w U ag [B1] bw:=cS
 let B2:List Value:=[.slice aq ae.length az]
 refine ZM (pv:=[(0,.slice aq ae.length az)]) (zs:=[.slice none 0 0]) (cs:=B2) Z Z Z Z Z (wAK Z wAb) zx Zc Tryz.zeroValue26 Z Z Z Z Z cU ?_
 intro bU bV cQ
 have bI:RlL ag wEH [ae] B2:=(RlL.cons (R:=wEH) (x:=ae) (vs:=B2) ⟨aq,az,rfl,dg⟩ RlL.nil)
 let B3:Res:=.row (some ⟨bV,0,none⟩) 1 26 1 B2
 have bH:sW w U ag [B3,B1] bU:=cQ
 refine bnK db fun x97 cB de=>?_
 have cj:=cp.le bK
 have cm:=cj.le bL
 refine OKS.appendR (R:=wEH) (j:=1) (xs:=aY) (ys:=[ae]) (zs:=x97) rfl rfl rfl rfl rfl Tryz.underlying27 wPQ rfl rfl rfl rfl rfl rfl rfl bH rfl rfl rfl cm bI (bH.srcR (j:=0) rfl (by decide) (RlL.len bI)) cB rfl ?_
 intro bq bA bD bS cC df
 have cD:sW w U ag [B3,.row bq bA 26 1 bD] bS:=cC
 refine oA Z Z (zk (zh (zJ (rR fL2 Z (oR Z (zw (zZ Z bG Z) (congrArg (jV) cZ.out)) (oM Z Z (zk ?_)))))))
 cases de
 exact zJ ⟨rfl,⟨ag,bq,bA,bD,rfl,bE,rfl,bF,((ak.trans bK).trans bL),(cD.pick [1] _ (by decide) rfl),df⟩⟩
 rintro dx dp ⟨bN,bM,bW,bX,ci,dr,bZ,cd,dt,cG,cn⟩
 have bY:Hid (¬ ((↑((w64 (p0.Cup.Races - (↑p0.Cup.Done.length:Int)):Int) - 0).toNat:Int) < (w64 (p0.Cup.Races - (↑p0.Cup.Done.length:Int))))):=zI (wBH)
 refine sR fL1 Z (oR Z (ze Z ci cd) (eN (zH (cF Z bY (ZD (zb (zb (zz (zJ (sR fL2 Z (oM Z bZ (oA Z Z (eN (zM ?_))))))))))))))
 have hE:=nB da;first | subst r | cases hE
 exact ⟨Z,_,(zi Z),bN,_,cG,bM,bW,bX,Z,Z,cn⟩
theorem wJI (p0:wAQ) (ah:Option Addr) (aj:Nat) (ai:Option Addr) (ak:Nat) (p1:Int) (w:World) (U:PHeap) (hS:St0 w U []) (bh:Sl U 1 ah aj p0.Cup.Points.length (nA KL.encI p0.Cup.Points)) (bi:SlR U wEH ai ak p0.Cup.Done) {r:Bool} (hm:wCP p0 p1=some r):Gv Tryz.prog 75 [.agg #[jV p0.Cup.Skiers,jV p0.Cup.Races,jV p0.Cup.Best,.slice ah p0.Cup.Points.length aj,.slice ai p0.Cup.Done.length ak],jV p1] w (wBW w [] U (fun U_ L_ v=>v=.bool r/\L_=[])):=by
 unfold wCP at hm
 refine Gv.of Tryz.func75 Z Tryz.ntmps75 Tryz.results75 Z (sR gBz Z ?_)
 let B0:List Value:=[jV p0.Cup.Skiers,jV p0.Cup.Races,jV p0.Cup.Best,.slice ah p0.Cup.Points.length aj,.slice ai p0.Cup.Done.length ak]
 refine ZA (cs:=B0) rfl rfl rfl rfl rfl rfl (by rfl) hS ?_
 intro W1 b2 bO
 refine Ze rfl rfl rfl rfl rfl rfl (eN (zH (ZT ZH [1,1,3,2,2,3,2,3,3] (wDq (.fl 5 (.fx 3 (.fx 4 (.fx 6 (.fl 7 (.fl 8 .nil)) .stop) .stop) .stop))) (by kernel_rfl) ?_)))
 have an:=bO.drew
 generalize hw_W6:({ W1 with drawn:=W1.drawn + 1 }:World)=W6 at an ⊢
 refine oL Z (an.ldBA (j:=0) Z Z Z Zo ZP (vs:=B0) Z Z) (oL Z (an.ldBA (j:=0) Z Z Z Zo ZP (vs:=B0) Z Z) (oM Z Z (oM Z Z (bnK hm fun x7 h8 bY=>zG 0 Z Z Z Z (zF Z Z Tryz.call107 (zA Z (zA Z zK)) Z) an (fun hs=>wGg p0 ah aj ai ak p1 W6 U hs bh bi h8) (.inr Z) ?_))))
 rintro bp cn cu au bk bK ⟨aw,bb,bw,rfl,rfl,bz⟩
 have bL:sW w U bp [.row aw bb 26 1 bw,.blk b2 87 B0] au:=bK
 have q:=bL.freezeRR (R:=wEH) (k:=0) rfl bz rfl (by decide)
 obtain ⟨aX,bm,bZ,bM⟩:=q
 have bN:sW w U aX [.blk b2 87 B0] au:=bM
 have bA:=bh.le bk
 have bB:=bA.le bm
 have bC:=bi.le bk
 have bD:=bC.le bm
 refine bnK bY fun ap bE bX=>zG 0 Z Z Z Z (zF Z Z Tryz.call27 (zA Z (zA Z zK)) Z) bN (fun hs=>wFD p0 ah aj ai ak x7 aw bb au aX hs bB bD bZ bE) (.inr Z) ?_
 rintro bq cp cw am cr bP ⟨az,be,aq,av,bg,rfl,rfl,bF⟩
 have bQ:sW w U bq [.row az be 3 1 (nA KL.encI ap.Cup.Points),.row aq av 26 1 bg,.blk b2 87 B0] am:=bP
 have q:=bQ.freezeR (k:=0) (n:=ap.Cup.Points.length) rfl (wAF (f:=KL.encI) (sz:=1) (fun _=>rfl) ap.Cup.Points) (by decide)
 obtain ⟨br,ci,cd,bR⟩:=q
 have bS:sW w U br [.row aq av 26 1 bg,.blk b2 87 B0] am:=bR
 have bG:=bF.le ci
 have q:=bS.freezeRR (R:=wEH) (k:=0) rfl bG rfl (by decide)
 obtain ⟨aY,cj,cg,bT⟩:=q
 have bU:sW w U aY [.blk b2 87 B0] am:=bT
 have bH:=cd.le cj
 refine bnK bX fun x61 bI bj=>zG 0 Z Z Z Z (zF Z Z Tryz.call30 (zA Z (zA Z zK)) Z) bU (fun hs=>wFE ap az be aq av p1 am aY hs bH cg bI) (.inr Z) ?_
 rintro aZ cq cx bu ct bV ⟨rfl,rfl⟩
 have bW:sW w U aZ [.blk b2 87 B0] bu:=bV
 refine oR Z (ZR Z Z Z) (oA Z Z (eN (zM ?_)))
 first | (obtain rfl:=nB bj) | cases bj
 exact ⟨rfl,_,(zi rfl),aZ,_,(bW.pick [] _ (by decide) rfl),rfl,rfl⟩
theorem wJJ  (w:World) (U:PHeap) (hS:St0 w U [])  {r:Unit} (hm:wEe =some r):Gv Tryz.prog 34 [] w (wBW w [] U (fun U_ L_ v=>v=.agg #[.func (.func 75) #[] #[]]/\L_=[])):=by
 unfold wEe at hm
 refine Gv.of Tryz.func34 Z Tryz.ntmps34 Tryz.results34 Z (sR (.fx 0 .nil .stop) Z (zq (cs:=[.nilFunc]) Z Z Z Z Z Tryz.zeroValue100 Z hS ?_))
 intro W1 b2 ai
 refine eN (sR gCc Z ?_)
 let B0:List Value:=[.func (.func 75) #[] #[]]
 refine oR Z (Zi (pv:=[(0,.func (.func 75) #[] #[])]) (z:=[.nilFunc]) (cs:=B0) Z (wAK Z wAb) Tryz.zeroValue100 wKy Z Z) (zo (j:=0) (vs:=B0) Z Z Z Z ai Z Z Z Z Tryz.sizeOf100 (zB Z) Z Z Z ?_)
 intro W5 aj
 have ae:sW w U U [.blk b2 100 B0] W5:=aj
 refine eN (zM ?_)
 cases hm
 exact ⟨rfl,_,(wJg (v:=.agg B0.toArray) ⟨⟨_,rfl,(wEL Tryz.isAgg100 Tryz.sizeOf100 (ae.blkAt (k:=0) rfl) (vs:=B0) rfl rfl)⟩,trivial⟩),U,_,(ae.pick [] _ (by decide) rfl),rfl,rfl⟩
theorem wEk (p0:wDH) (ao:Value) (p1:wAQ) (au:Option Addr) (aw:Nat) (av:Option Addr) (az:Nat) (w:World) (U:PHeap) (hS:St0 w U []) (cd:FnOK Tryz.prog U ao ar98 rr98 p0.is) (cg:Sl U 1 au aw p1.Cup.Points.length (nA KL.encI p1.Cup.Points)) (ci:SlR U wEH av az p1.Cup.Done) {r:(List Int)} (hm:wBe p0 p1=some r):Gv Tryz.prog 35 [.agg #[ao],.agg #[jV p1.Cup.Skiers,jV p1.Cup.Races,jV p1.Cup.Best,.slice au p1.Cup.Points.length aw,.slice av p1.Cup.Done.length az]] w (wBW w [] U (fun U_ L_ v=>∃ (A0:Option Addr) (c0:Nat),v=.slice A0 r.length c0/\L_=[.row A0 c0 3 1 (nA KL.encI r)])):=by
 unfold wBe at hm
 refine Gv.of Tryz.func35 rfl Tryz.ntmps35 Tryz.results35 rfl (sR gCg rfl (ZA (cs:=[ao]) rfl rfl rfl rfl rfl rfl (by rfl) hS ?_))
 intro W1 b2 bT
 let B0:List Value:=[jV p1.Cup.Skiers,jV p1.Cup.Races,jV p1.Cup.Best,.slice au p1.Cup.Points.length aw,.slice av p1.Cup.Done.length az]
 refine ZA (cs:=B0) rfl rfl rfl rfl rfl rfl (by rfl) bT ?_
 intro W5 b6 bz
 refine oA Z Z (eN (sR fL1 Z (oA Z Z (eN (zH (sR fL4 Z (oR Z (zD Z Z zt Z zX) (oR Z (zD Z Z zY Z zC) (oL Z (bz.ldB (j:=0) Z Z Z zO (v:=jV p1.Cup.Skiers) Z) (oM Z Z (eN (zV (bnK hm fun cJ cj cn=>?_)))))))))))))
 have q:=wBr cj
 obtain ⟨bg,cm⟩:=q
 replace bg:=zI bg
 let B1:Res:=.blk b2 100 [ao]
 refine CK.forN' (fun ae am σ_ w_=>∃ (U_:PHeap) (ah:Option Addr) (ak:Nat),σ_ 10=jV (↑ae:Int)/\σ_ 2=.pointer (some ⟨b2,0,none⟩)/\σ_ 3=.pointer (some ⟨b6,0,none⟩)/\σ_ 5=.slice ah am.length ak/\σ_ 9=jV p1.Cup.Skiers/\PHeap.Le U U_/\sW w U U_ [.blk b6 87 B0,B1,.row ah ak 3 1 (nA KL.encI am)] w_) cm ?_ ?_ ?_
 have bU:=bz.nilrow 3 1
 exact ⟨U,none,0,rfl,rfl,rfl,rfl,rfl,(zU _),(bU.pick [1,2,0] _ (by decide) rfl)⟩
 rintro ae am cH cK cz be ⟨cx,ah,ak,aq,aY,aZ,bs,ba,an,bb⟩ cu
 have bq:Hid ((↑ae:Int) < p1.Cup.Skiers):=zI (wBq be)
 replace be:=zI be
 have bA:Hid (w64 ((↑ae:Int) + 1)=(↑(ae + 1):Int)):=zI (by have h1:=bg.out;have h2:=bq.out;rw [wAT] <;> omega)
 refine sR fL1 Z (oR Z (ze Z aq ba) (eN (zH (cT Z bq (kN (zH (zV (sR fL2 Z (oM Z aq (oA Z Z (eN (sR (wET (.fx 4 .nil .stop)) Z (oR Z (zD Z aY Tryz.runUnderlying100 Z Tryz.sizeOf98) (oL Z (bb.ldB (j:=1) Z Z Z Tryz.isAgg98 (v:=ao) Z) (oL Z (bb.ldBA (j:=0) Z Z aZ Zo ZP (vs:=B0) Z Z) (oM Z Z ?_))))))))))))))))
 have bO:=cg.le an
 have bP:=ci.le an
 refine bnK cu fun x52 bQ cp=>?_
 have bR:=cd.le an
 refine yF (a:=(p1,(↑ae:Int))) Z Z Z Z Z Z (zA Z (zA Z zK)) bb bR ⟨au,aw,av,az,Z,bO,bP⟩ bQ ?_
 rintro ai cw cG bF bB bV ⟨rfl,rfl⟩
 let B2:Res:=.row ah ak 3 1 (nA KL.encI am)
 have bu:sW w U ai [.blk b6 87 B0,B1,B2] bF:=bV
 refine eN (ifc cp ?_ ?_)
 intro aX cq
 refine zu (congrArg nN aX.out) (rR (.fl 0 (.fl 1 (.fx 2 gCd .stop))) Z (oM Z bs (oM Z Z (ZM (pv:=[(0,jV (↑ae:Int))]) (zs:=[jV 0]) (cs:=[jV (↑ae:Int)]) Z Z Z Z Z (wAK Z wAb) zL zC Zx Z Z Z Z Z bu ?_))))
 intro bG bI bW
 let B3:Res:=.row (some ⟨bI,0,none⟩) 1 3 1 (nA KL.encI [(↑ae:Int)])
 have bw:sW w U ai [B3,.blk b6 87 B0,B1,B2] bG:=bW
 refine bnK cq fun x70 bS cr=>Zv (j:=3) (enc:=KL.encI) (xs:=am) (ys:=[(↑ae:Int)]) (zs:=x70) rfl rfl rfl rfl rfl yK wJz rfl rfl rfl rfl rfl rfl bw rfl rfl rfl (bw.srcR (j:=0) rfl (by decide) (wAF (f:=KL.encI) (sz:=1) (fun _=>rfl) [(↑ae:Int)])) (fun _=>rfl) (fun _=>rfl) bS rfl ?_
 intro bi br bH bX
 have bY:sW w U ai [B3,.blk b6 87 B0,B1,.row bi br 3 1 (nA KL.encI x70)] bH:=bX
 refine oA Z Z (zk (zh (zJ (rR fL2 Z (oR Z (zw (zZ Z aq Z) (congrArg (jV) bA.out)) (oM Z Z (zk ?_)))))))
 cases cr
 exact zJ ⟨rfl,⟨ai,bi,br,rfl,aY,aZ,rfl,ba,(an.trans bB),(bY.pick [1,2,3] _ (by decide) rfl)⟩⟩
 intro aX ct
 refine zn (congrArg nN (nQ.2 aX.out)) (Zd (zh (zJ (rR fL2 Z (oR Z (zw (zZ Z aq Z) (congrArg (jV) bA.out)) (oM Z Z (zk ?_)))))))
 cases ct
 exact zJ ⟨Z,⟨ai,ah,ak,Z,aY,aZ,bs,ba,(an.trans bB),bu⟩⟩
 rintro cL cB ⟨bE,bD,bK,bN,cC,cD,bM,bL,cE,bZ⟩
 have bJ:Hid (¬ ((↑((p1.Cup.Skiers:Int) - 0).toNat:Int) < p1.Cup.Skiers)):=zI (wBH)
 refine sR fL1 Z (oR Z (ze Z bN bL) (eN (zH (cF Z bJ (ZD (zb (zb (zz (zJ (sR fL2 Z (oM Z bM (oA Z Z (eN (zM ?_))))))))))))))
 have hE:=nB cn;first | subst r | cases hE
 exact ⟨rfl,_,(zi rfl),bE,_,(bZ.pick [2] _ (by decide) rfl),bD,bK,rfl,rfl⟩
theorem wHR (p0:wAQ) (aj:Option Addr) (am:Nat) (ak:Option Addr) (an:Nat) (p1:Int) (w:World) (U:PHeap) (hS:St0 w U []) (cP:Sl U 1 aj am p0.Cup.Points.length (nA KL.encI p0.Cup.Points)) (cQ:SlR U wEH ak an p0.Cup.Done) {r:(List (List Int)) × Bool} (hm:wCc p0 p1=some r):Gv Tryz.prog 108 [.agg #[jV p0.Cup.Skiers,jV p0.Cup.Races,jV p0.Cup.Best,.slice aj p0.Cup.Points.length am,.slice ak p0.Cup.Done.length an],jV p1] w (wBW w [] U (fun U_ L_ v=>∃ (A0:Option Addr) (c0:Nat),v=.tuple #[.slice A0 r.1.length c0,.bool r.2]/\L_=[]/\SlR U_ wEH A0 c0 r.1)):=by
 unfold wCc at hm
 refine Gv.of Tryz.func108 Z Tryz.ntmps108 Tryz.results108 Z (sR gCh Z ?_)
 let B0:List Value:=[jV p0.Cup.Skiers,jV p0.Cup.Races,jV p0.Cup.Best,.slice aj p0.Cup.Points.length am,.slice ak p0.Cup.Done.length an]
 refine ZA (cs:=B0) rfl rfl rfl rfl rfl rfl (by rfl) hS ?_
 intro W1 b2 bI
 refine oA Z Z (oA Z Z (eN (zH (sR fL4 Z (oR Z (zD Z Z zt Z zX) (oR Z (zD Z Z zY Z zC) (oL Z (bI.ldB (j:=0) Z Z Z zO (v:=jV p0.Cup.Skiers) Z) (oM Z Z (eN (zV ?_))))))))))
 have q:=wDo hm
 obtain ⟨r7,bj⟩:=q
 have q:=wDn bj
 obtain ⟨bm,cU⟩:=q
 replace bm:=zI bm
 refine yS (fun k6 _ σ_ w_=>∃ (U_:PHeap),σ_ 11=jV (↑k6:Int)/\σ_ 1=jV p1/\σ_ 2=.pointer (some ⟨b2,0,none⟩)/\σ_ 10=jV p0.Cup.Skiers/\PHeap.Le U U_/\sW w U U_ [.blk b2 87 B0] w_) cU ?_ ?_ ?_
 exact ⟨U,Z,Z,Z,Z,(zU _),bI⟩
 rintro k6 ⟨⟩ dC dE bU bk ⟨bR,au,ap,aq,bh,av,bH⟩ bN cS
 try dsimp only at bN
 have bC:Hid ((↑k6:Int) < p0.Cup.Skiers):=zI (wBq bk)
 replace bk:=zI bk
 have bK:Hid (w64 ((↑k6:Int) + 1)=(↑(k6 + 1):Int)):=zI (by have h1:=bm.out;have h2:=bC.out;rw [wAT] <;> omega)
 refine sR fL1 Z (oR Z (ze Z au bh) (eN (zH (cT Z bC (kN (zH (zV (sR fL2 Z (oM Z au (oA Z Z (eN (sR (.fl 0 (.fl 1 (.fx 2 (.fl 3 .nil) .stop))) Z (oL Z (bH.ldBA (j:=0) Z Z aq Zo ZP (vs:=B0) Z Z) (oM Z Z ?_))))))))))))))
 have bF:=cP.le av
 have bG:=cQ.le av
 refine bnK bN fun x28 cn cW=>zG 0 Z Z Z Z (zF Z Z Tryz.call107 (zA Z (zA Z zK)) Z) bH (fun hs=>wGg p0 aj am ak an (↑k6:Int) bU bR hs bF bG cn) (.inr Z) ?_
 rintro bw dm dz ba aw cC ⟨aX,bb,bX,rfl,rfl,cp⟩
 have bi:sW w U bw [.row aX bb 26 1 bX,.blk b2 87 B0] ba:=cC
 refine oA Z Z (eN (sR (wLT (.fx 6 (.fl 7 (.fx 8 (.fl 9 (.fl 10 .nil)) .stop)) .stop)) Z (oM Z Z (oM Z ap (oR Z (Zs Z Z Z) (oM Z Z (ifc cW ?_ ?_)))))))
 intro ae cX
 refine zp Z Z Z (zW Z Z (ZI (fun h=>h ae.out)) Z) (zp Z Z Z (zW Z Z (ZI (fun h=>h ae.out)) Z) (ZO Z Z Z (zW Z Z (ZI (fun h=>h ae.out)) Z) (zp Z Z Z (zW Z Z (ZI (fun h=>h ae.out)) Z) (ZO Z Z Z (zW Z Z (ZI (fun h=>h ae.out)) Z) (zp Z Z Z (zW Z Z (ZI (fun h=>h ae.out)) Z) (oR Z (zR Z (ZI (fun h=>h ae.out)) Z) (eN (zn Z (Zd (zh (zJ (rR fL2 Z (oR Z (zw (zZ Z au Z) (congrArg (jV) bK.out)) (oM Z Z (zk ?_)))))))))))))))
 have q:=nB cX
 obtain rfl:=q
 exact zJ ⟨rfl,_,rfl,⟨bw,rfl,ap,aq,bh,(av.trans aw),(bi.pick [1] _ (by decide) rfl)⟩⟩
 intro ae cY
 refine zr Z Z Z (wT Z ae) (bi.ldBA (j:=1) Z Z aq Zo ZP (vs:=B0) Z Z) Z (zQ Z Z Z (wT Z ae) Z Z ?_)
 have q:=bi.freezeRR (R:=wEH) (k:=0) rfl cp rfl (by decide)
 obtain ⟨bz,bp,bM,cD⟩:=q
 have cE:sW w U bz [.blk b2 87 B0] ba:=cD
 have cq:=bF.le aw
 have cr:=cq.le bp
 have ct:=bG.le aw
 have cu:=ct.le bp
 refine bnK cY fun x55 cw cZ=>zG 0 Z Z Z (wT Z ae) (zF Z Z Tryz.call27 (zA Z (zA Z zK)) Z) cE (fun hs=>wFD p0 aj am ak an x28 aX bb ba bz hs cr cu bM cw) (.inr Z) ?_
 rintro bS dp dA ao bO cG ⟨bu,bD,aY,be,bE,rfl,rfl,cx⟩
 have cH:sW w U bS [.row bu bD 3 1 (nA KL.encI x55.Cup.Points),.row aY be 26 1 bE,.blk b2 87 B0] ao:=cG
 refine zQ Z Z Z (wT Z ae) Z ap ?_
 have q:=cH.freezeR (k:=0) (n:=x55.Cup.Points.length) rfl (wAF (f:=KL.encI) (sz:=1) (fun _=>rfl) x55.Cup.Points) (by decide)
 obtain ⟨bT,bq,df,cJ⟩:=q
 have cK:sW w U bT [.row aY be 26 1 bE,.blk b2 87 B0] ao:=cJ
 have cy:=cx.le bq
 have q:=cK.freezeRR (R:=wEH) (k:=0) rfl cy rfl (by decide)
 obtain ⟨bA,br,dg,cL⟩:=q
 have cM:sW w U bA [.blk b2 87 B0] ao:=cL
 have cz:=df.le br
 refine bnK cZ fun x85 cA da=>zG 0 Z Z Z (wT Z ae) (zF Z Z Tryz.call30 (zA Z (zA Z zK)) Z) cM (fun hs=>wFE x55 bu bD aY be p1 ao bA hs cz dg cA) (.inr Z) ?_
 rintro aZ dr dB bV bP cN ⟨rfl,rfl⟩
 have bJ:sW w U aZ [.blk b2 87 B0] bV:=cN
 refine rU Z (wT Z ae) (Zz Z Z Z) (oR Z (zj Z (ZU ae.out) Z) (eN (ifc da ?_ ?_)))
 intro bg db
 refine cT Z bg (sR fL3 Z (oM Z Z (oA Z Z (oA Z Z (eN (zM (zf (zN ?_))))))))
 have q:=wAS db
 obtain ⟨dh,de,bY⟩:=q
 have q:=wCa hm bj (cS dh bY)
 obtain rfl:=q
 refine zN (zf (zN ?_))
 have cg:=bM.le bO
 have ci:=cg.le bq
 have cj:=ci.le br
 have cm:=cj.le bP
 cases de
 exact ⟨rfl,_,(wLV rfl rfl),aZ,_,(bJ.pick [] _ (by decide) rfl),aX,bb,rfl,rfl,cm⟩
 intro bg cV
 refine cF Z bg (Zd (zh (zJ (rR fL2 Z (oR Z (zw (zZ Z au Z) (congrArg (jV) bK.out)) (oM Z Z (zk ?_)))))))
 have q:=nB cV
 obtain rfl:=q
 exact zJ ⟨Z,_,Z,⟨aZ,Z,ap,aq,bh,((((((av.trans aw).trans bp).trans bO).trans bq).trans br).trans bP),bJ⟩⟩
 rintro ⟨⟩ dD du ⟨bQ,cd,dv,dw,bZ,dx,cB⟩ cR
 have bL:=wEt hm bj cR
 try dsimp only at bL
 have bW:Hid (¬ ((↑((p0.Cup.Skiers:Int) - 0).toNat:Int) < p0.Cup.Skiers)):=zI (wBH)
 refine sR fL1 Z (oR Z (ze Z cd bZ) (eN (zH (cF Z bW (ZD (zb (zb (zz (zJ (sR fL2 Z (oA Z Z (oA Z Z (eN (zM ?_))))))))))))))
 cases bL
 exact ⟨rfl,_,(wLV rfl rfl),bQ,_,(cB.pick [] _ (by decide) rfl),none,0,rfl,rfl,(by first | exact Sl.nil _ _ _ _ | exact SlR.nil)⟩
theorem wIv (p0:wAQ) (ae:Option Addr) (ah:Nat) (ag:Option Addr) (ai:Nat) (p1:Int) (w:World) (U:PHeap) (hS:St0 w U []) (aZ:Sl U 1 ae ah p0.Cup.Points.length (nA KL.encI p0.Cup.Points)) (ba:SlR U wEH ag ai p0.Cup.Done) {r:Bool} (hm:wBz p0 p1=some r):Gv Tryz.prog 76 [.agg #[jV p0.Cup.Skiers,jV p0.Cup.Races,jV p0.Cup.Best,.slice ae p0.Cup.Points.length ah,.slice ag p0.Cup.Done.length ai],jV p1] w (wBW w [] U (fun U_ L_ v=>v=.bool r/\L_=[])):=by
 unfold wBz at hm
 refine Gv.of Tryz.func76 Z Tryz.ntmps76 Tryz.results76 Z (sR gBz Z ?_)
 let B0:List Value:=[jV p0.Cup.Skiers,jV p0.Cup.Races,jV p0.Cup.Best,.slice ae p0.Cup.Points.length ah,.slice ag p0.Cup.Done.length ai]
 refine ZA (cs:=B0) rfl rfl rfl rfl rfl rfl (by rfl) hS ?_
 intro W1 b2 an
 refine oA Z Z (eN (sR (.fl 0 (.fl 1 (.fx 2 (wQv (.nil)) .stop))) Z (oL Z (an.ldBA (j:=0) Z Z Z Zo ZP (vs:=B0) Z Z) (oM Z Z ?_))))
 have q:=bnd hm
 obtain ⟨⟨x5,x6⟩,h7,ao⟩:=q
 try dsimp only at ao
 refine zG 0 Z Z Z Z (zF Z Z Tryz.call108 (zA Z (zA Z zK)) Z) an (fun hs=>wHR p0 ae ah ag ai p1 W1 U hs aZ ba h7) (.inr Z) ?_
 rintro U9 bg bj au bi aX ⟨ap,aw,rfl,rfl,bh⟩
 have aY:sW w U U9 [.blk b2 87 B0] au:=aX
 refine oM Z Z (oR Z (ZB Z Z (v:=.slice ap x5.length aw) Z) (oR Z (ZB Z Z (v:=.bool x6) Z) (oA Z Z (oA Z Z (eN (sR fL3 Z (oM Z Z (oR Z (ZX Z Z) (oA Z Z (eN (zM ?_)))))))))))
 cases ao
 exact ⟨rfl,_,(zi rfl),U9,_,(aY.pick [] _ (by decide) rfl),rfl,rfl⟩
theorem wKJ  (w:World) (U:PHeap) (hS:St0 w U [])  {r:Unit} (hm:wEy =some r):Gv Tryz.prog 36 [] w (wBW w [] U (fun U_ L_ v=>v=.agg #[.func (.func 76) #[] #[]]/\L_=[])):=by
 unfold wEy at hm
 refine Gv.of Tryz.func36 Z Tryz.ntmps36 Tryz.results36 Z (sR (.fx 0 .nil .stop) Z (zq (cs:=[.nilFunc]) Z Z Z Z Z Tryz.zeroValue100 Z hS ?_))
 intro W1 b2 ai
 refine eN (sR gCc Z ?_)
 let B0:List Value:=[.func (.func 76) #[] #[]]
 refine oR Z (Zi (pv:=[(0,.func (.func 76) #[] #[])]) (z:=[.nilFunc]) (cs:=B0) Z (wAK Z wAb) Tryz.zeroValue100 wKy Z Z) (zo (j:=0) (vs:=B0) Z Z Z Z ai Z Z Z Z Tryz.sizeOf100 (zB Z) Z Z Z ?_)
 intro W5 aj
 have ae:sW w U U [.blk b2 100 B0] W5:=aj
 refine eN (zM ?_)
 cases hm
 exact ⟨rfl,_,(wJg (v:=.agg B0.toArray) ⟨⟨_,rfl,(wEL Tryz.isAgg100 Tryz.sizeOf100 (ae.blkAt (k:=0) rfl) (vs:=B0) rfl rfl)⟩,trivial⟩),U,_,(ae.pick [] _ (by decide) rfl),rfl,rfl⟩
theorem wHS (p0:wAU) (bp:Option Addr) (br:Nat) (bq:Option Addr) (bs:Nat) (w:World) (U:PHeap) (hS:St0 w U []) (dE:Sl U 1 bp br p0.Points.length (nA KL.encI p0.Points)) (dF:SlR U wEH bq bs p0.Done) {r:Int × Int × Int} (hm:wDg p0=some r):Gv Tryz.prog 15 [.agg #[jV p0.Skiers,jV p0.Races,jV p0.Best,.slice bp p0.Points.length br,.slice bq p0.Done.length bs]] w (wBW w [] U (fun U_ L_ v=>v=.tuple #[jV r.1,jV r.2.1,jV r.2.2]/\L_=[])):=by
 unfold wDg at hm
 refine Gv.of Tryz.func15 Z Tryz.ntmps15 Tryz.results15 Z (sR (.fx 0 (fC1_3 (.nil)) .stop) Z ?_)
 let B0:List Value:=[jV p0.Skiers,jV p0.Races,jV p0.Best,.slice bp p0.Points.length br,.slice bq p0.Done.length bs]
 refine ZA (cs:=B0) rfl rfl rfl rfl rfl rfl (by rfl) hS ?_
 intro W1 b2 cg
 refine oA Z Z (oA Z Z (oA Z Z (eN (CK.scope (sR (.fl 0 (.fx 1 (wPl gCi) .stop)) Z (oL Z (cg.ldBA (j:=0) Z Z Z ZG zX (vs:=B0) Z Z) ?_))))))
 have q:=bnd hm
 obtain ⟨⟨x5,x6⟩,h7,cr⟩:=q
 try dsimp only at cr
 refine zG 0 Z Z Z Z (zF Z Z Tryz.call26 (zA Z zK) Z) cg (fun hs=>wFn p0 bp br bq bs W1 U hs dE dF h7) (.inr Z) ?_
 rintro U9 er eP cA eJ dr ⟨au,az,ai,aj,rfl,rfl,cV,cW⟩
 have du:sW w U U9 [.blk b2 29 B0] cA:=dr
 refine oM Z Z (oR Z (ZB Z Z (v:=.agg #[jV x5.Cup.Skiers,jV x5.Cup.Races,jV x5.Cup.Best,.slice au x5.Cup.Points.length az,.slice ai x5.Cup.Done.length aj]) Z) (oR Z (ZB Z Z (v:=jV x6) Z) ?_))
 let B1:List Value:=[jV 0,jV 0,jV 0,.slice none 0 0,.slice none 0 0]
 refine zq (cs:=B1) Z Z Z Z Z yG Z du ?_
 intro eD am dv
 let B2:List Value:=[jV x5.Cup.Skiers,jV x5.Cup.Races,jV x5.Cup.Best,.slice au x5.Cup.Points.length az,.slice ai x5.Cup.Done.length aj]
 refine zo (j:=0) (vs:=B2) Z Z Z Z dv Z Z Z Z ZP (zB Z) Z Z Z ?_
 intro cB dw
 have bJ:sW w U U9 [.blk am 87 B2,.blk b2 29 B0] cB:=dw
 refine oA Z Z (eN (zH (sR fL2 Z (oM Z Z (oR Z (Zs Z Z Z) (eN (ifc cr ?_ ?_)))))))
 intro bF bN
 refine zn (ZI (fun h=>h bF.out)) (kN (sR fL1 Z (oA Z Z (eN (zH (CK.label (zJ (zH (sR fL6 Z (oR Z (zD Z Z zt Z zX) (oR Z (zD Z Z zY Z ZV) (oL Z (bJ.ldB (j:=0) Z Z Z Zq (v:=.slice ai x5.Cup.Done.length aj) Z) (oR Z (zy Z Z zx) (oR Z (zZ Z Z Z) (oM Z Z (eN (zV ?_)))))))))))))))))
 have q:=wDo bN
 obtain ⟨eM,bK⟩:=q
 have q:=wDn bK
 obtain ⟨bM,dL⟩:=q
 replace bM:=zI bM
 refine yS (fun aq _ σ_ w_=>∃ (U_:PHeap),σ_ 24=jV (↑aq:Int)/\σ_ 2=jV 0/\σ_ 5=.pointer (some ⟨am,0,none⟩)/\σ_ 6=jV (-1)/\σ_ 23=jV (w64 ((↑x5.Cup.Done.length:Int) + 1))/\PHeap.Le U9 U_/\sW w U U_ [.blk am 87 B2,.blk b2 29 B0] w_) dL ?_ ?_ ?_
 exact ⟨U9,Z,Z,Z,Z,Z,(zU _),bJ⟩
 rintro aq ⟨⟩ eT eV eE bL ⟨ba,bg,bV,be,bW,bG,bj,ci⟩ ct dJ
 try dsimp only at ct
 have bU:Hid ((↑aq:Int) < (w64 ((↑x5.Cup.Done.length:Int) + 1))):=zI (wBq bL)
 replace bL:=zI bL
 have cm:Hid (w64 ((↑aq:Int) + 1)=(↑(aq + 1):Int)):=zI (by have h1:=bM.out;have h2:=bU.out;rw [wAT] <;> omega)
 refine sR fL1 Z (oR Z (ze Z bg bG) (eN (zH (cT Z bU (kN (zH (zV (sR fL2 Z (oM Z bg (oA Z Z (eN (sR (.fl 0 (.fx 1 (.fx 2 .nil .stop) .stop)) Z (oL Z (ci.ldBA (j:=0) Z Z be Zo ZP (vs:=B2) Z Z) (zq (cs:=B1) Z Z Z Z Z yG Z ci ?_))))))))))))))
 intro eF ap dx
 refine zo (j:=0) (vs:=B2) Z Z Z Z dx Z Z Z Z ZP (zB Z) Z Z Z ?_
 intro cC dy
 have cj:sW w U ba [.blk ap 87 B2,.blk am 87 B2,.blk b2 29 B0] cC:=dy
 refine eN (sR (wML (.fx 7 .nil .stop)) Z (oR Z (zD Z be zt Z zX) (oR Z (zD Z Z zY Z ZV) (oL Z (cj.ldB (j:=1) Z Z Z Zq (v:=.slice ai x5.Cup.Done.length aj) Z) (oM Z Z (bnK ct fun x60 cX dX=>?_))))))
 have bX:=cW.le bj
 have q:=SlR.cutM (R:=wEH) bX cX
 obtain ⟨aY,dG,dH,dK,dZ⟩:=q
 replace aY:SlR ba wEH (if aj=(0:Int).toNat then ai else nR (·.add ((0:Int).toNat * 1)) ai) (aj - (0:Int).toNat) x60:=aY
 refine za (v:=.slice (if aj=(0:Int).toNat then ai else nR (·.add ((0:Int).toNat * 1)) ai) x60.length (aj - (0:Int).toNat)) rfl rfl rfl rfl (fun _=>zw (Runs.slc (sz:=1) (a:=0) (b:=(↑aq:Int)) rfl rfl (.inr ⟨rfl,rfl⟩) (.inl ⟨_,rfl,rfl⟩) zx Zc dG dH dK (bX).cap) (by rw [dZ])) ?_
 generalize hA_A64:(if aj=(0:Int).toNat then ai else nR (·.add ((0:Int).toNat * 1)) ai)=aZ at aY ⊢
 generalize hc_c65:aj - (0:Int).toNat=bb at aY ⊢
 refine oR Z (zD Z Z zt Z zX) (oR Z (zD Z Z zY Z ZV) (zo (j:=0) (vs:=[.slice aZ x60.length bb]) Z Z Z Z cj Z Z Z Z ZV (zB Z) Z Z Z ?_))
 intro bC dz
 let B3:List Value:=[jV x5.Cup.Skiers,jV x5.Cup.Races,jV x5.Cup.Best,.slice au x5.Cup.Points.length az,.slice aZ x60.length bb]
 have dA:sW w U ba [.blk ap 87 B3,.blk am 87 B2,.blk b2 29 B0] bC:=dz
 refine eN (zH (ZT ZH [2,1,2,2,1,2,3,3] (.fl 1 (.fl 4 (.fx 0 (.fx 2 (.fx 3 (.fx 5 (.fl 6 (.fl 7 .nil)) .stop) .stop) .stop) .stop))) (by kernel_rfl) ?_))
 have bh:=dA.drew
 generalize hw_W77:({ bC with drawn:=bC.drawn + 1 }:World)=cD at bh ⊢
 refine oL Z (bh.ldBA (j:=0) Z Z Z Zo ZP (vs:=B3) Z Z) (oL Z (bh.ldBA (j:=0) Z Z Z Zo ZP (vs:=B3) Z Z) ?_)
 have q:=bnd dX
 obtain ⟨⟨⟩,cZ,cq⟩:=q
 try dsimp only at cq
 refine zG 0 Z Z Z Z (zF Z Z Tryz.call34 zK Z) bh (fun hs=>wJJ cD ba hs cZ) (.inr Z) ?_
 rintro bA ey eR bS bk dB ⟨rfl,rfl⟩
 have dC:sW w U bA [.blk ap 87 B3,.blk am 87 B2,.blk b2 29 B0] bS:=dB
 have df:FnOK Tryz.prog bA (.func (.func 75) #[] #[]) ar98 rr98 (fun x=>wCP x.1 x.2):=⟨75,[],[],rfl,Tryz.call75,fun U1 w1 x y vs le hs ha hm=>by obtain ⟨pA_0_0_3,pc_0_0_3,pA_0_0_4,pc_0_0_4,rfl,hq0_0,hq0_1⟩:=ha;exact wJI x.1 pA_0_0_3 pc_0_0_3 pA_0_0_4 pc_0_0_4 x.2 w1 U1 hs hq0_0 hq0_1 hm⟩
 have da:=cV.le bj
 have bY:=da.le bk
 have bZ:=aY.le bk
 refine bnK cq fun x91 db dY=>zG 0 Z Z Z Z (zF Z Z Tryz.call35 (zA Z (zA Z zK)) Z) dC (fun hs=>wEk (⟨(fun x=>wCP x.1 x.2)⟩:wDH) (.func (.func 75) #[] #[]) (⟨(⟨x5.Cup.Skiers,x5.Cup.Races,x5.Cup.Best,x5.Cup.Points,x60⟩:wAU)⟩:wAQ) au az aZ bb bS bA hs df bY bZ db) (.inr Z) ?_
 rintro bQ eA eS bT bm dD ⟨cw,cE,rfl,rfl⟩
 let B4:Res:=.row cw cE 3 1 (nA KL.encI x91)
 have dg:sW w U bQ [B4,.blk ap 87 B3,.blk am 87 B2,.blk b2 29 B0] bT:=dD
 have q:=bnd dY
 obtain ⟨⟨⟩,cN,cn⟩:=q
 try dsimp only at cn
 refine zG 0 Z Z Z Z (zF Z Z Tryz.call36 zK Z) dg (fun hs=>wKJ bT bQ hs cN) (.inr Z) ?_
 rintro bz eu eO bR bi dh ⟨rfl,rfl⟩
 have dm:sW w U bz [B4,.blk ap 87 B3,.blk am 87 B2,.blk b2 29 B0] bR:=dh
 have de:FnOK Tryz.prog bz (.func (.func 76) #[] #[]) ar98 rr98 (fun x=>wBz x.1 x.2):=⟨76,[],[],rfl,Tryz.call76,fun U1 w1 x y vs le hs ha hm=>by obtain ⟨pA_0_0_3,pc_0_0_3,pA_0_0_4,pc_0_0_4,rfl,hq0_0,hq0_1⟩:=ha;exact wIv x.1 pA_0_0_3 pc_0_0_3 pA_0_0_4 pc_0_0_4 x.2 w1 U1 hs hq0_0 hq0_1 hm⟩
 have cP:=bY.le bm
 have cQ:=cP.le bi
 have cR:=bZ.le bm
 have cS:=cR.le bi
 refine bnK cn fun x118 cU dN=>zG 0 Z Z Z Z (zF Z Z Tryz.call35 (zA Z (zA Z zK)) Z) dm (fun hs=>wEk (⟨(fun x=>wBz x.1 x.2)⟩:wDH) (.func (.func 76) #[] #[]) (⟨(⟨x5.Cup.Skiers,x5.Cup.Races,x5.Cup.Best,x5.Cup.Points,x60⟩:wAU)⟩:wAQ) au az aZ bb bR bz hs de cQ cS cU) (.inr Z) ?_
 rintro av ew eQ bB cu dp ⟨cx,cG,rfl,rfl⟩
 have bI:sW w U av [.row cx cG 3 1 (nA KL.encI x118),B4,.blk ap 87 B3,.blk am 87 B2,.blk b2 29 B0] bB:=dp
 refine oA Z Z (oA Z Z (eN (sR fL8 Z (oM Z Z (oR Z (zy Z Z zL) (oR Z (Zz Z Z Z) (oM Z Z (ifc dN ?_ ?_))))))))
 intro an dO
 refine zQ Z Z Z (wT Z an) Z Z (rU Z (wT Z an) (zy Z Z zL) (rU Z (wT Z an) (ZR Z Z Z) (oR Z (zj Z (ZU an.out) Z) (eN (ifc dO ?_ ?_)))))
 intro bD dP
 refine cT Z bD (zH (ZT ZH [3,3,3,1,3,3] fL6 (by kernel_rfl) ?_))
 have aX:=bI.drew
 generalize hw_W136:({ bB with drawn:=bB.drawn + 1 }:World)=eB at aX ⊢
 refine oM Z Z (oM Z Z (bnK dP fun _ bH dQ=>?_))
 have q:=aX.rowSome (j:=0) rfl (by rw [wAF (f:=KL.encI) (sz:=1) (fun _=>rfl) x118];have hz:=wAR bH;omega)
 obtain ⟨eG,cd⟩:=q
 refine oR Z (ZZ Z Z cd Z zL zC (wAR bH)) ?_
 have dM:=wBt (xs:=x118) (wAR bH)
 refine zr rfl rfl rfl rfl (aX.ldR (j:=0) rfl cd rfl rfl zO (wAs (sz:=1) (fun _=>rfl) _ _ 0 _ dM (by first | omega | rfl | simp) rfl)) rfl (Ze rfl rfl rfl rfl rfl rfl (Ze rfl rfl rfl rfl rfl rfl (eN (ZD (wMN (zb ?_))))))
 have q:=wAS dQ
 obtain ⟨eh,dR,cJ⟩:=q
 have q:=wCa bN bK (dJ eh cJ)
 obtain rfl:=q
 refine zb (zz (zJ (zH (sR fL2 Z (oM Z Z (oR Z (ze Z Z Z) (eN (ifc dR ?_ ?_))))))))
 intro bE dS
 refine cT Z bE (sR fL3 Z (oA Z Z (oA Z Z (oA Z Z (eN (zM (zN (wIG ?_))))))))
 cases dS
 exact ⟨rfl,_,(res3 rfl rfl rfl),av,_,(aX.pick [] _ (by decide) rfl),rfl,rfl⟩
 intro bE dT
 refine cF Z bE (kN (sR fL5 Z (oM Z Z (oM Z Z (oA Z Z (oA Z Z (oA Z Z (eN (zM (wIG ?_))))))))))
 cases dT
 exact ⟨rfl,_,(res3 rfl rfl rfl),av,_,(aX.pick [] _ (by decide) rfl),rfl,rfl⟩
 intro bD dU
 refine cF Z bD (Zd (zh (zJ (rR fL2 Z (oR Z (zw (zZ Z bg Z) (congrArg (jV) cm.out)) (oM Z Z (zk ?_)))))))
 have q:=nB dU
 obtain rfl:=q
 exact zJ ⟨rfl,_,rfl,⟨av,rfl,bV,be,bW,bG,((((bj.trans bk).trans bm).trans bi).trans cu),(bI.pick [3,4] _ (by decide) rfl)⟩⟩
 intro an dV
 refine oF Z an (oF Z an (oF Z an (oR Z (zR Z (ZI an.out) Z) (eN (zn Z (Zd (zh (zJ (rR fL2 Z (oR Z (zw (zZ Z bg Z) (congrArg (jV) cm.out)) (oM Z Z (zk ?_))))))))))))
 have q:=nB dV
 obtain rfl:=q
 exact zJ ⟨rfl,_,rfl,⟨av,rfl,bV,be,bW,bG,((((bj.trans bk).trans bm).trans bi).trans cu),(bI.pick [3,4] _ (by decide) rfl)⟩⟩
 rintro ⟨⟩ eU eC ⟨cy,cM,eH,eI,cK,cL,eK,dt⟩ dI
 have cp:=wEt bN bK dI
 try dsimp only at cp
 have cH:Hid (¬ ((↑((w64 ((↑x5.Cup.Done.length:Int) + 1):Int) - 0).toNat:Int) < (w64 ((↑x5.Cup.Done.length:Int) + 1)))):=zI (wBH)
 refine sR fL1 rfl (za rfl rfl rfl rfl (fun _=>ze rfl cM cL) (eN (zH (cF Z cH (ZD (zb (zb (zz (zJ (zH (sR fL2 rfl (zQ rfl rfl rfl rfl rfl cK (za rfl rfl rfl rfl (fun _=>ze rfl rfl rfl) (eN (zu (ZU (by decide)) (sR fL3 rfl (Ze rfl rfl rfl rfl rfl rfl (Ze rfl rfl rfl rfl rfl rfl (Ze rfl rfl rfl rfl rfl rfl (eN (zM (zN (wIG ?_)))))))))))))))))))))))
 cases cp
 exact ⟨rfl,_,(res3 rfl rfl rfl),cy,_,(dt.pick [] _ (by decide) rfl),rfl,rfl⟩
 intro bF dW
 refine cT Z bF (sR fL4 Z (oM Z Z (oA Z Z (oA Z Z (oA Z Z (eN (zM (zN (wIG ?_)))))))))
 cases dW
 exact ⟨rfl,_,(res3 rfl rfl rfl),U9,_,(bJ.pick [] _ (by decide) rfl),rfl,rfl⟩
set_option maxHeartbeats 4000000
theorem wHk (p0:wAQ) (an:Option Addr) (ap:Nat) (ao:Option Addr) (aq:Nat) (w:World) (U:PHeap) (hS:St0 w U []) (bS:Sl U 1 an ap p0.Cup.Points.length (nA KL.encI p0.Cup.Points)) (bT:SlR U wEH ao aq p0.Cup.Done) {r:(List Int)} (hm:wDh p0=some r):Gv Tryz.prog 37 [.agg #[jV p0.Cup.Skiers,jV p0.Cup.Races,jV p0.Cup.Best,.slice an p0.Cup.Points.length ap,.slice ao p0.Cup.Done.length aq]] w (wBW w [] U (fun U_ L_ v=>∃ (A0:Option Addr) (c0:Nat),v=.slice A0 r.length c0/\L_=[.row A0 c0 3 1 (nA KL.encI r)])):=by
 unfold wDh at hm
 refine Gv.of Tryz.func37 Z Tryz.ntmps37 Tryz.results37 Z (sR gBz Z ?_)
 let B0:List Value:=[jV p0.Cup.Skiers,jV p0.Cup.Races,jV p0.Cup.Best,.slice an p0.Cup.Points.length ap,.slice ao p0.Cup.Done.length aq]
 refine ZA (cs:=B0) rfl rfl rfl rfl rfl rfl (by rfl) hS ?_
 intro W1 b2 bj
 refine oA Z Z (eN (sR fL1 Z (oA Z Z (eN (zH (sR fL4 Z (oR Z (zD Z Z zt Z zX) (oR Z (zD Z Z zY Z zC) (oL Z (bj.ldB (j:=0) Z Z Z zO (v:=jV p0.Cup.Skiers) Z) (oM Z Z (eN (zV (bnK hm fun ct bU bX=>?_)))))))))))))
 have q:=wBr bU
 obtain ⟨aw,bV⟩:=q
 replace aw:=zI aw
 refine CK.forN' (fun ag ai σ_ w_=>∃ (U_:PHeap) (aj:Option Addr) (am:Nat),σ_ 8=jV (↑ag:Int)/\σ_ 1=.pointer (some ⟨b2,0,none⟩)/\σ_ 3=.slice aj ai.length am/\σ_ 7=jV p0.Cup.Skiers/\PHeap.Le U U_/\sW w U U_ [.blk b2 87 B0,.row aj am 3 1 (nA KL.encI ai)] w_) bV ?_ ?_ ?_
 have bL:=bj.nilrow 3 1
 exact ⟨U,none,0,rfl,rfl,rfl,rfl,(zU _),(bL.pick [1,0] _ (by decide) rfl)⟩
 rintro ag ai cr cu bs av ⟨bq,aj,am,au,bh,bD,bi,az,bk⟩ cd
 have be:Hid ((↑ag:Int) < p0.Cup.Skiers):=zI (wBq av)
 replace av:=zI av
 have bW:Hid (w64 ((↑ag:Int) + 1)=(↑(ag + 1):Int)):=zI (by have h1:=aw.out;have h2:=be.out;rw [wAT] <;> omega)
 refine sR fL1 Z (oR Z (ze Z au bi) (eN (zH (cT Z be (kN (zH (zV (sR fL2 Z (oM Z au (oA Z Z (eN (rR (wDq (.fx 3 (.fl 4 gCi) .stop)) Z (oM Z bD (oL Z (bk.ldBA (j:=0) Z Z bh Zo ZP (vs:=B0) Z Z) (oM Z Z ?_)))))))))))))))
 have bH:=bS.le az
 have bI:=bT.le az
 refine bnK cd fun x47 bJ bY=>zG 0 Z Z Z Z (zF Z Z Tryz.call29 (zA Z (zA Z zK)) Z) bk (fun hs=>wEP p0 an ap ao aq (↑ag:Int) bs bq hs bH bI bJ) (.inr Z) ?_
 rintro ak ci cq bu cg bM ⟨rfl,rfl⟩
 let B1:Res:=.row aj am 3 1 (nA KL.encI ai)
 have bN:sW w U ak [.blk b2 87 B0,B1] bu:=bM
 refine oR Z (Runs.fld Z Z ZL Z (wEJ zO (v:=jV x47.total) Z)) (ZM (pv:=[(0,jV x47.total)]) (zs:=[jV 0]) (cs:=[jV x47.total]) Z Z Z Z Z (wAK Z wAb) zL zC Zx Z Z Z Z Z bN ?_)
 intro bw bA bO
 let B2:Res:=.row (some ⟨bA,0,none⟩) 1 3 1 (nA KL.encI [x47.total])
 have bm:sW w U ak [B2,.blk b2 87 B0,B1] bw:=bO
 refine bnK bY fun x62 bK bZ=>Zv (j:=2) (enc:=KL.encI) (xs:=ai) (ys:=[x47.total]) (zs:=x62) rfl rfl rfl rfl rfl yK wJz rfl rfl rfl rfl rfl rfl bm rfl rfl rfl (bm.srcR (j:=0) rfl (by decide) (wAF (f:=KL.encI) (sz:=1) (fun _=>rfl) [x47.total])) (fun _=>rfl) (fun _=>rfl) bK rfl ?_
 intro aY bg bz bP
 have bQ:sW w U ak [B2,.blk b2 87 B0,.row aY bg 3 1 (nA KL.encI x62)] bz:=bP
 refine oA Z Z (zk (zh (zJ (rR fL2 Z (oR Z (zw (zZ Z au Z) (congrArg (jV) bW.out)) (oM Z Z (zk ?_)))))))
 cases bZ
 exact zJ ⟨rfl,⟨ak,aY,bg,rfl,bh,rfl,bi,(az.trans cg),(bQ.pick [1,2] _ (by decide) rfl)⟩⟩
 rintro cw cm ⟨br,bp,bB,bG,cn,bE,bF,cp,bR⟩
 have bC:Hid (¬ ((↑((p0.Cup.Skiers:Int) - 0).toNat:Int) < p0.Cup.Skiers)):=zI (wBH)
 refine sR fL1 Z (oR Z (ze Z bG bF) (eN (zH (cF Z bC (ZD (zb (zb (zz (zJ (sR fL2 Z (oM Z bE (oA Z Z (eN (zM ?_))))))))))))))
 have hE:=nB bX;first | subst r | cases hE
 exact ⟨rfl,_,(zi rfl),br,_,(bR.pick [1] _ (by decide) rfl),bp,bB,rfl,rfl⟩
theorem wHp (p0:wAU) (aj:Option Addr) (am:Nat) (ak:Option Addr) (an:Nat) (w:World) (U:PHeap) (hS:St0 w U []) (bE:Sl U 1 aj am p0.Points.length (nA KL.encI p0.Points)) (bF:SlR U wEH ak an p0.Done) {r:(List Int) × Int} (hm:wEE p0=some r):Gv Tryz.prog 16 [.agg #[jV p0.Skiers,jV p0.Races,jV p0.Best,.slice aj p0.Points.length am,.slice ak p0.Done.length an]] w (wBW w [] U (fun U_ L_ v=>∃ (A0:Option Addr) (c0:Nat),v=.tuple #[.slice A0 r.1.length c0,jV r.2]/\L_=[.row A0 c0 3 1 (nA KL.encI r.1)])):=by
 unfold wEE at hm
 refine Gv.of Tryz.func16 Z Tryz.ntmps16 Tryz.results16 Z (sR gCh Z ?_)
 let B0:List Value:=[jV p0.Skiers,jV p0.Races,jV p0.Best,.slice aj p0.Points.length am,.slice ak p0.Done.length an]
 refine ZA (cs:=B0) rfl rfl rfl rfl rfl rfl (by rfl) hS ?_
 intro W1 b2 bh
 refine oA Z Z (oA Z Z (eN (sR (.fl 0 (.fx 1 (wPl gCi) .stop)) Z (oL Z (bh.ldBA (j:=0) Z Z Z ZG zX (vs:=B0) Z Z) ?_))))
 have q:=bnd hm
 obtain ⟨⟨x5,x6⟩,h7,bi⟩:=q
 try dsimp only at bi
 refine zG 0 Z Z Z Z (zF Z Z Tryz.call26 (zA Z zK) Z) bh (fun hs=>wFn p0 aj am ak an W1 U hs bE bF h7) (.inr Z) ?_
 rintro U9 bL bQ bk bO bu ⟨ao,au,ap,av,rfl,rfl,bp,bq⟩
 have bw:sW w U U9 [.blk b2 29 B0] bk:=bu
 refine oM Z Z (oR Z (ZB Z Z (v:=.agg #[jV x5.Cup.Skiers,jV x5.Cup.Races,jV x5.Cup.Best,.slice ao x5.Cup.Points.length au,.slice ap x5.Cup.Done.length av]) Z) (oR Z (ZB Z Z (v:=jV x6) Z) (zq (cs:=[jV 0,jV 0,jV 0,.slice none 0 0,.slice none 0 0]) Z Z Z Z Z yG Z bw ?_)))
 intro bN bb bz
 let B1:List Value:=[jV x5.Cup.Skiers,jV x5.Cup.Races,jV x5.Cup.Best,.slice ao x5.Cup.Points.length au,.slice ap x5.Cup.Done.length av]
 refine zo (j:=0) (vs:=B1) Z Z Z Z bz Z Z Z Z ZP (zB Z) Z Z Z ?_
 intro ba bA
 have az:sW w U U9 [.blk bb 87 B1,.blk b2 29 B0] ba:=bA
 refine oA Z Z (eN (zH (sR fL2 Z (oM Z Z (oR Z (Zs Z Z Z) (eN (ifc bi ?_ ?_)))))))
 intro aw bG
 refine zn (ZI (fun h=>h aw.out)) (kN (sR (.fl 0 (.fx 1 (.fl 2 (.fl 3 .nil)) .stop)) Z (oL Z (az.ldBA (j:=0) Z Z Z Zo ZP (vs:=B1) Z Z) (bnK bG fun bJ br bH=>zG 0 Z Z Z Z (zF Z Z Tryz.call37 (zA Z zK) Z) az (fun hs=>wHk x5 ao au ap av ba U9 hs bp bq br) (.inr Z) ?_))))
 rintro aZ bM bR bm bP bB ⟨aY,bg,rfl,rfl⟩
 have bC:sW w U aZ [.row aY bg 3 1 (nA KL.encI bJ),.blk bb 87 B1,.blk b2 29 B0] bm:=bB
 refine oA Z Z (oA Z Z (eN (zM ?_)))
 cases bH
 exact ⟨rfl,_,(wLV rfl rfl),aZ,_,(bC.pick [0] _ (by decide) rfl),aY,bg,rfl,rfl⟩
 intro aw bI
 refine cT Z aw (sR fL3 Z (oM Z Z (oA Z Z (oA Z Z (eN (zM (zN ?_)))))))
 have bD:=az.nilrow 3 1
 cases bI
 exact ⟨rfl,_,(wLV rfl rfl),U9,_,(bD.pick [0] _ (by decide) rfl),none,0,rfl,rfl⟩
theorem wGe (w:World) (U:PHeap) (hS:St0 w U []) {r:Bool} (hm:wEu=some r):Gv Tryz.prog 17 [] w (wBW w [] U (fun U_ L_ v=>v=.bool r/\L_=[])):=by
 cases hm
 refine (xr17 w).mono ?_
 rintro v w' ⟨rfl,k⟩
 exact ⟨U,[],hS.grow k,Z,Z⟩
theorem wFX (p0:List Int) (l9:Option Addr) (mb:Nat) (p1:List Int) (ma:Option Addr) (md:Nat) (p2:Int) (p3:Int) (w:World) (U:PHeap) (hS:St0 w U []) (IS:Sl U 1 l9 mb p0.length (nA KL.encB8 p0)) (IT:Sl U 1 ma md p1.length (nA KL.encB8 p1)) {r:Bool} (hm:wCE p0 p1 p2 p3=some r):Gv Tryz.prog 3 [.slice l9 p0.length mb,.slice ma p1.length md,.int .u8 p2,.int .u8 p3] w (wBW w [] U (fun U_ L_ v=>v=.bool r/\L_=[])):=by
 unfold wCE at hm
 refine Gv.of Tryz.func3 Z Tryz.ntmps3 Tryz.results3 Z (sR fL1 Z (oA Z Z (eN (sR (.fl 0 (.fx 1 (.fl 2 gCj) .stop)) Z (oM Z Z (bnK hm fun x1 h2 Kf=>zG 0 Z Z Z Z (zF Z Z Tryz.call4 (zA Z zK) Z) hS (fun hs=>wGO p0 l9 mb w U hs IS h2) (.inr Z) ?_))))))
 rintro U4 L5 v6 W7 KY IF ⟨aX,mw,pB,rfl,rfl,Ab⟩
 let B0:Res:=.blk aX 68 [.slice mw x1.bytes.length pB,jV x1.next,.int .u32 x1.state]
 have Hb:sW w U U4 [B0] W7:=IF
 refine oM Z Z ?_
 have Bo:=IT.le KY
 refine bnK Kf fun x17 C8 Jx=>zG 0 Z Z Z Z (zF Z Z Tryz.call4 (zA Z zK) Z) Hb (fun hs=>wGO p1 ma md W7 U4 hs Bo C8) (.inr Z) ?_
 rintro jC Ma Oq jO KR HS ⟨bz,mE,pI,rfl,rfl,FC⟩
 let B1:Res:=.blk bz 68 [.slice mE x17.bytes.length pI,jV x17.next,.int .u32 x17.state]
 have HW:sW w U jC [B1,B0] jO:=HS
 refine oA Z Z (oA Z Z (eN (sR (.fl 0 (.fx 1 (.fx 2 (.fl 3 gCe) .stop) .stop)) Z (oM Z Z ?_))))
 have FE:=Ab.le KR
 have q:=bnd Jx
 obtain ⟨⟨x33,iQ⟩,FF,sB⟩:=q
 try dsimp only at sB
 have H2:sW w U jC [B0,B1] jO:=HW.pick [1,0] _ (by decide) rfl
 refine zG 1 Z Z Z Z (zF Z Z Tryz.call5 (zA Z (zA Z (zA Z zK))) Z) H2 (fun hs=>wBZ x1 aX mw pB 1 4 jO jC hs FE FF) (.inl Z) ?_
 rintro fZ Mh Ov uh KT H4 ⟨mH,pM,rfl,rfl,FJ⟩
 let B2:Res:=.blk aX 68 [.slice mH iQ.bytes.length pM,jV iQ.next,.int .u32 iQ.state]
 have Ic:sW w U fZ [B2,B1] uh:=H4
 refine ZM (pv:=[(0,jV 30),(1,jV 24),(2,jV 19),(3,jV 15),(4,jV 12)]) (zs:=[jV 0,jV 0,jV 0,jV 0,jV 0]) (cs:=[jV 30,jV 24,jV 19,jV 15,jV 12]) Z Z Z Z Z (wAK Z (wAK Z (wAK Z (wAK Z (wAK Z wAb))))) zL zC Zx Z Z Z Z Z Ic ?_
 intro um ew If
 let B3:Res:=.row (some ⟨ew,0,none⟩) 5 3 1 (nA KL.encI [30,24,19,15,12])
 have Ig:sW w U fZ [B3,B2,B1] um:=If
 let B4:List Value:=[jV 0,jV 0,jV 0,.slice none 0 0,.slice none 0 0]
 let B5:List Value:=[jV 5,jV x33,jV 1,.slice (some ⟨ew,0,none⟩) 5 5,.slice none 0 0]
 refine oR Z (Zi (pv:=[(0,jV 5),(1,jV x33),(2,jV 1),(3,.slice (some ⟨ew,0,none⟩) 5 5)]) (z:=B4) (cs:=B5) Z (wAK Z (wAK Z (wAK Z (wAK Z wAb)))) Zt wII Z Z) (zq (cs:=B4) Z Z Z Z Z Zt Z Ig ?_)
 intro MJ ai Ih
 refine zo (j:=0) (vs:=B5) Z Z Z Z Ih Z Z Z Z zX (zB Z) Z Z Z ?_
 intro jP Ii
 have rV:sW w U fZ [.blk ai 29 B5,B3,B2,B1] jP:=Ii
 refine eN (sR (wDq gCk) Z (oM Z Z (oR Z (zD Z Z zY Z zC) (oL Z (rV.ldB (j:=0) Z Z Z zO (v:=jV x33) Z) ?_))))
 have q:=bnd sB
 obtain ⟨⟨x60,x61⟩,FL,sG⟩:=q
 try dsimp only at sG
 have Ij:sW w U fZ [B2,.blk ai 29 B5,B3,B1] jP:=rV.pick [2,0,1,3] _ (by decide) rfl
 refine zG 1 Z Z Z Z (zF Z Z Tryz.call5 (zA Z (zA Z (zA Z zK))) Z) Ij (fun hs=>wBZ iQ aX mH pM 1 x33 jP fZ hs FJ FL) (.inl Z) ?_
 rintro ib Ml Oy uo KW Ip ⟨mI,pN,rfl,rfl,FM⟩
 let B6:Res:=.blk aX 68 [.slice mI x61.bytes.length pN,jV x61.next,.int .u32 x61.state]
 have Iq:sW w U ib [B6,.blk ai 29 B5,B3,B1] uo:=Ip
 refine oR Z (zD Z Z zY Z zC) (zo (j:=1) (vs:=[jV x60]) Z Z Z Z Iq Z Z Z Z zC (zB Z) Z Z Z ?_)
 intro uq Ir
 let B7:List Value:=[jV 5,jV x33,jV x60,.slice (some ⟨ew,0,none⟩) 5 5,.slice none 0 0]
 have lS:sW w U ib [B6,.blk ai 29 B7,B3,B1] uq:=Ir
 refine eN (sR (.fl 0 (.fl 1 (.fx 2 (.fx 3 gCe .stop) .stop))) Z (oL Z (lS.ldBA (j:=1) Z Z Z ZG zX (vs:=B7) Z Z) (oL Z (lS.ldBA (j:=1) Z Z Z ZG zX (vs:=B7) Z Z) (zq (cs:=B4) Z Z Z Z Z Zt Z lS ?_))))
 intro ML aq It
 refine zq (cs:=B4) Z Z Z Z Z Zt Z It ?_
 intro MM aY Ix
 refine zo (j:=1) (vs:=B7) Z Z Z Z Ix Z Z Z Z zX (zB Z) Z Z Z ?_
 intro uu IB
 have IC:sW w U ib [.blk aY 29 B4,.blk aq 29 B7,B6,.blk ai 29 B7,B3,B1] uu:=IB
 refine zo (j:=0) (vs:=B7) Z Z Z Z IC Z Z Z Z zX (zB Z) Z Z Z ?_
 intro pd IG
 have rW:sW w U ib [.blk aY 29 B7,.blk aq 29 B7,B6,.blk ai 29 B7,B3,B1] pd:=IG
 refine eN (sR fL4 Z (oM Z Z (oR Z (Runs.cvw Z Z Tryz.runUnderlying5 yR Z Z) (bnK sG fun x92 FX bL=>oR Z (Runs.rem Z Z Z FX) (oA Z Z (eN (zH (sR fL3 Z (oR Z (zD Z Z zY Z zC) (oL Z (rW.ldB (j:=3) Z Z Z zO (v:=jV x33) Z) (oM Z Z (eN (zV ?_)))))))))))))
 have q:=rW.freezeR (k:=4) (n:=[30,24,19,15,12].length) rfl (wAF (f:=KL.encI) (sz:=1) (fun _=>rfl) [30,24,19,15,12]) (by decide)
 obtain ⟨jE,sK,lX,F6⟩:=q
 have F9:sW w U jE [.blk aY 29 B7,.blk aq 29 B7,B6,.blk ai 29 B7,B1] pd:=F6
 have q:=wDo bL
 obtain ⟨N7,bK⟩:=q
 have q:=wDn bK
 obtain ⟨lW,IY⟩:=q
 replace lW:=zI lW
 refine yS (fun bm (gD,gE,gF,eK,fB,gG,gH,gI,eM,fC,fD,iM,iN,gJ,gK,gL,eO,fE,fG,iO,iP) σ_ w_=>∃ (U_:PHeap) (eS:Option Addr) (fh:Nat) (eT:Option Addr) (fj:Nat) (eU:Option Addr) (fk:Nat) (eV:Option Addr) (fm:Nat) (fN:Option Addr) (f9:Nat) (eW:Option Addr) (ft:Nat) (eX:Option Addr) (fw:Nat) (fO:Option Addr) (ga:Nat),σ_ 63=jV (↑bm:Int)/\σ_ 3=.int .u8 p3/\σ_ 9=.pointer (some ⟨aX,0,none⟩)/\σ_ 10=.pointer (some ⟨bz,0,none⟩)/\σ_ 11=.pointer (some ⟨ai,0,none⟩)/\σ_ 12=.pointer (some ⟨aq,0,none⟩)/\σ_ 13=.pointer (some ⟨aY,0,none⟩)/\σ_ 14=jV x92/\σ_ 62=jV x33/\PHeap.Le jE U_/\sW w U U_ [.blk aY 29 [jV gD,jV gE,jV gF,.slice eS eK.length fh,.slice eT fB.length fj],.blk aq 29 [jV gG,jV gH,jV gI,.slice eU eM.length fk,.slice eV fC.length fm],.blk aX 68 [.slice fN fD.length f9,jV iM,.int .u32 iN],.blk ai 29 [jV gJ,jV gK,jV gL,.slice eW eO.length ft,.slice eX fE.length fw],.blk bz 68 [.slice fO fG.length ga,jV iO,.int .u32 iP]] w_/\Sl U_ 1 eS fh eK.length (nA KL.encI eK)/\SlR U_ wEH eT fj fB/\Sl U_ 1 eU fk eM.length (nA KL.encI eM)/\SlR U_ wEH eV fm fC/\Sl U_ 1 fN f9 fD.length (nA KL.encB8 fD)/\Sl U_ 1 eW ft eO.length (nA KL.encI eO)/\SlR U_ wEH eX fw fE/\Sl U_ 1 fO ga fG.length (nA KL.encB8 fG)) IY ?_ ?_ ?_
 have Fp:=FM.le sK
 have Fq:=FC.le KT
 have Fr:=Fq.le KW
 have Fs:=Fr.le sK
 exact ⟨jE,(some ⟨ew,0,none⟩),5,none,0,(some ⟨ew,0,none⟩),5,none,0,mI,pN,(some ⟨ew,0,none⟩),5,none,0,mE,pI,rfl,rfl,rfl,rfl,rfl,rfl,rfl,rfl,rfl,(zU _),F9,lX,(by first | exact Sl.nil _ _ _ _ | exact SlR.nil),lX,(by first | exact Sl.nil _ _ _ _ | exact SlR.nil),Fp,lX,(by first | exact Sl.nil _ _ _ _ | exact SlR.nil),Fs⟩
 rintro bm ⟨gD,gE,gF,eK,fB,gG,gH,gI,eM,fC,fD,iM,iN,gJ,gK,gL,eO,fE,fG,iO,iP⟩ ON OU o5 lU ⟨oq,eS,fh,eT,fj,eU,fk,eV,fm,fN,f9,eW,ft,eX,fw,fO,ga,ly,wA,qE,wB,wC,wD,wE,wG,qF,KS,HT,Ft,Fu,Fv,Fw,Fx,Fy,Fz,FA⟩ sJ bW
 try dsimp only at sJ
 have pJ:Hid ((↑bm:Int) < x33):=zI (wBq lU)
 replace lU:=zI lU
 have I5:Hid (w64 ((↑bm:Int) + 1)=(↑(bm + 1):Int)):=zI (by have h1:=lW.out;have h2:=pJ.out;rw [wAT] <;> omega)
 refine sR fL1 Z (oR Z (ze Z ly qF) (eN (zH (cT Z pJ (kN (zH (zV (sR fL2 Z (oM Z ly (oA Z Z (eN (sR (.fl 0 (.fx 1 (.fx 2 (.fx 3 .nil .stop) .stop) .stop)) Z (oM Z qE ?_)))))))))))))
 have q:=bnd sJ
 obtain ⟨⟨be,mg⟩,FB,sw⟩:=q
 try dsimp only at sw
 let B8:Res:=.blk aY 29 [jV gD,jV gE,jV gF,.slice eS eK.length fh,.slice eT fB.length fj]
 let B9:Res:=.blk aq 29 [jV gG,jV gH,jV gI,.slice eU eM.length fk,.slice eV fC.length fm]
 let ao:Res:=.blk ai 29 [jV gJ,jV gK,jV gL,.slice eW eO.length ft,.slice eX fE.length fw]
 let bi:Res:=.blk bz 68 [.slice fO fG.length ga,jV iO,.int .u32 iP]
 have HU:sW w U oq [.blk aX 68 [.slice fN fD.length f9,jV iM,.int .u32 iN],B8,B9,ao,bi] o5:=HT.pick [2,0,1,3,4] _ (by decide) rfl
 refine zG 1 Z Z Z Z (zF Z Z Tryz.call6 (zA Z (zA Z (zA Z zK))) Z) HU (fun hs=>wGs (⟨fD,iM,iN⟩:wAE) aX fN f9 5 10 o5 oq hs Fx FB) (.inl Z) ?_
 rintro fY Mg Ou uf dO HV ⟨i7,lg,cG,cM,mF,pK,rfl,rfl,FD⟩
 let bR:Res:=.row cG cM 42 6 (nA wAB be.Decisions)
 let mR:Res:=.blk aX 68 [.slice mF mg.bytes.length pK,jV mg.next,.int .u32 mg.state]
 let mS:Res:=.row i7 lg 37 2 (nA wAD be.Skiers)
 have HX:sW w U fY [mS,bR,mR,B8,B9,ao,bi] uf:=HV
 let cm:List Value:=[jV 0,.slice none 0 0,.slice none 0 0]
 refine zq (cs:=cm) Z Z Z Z Z Zg Z HX ?_
 intro MI bj HZ
 let mT:List Value:=[jV be.Deadline,.slice i7 be.Skiers.length lg,.slice cG be.Decisions.length cM]
 refine zo (j:=0) (vs:=mT) Z Z Z Z HZ Z Z Z Z zm (zB Z) Z Z Z ?_
 intro ug H0
 have H1:sW w U fY [.blk bj 33 mT,mS,bR,mR,B8,B9,ao,bi] ug:=H0
 refine eN ?_
 have q:=bnd sw
 obtain ⟨⟨eP,iF,sV,sX⟩,KK,sA⟩:=q
 try dsimp only at sA
 refine CK.cut (fun σ_ w_=>∃ (U_:PHeap) (dV:Option Addr) (eH:Nat) (fP:Option Addr) (gc:Nat),σ_ 3=.int .u8 p3/\σ_ 9=.pointer (some ⟨aX,0,none⟩)/\σ_ 10=.pointer (some ⟨bz,0,none⟩)/\σ_ 11=.pointer (some ⟨ai,0,none⟩)/\σ_ 12=.pointer (some ⟨aq,0,none⟩)/\σ_ 13=.pointer (some ⟨aY,0,none⟩)/\σ_ 14=jV x92/\σ_ 15=jV (↑bm:Int)/\σ_ 16=.pointer (some ⟨bj,0,none⟩)/\σ_ 62=jV x33/\σ_ 63=jV (↑bm:Int)/\PHeap.Le fY U_/\sW w U U_ [.row dV eH 37 2 (nA wAD eP),bR,.blk bj 33 [jV be.Deadline,.slice dV eP.length eH,.slice cG be.Decisions.length cM],.blk aX 68 [.slice fP iF.length gc,jV sV,.int .u32 sX],B8,B9,ao,bi] w_/\Sl U_ 1 fP gc iF.length (nA KL.encB8 iF)) ?_ ?_
 refine zV (yI (fun (bG,fH,iR,iT) σ_ w_=>∃ (U_:PHeap) (db:Option Addr) (dp:Nat) (eY:Option Addr) (fy:Nat),σ_ 3=.int .u8 p3/\σ_ 9=.pointer (some ⟨aX,0,none⟩)/\σ_ 10=.pointer (some ⟨bz,0,none⟩)/\σ_ 11=.pointer (some ⟨ai,0,none⟩)/\σ_ 12=.pointer (some ⟨aq,0,none⟩)/\σ_ 13=.pointer (some ⟨aY,0,none⟩)/\σ_ 14=jV x92/\σ_ 15=jV (↑bm:Int)/\σ_ 16=.pointer (some ⟨bj,0,none⟩)/\σ_ 62=jV x33/\σ_ 63=jV (↑bm:Int)/\PHeap.Le fY U_/\sW w U U_ [.row db dp 37 2 (nA wAD bG),bR,.blk bj 33 [jV be.Deadline,.slice db bG.length dp,.slice cG be.Decisions.length cM],.blk aX 68 [.slice eY fH.length fy,jV iR,.int .u32 iT],B8,B9,ao,bi] w_/\Sl U_ 1 eY fy fH.length (nA KL.encB8 fH)) KK ?_ ?_)
 exact ⟨fY,i7,lg,mF,pK,wA,qE,wB,wC,wD,wE,wG,rfl,rfl,qF,ly,(zU _),(H1.pick [1,2,0,3,4,5,6,7] _ (by decide) rfl),FD⟩
 rintro ⟨bG,fH,iR,iT⟩ OO OV o6 ⟨jD,db,dp,eY,fy,qG,lv,qH,qI,qJ,qK,qL,qM,fz,qN,qO,sN,lR,rq⟩ l6 IV
 try dsimp only at l6
 refine zH (sR fL4 Z (oR Z (zD Z fz zd Z ZY) (oL Z (lR.ldB (j:=2) Z Z Z Zu (v:=.slice db bG.length dp) Z) (oR Z (zy Z Z ZJ) (oR Z (ze Z Z Z) (eN ?_))))))
 by_cases dJ:(↑bG.length:Int) < 5
 have sC:=l6;rw [if_pos dJ] at sC;replace dJ:=zI dJ
 refine cT Z dJ (kN (zV (ZT ZH [3,1004,3,1004,3,3,3,3,1005,3,3,3,2,0,3,0,aX] (wPj (.fx 8 (wVf (.fx 12 (.fx 13 (.fl 14 (.fx 15 .nil .stop)) .stop) .stop)) .stop)) (by kernel_rfl) ?_)))
 have iD:=lR.drew
 generalize hw_W420:({ o6 with drawn:=o6.drawn + 1 }:World)=o7 at iD ⊢
 refine oR Z (zD Z fz zd Z ZY) ?_
 let eZ:Res:=.blk bj 33 [jV be.Deadline,.slice db bG.length dp,.slice cG be.Decisions.length cM]
 let fQ:Res:=.row db dp 37 2 (nA wAD bG)
 refine OKS.mt (T:=[aX]) [3] [0,1,2,4,5,6,7] [fQ,bR,eZ,B8,B9,ao,bi] rfl rfl rfl rfl iD rfl ⟨⟨3,by decide,_,rfl,rfl⟩,trivial⟩ (by decide) rfl (by decide) (fun _ IQ=>(IQ.ldB (j:=2) rfl rfl rfl Zu (v:=.slice db bG.length dp) rfl)) rfl (za rfl rfl rfl rfl (fun _=>zD rfl fz zd rfl ZY) (OKS.mt (T:=[aX]) [3] [0,1,2,4,5,6,7] [fQ,bR,eZ,B8,B9,ao,bi] rfl rfl rfl rfl iD rfl ⟨⟨3,by decide,_,rfl,rfl⟩,trivial⟩ (by decide) rfl (by decide) (fun _ IR=>(IR.ldB (j:=2) rfl rfl rfl Zu (v:=.slice db bG.length dp) rfl)) rfl (za rfl rfl rfl rfl (fun _=>zy rfl rfl ZJ) (za rfl rfl rfl rfl (fun _=>yW rfl rfl rfl) (za rfl rfl rfl rfl (fun _=>zZ rfl rfl rfl) (zQ rfl rfl rfl rfl rfl lv ?_))))))
 have q:=bnd sC
 obtain ⟨⟨gM,mh⟩,FG,sD⟩:=q
 try dsimp only at sD
 have H3:sW w U jD [.blk aX 68 [.slice eY fH.length fy,jV iR,.int .u32 iT],fQ,bR,eZ,B8,B9,ao,bi] o7:=iD.pick [3,0,1,2,4,5,6,7] _ (by decide) rfl
 refine OKS.callHT 1 rfl rfl rfl rfl (zF rfl rfl yL (zA rfl (zA rfl zK)) rfl) H3 (fun hs=>wAV (⟨fH,iR,iT⟩:wAE) aX eY fy 20 o7 jD hs rq FG) rfl (T:=[aX]) rfl ⟨fun b h=>(by cases h;exact .head _),trivial⟩ ?_
 rintro f4 Mi Ow ui KU H5 ⟨mG,pL,rfl,rfl,FH⟩
 let gU:Res:=.blk aX 68 [.slice mG mh.bytes.length pL,jV mh.next,.int .u32 mh.state]
 have H6:sW w U f4 [gU,fQ,bR,eZ,B8,B9,ao,bi] ui:=H5
 refine oR Z (yW Z Z Z) (oR Z (zZ Z Z Z) ?_)
 let jd:List Value:=[jV (w64 ((w64 (3 * (↑bG.length:Int))) + 1)),jV (w64 (15000 + (w64 (50 * gM))))]
 refine oR Z (Zi (pv:=[(0,jV (w64 ((w64 (3 * (↑bG.length:Int))) + 1))),(1,jV (w64 (15000 + (w64 (50 * gM)))))]) (z:=[jV 0,jV 0]) (cs:=jd) Z (wAK Z (wAK Z wAb)) yE wMm Z Z) (ZM (pv:=[(0,.agg jd.toArray)]) (zs:=[jV 0,jV 0]) (cs:=jd) Z Z Z Z Z (wAK Z wAb) ZJ Za yE Z Z Z Z Z H6 ?_)
 intro uj uH H7
 let je:Res:=.row (some ⟨uH,0,none⟩) 1 37 2 (nA wAD [(⟨w64 ((w64 (3 * (↑bG.length:Int))) + 1),w64 (15000 + (w64 (50 * gM)))⟩:wAH)])
 have rT:sW w U f4 [je,gU,fQ,bR,eZ,B8,B9,ao,bi] uj:=H7
 refine bnK sD fun iU FI Kg=>Zv (j:=2) (enc:=wAD) (xs:=bG) (ys:=[(⟨w64 ((w64 (3 * (↑bG.length:Int))) + 1),w64 (15000 + (w64 (50 * gM)))⟩:wAH)]) (zs:=iU) rfl rfl rfl rfl rfl Tryz.underlying30 wKz rfl rfl rfl rfl rfl rfl rT rfl rfl rfl (rT.srcR (j:=0) rfl (by decide) (wAF (f:=wAD) (sz:=2) (fun _=>rfl) [(⟨w64 ((w64 (3 * (↑bG.length:Int))) + 1),w64 (15000 + (w64 (50 * gM)))⟩:wAH)])) (fun _=>rfl) (fun _=>rfl) FI rfl ?_
 intro gT iv uk H8
 let mU:Res:=.row gT iv 37 2 (nA wAD iU)
 have H9:sW w U f4 [je,gU,mU,bR,eZ,B8,B9,ao,bi] uk:=H8
 refine oR Z (zD Z fz zd Z ZY) (zo (j:=4) (vs:=[.slice gT iU.length iv]) Z Z Z Z H9 Z Z Z Z ZY (zB Z) Z Z Z ?_)
 intro ul Ia
 have Ib:sW w U f4 [je,gU,mU,bR,.blk bj 33 [jV be.Deadline,.slice gT iU.length iv,.slice cG be.Decisions.length cM],B8,B9,ao,bi] ul:=Ia
 refine zk (zh ?_)
 have q:=nB Kg
 obtain rfl:=q
 exact zJ ⟨rfl,_,rfl,⟨f4,gT,iv,mG,pL,qG,lv,qH,qI,qJ,qK,qL,qM,fz,qN,qO,(sN.trans KU),(Ib.pick [2,3,4,1,5,6,7,8] _ (by decide) rfl),FH⟩⟩
 have sE:=l6;rw [if_neg dJ] at sE;replace dJ:=zI dJ
 refine cF Z dJ (ZD (zb ?_))
 have q:=wAS sE
 obtain ⟨Ln,Kh,u3⟩:=q
 have q:=IV Ln u3
 obtain rfl:=q
 refine zb (zz ?_)
 cases Kh
 exact zJ ⟨Z,⟨jD,db,dp,eY,fy,qG,lv,qH,qI,qJ,qK,qL,qM,fz,qN,qO,sN,lR,rq⟩⟩
 rintro OW ii ⟨tH,dV,eH,fP,gc,wH,wI,wJ,wK,wL,wM,wN,wO,lx,wP,wQ,dP,Ie,FK⟩
 have q:=bnd sA
 obtain ⟨⟨dL,cq,da,bM,ge,dR,bX,fJ⟩,KM,sF⟩:=q
 try dsimp only at sF
 let ae:Res:=.blk aX 68 [.slice fP iF.length gc,jV sV,.int .u32 sX]
 refine CK.cut (fun σ_ w_=>∃ (U_:PHeap) (dW:Option Addr) (eI:Nat) (de:Option Addr) (dr:Nat) (cL:Nat) (bQ:Option Addr) (bV:Nat) (bB:Option Addr) (bD:Nat) (am:Nat) (cH:Option Addr) (cN:Nat) (dX:Option Addr) (eJ:Nat),σ_ 3=.int .u8 p3/\σ_ 9=.pointer (some ⟨aX,0,none⟩)/\σ_ 10=.pointer (some ⟨bz,0,none⟩)/\σ_ 11=.pointer (some ⟨ai,0,none⟩)/\σ_ 12=.pointer (some ⟨aq,0,none⟩)/\σ_ 13=.pointer (some ⟨aY,0,none⟩)/\σ_ 14=jV x92/\σ_ 15=jV (↑bm:Int)/\σ_ 16=.pointer (some ⟨bj,0,none⟩)/\σ_ 17=.pointer (some ⟨cL,0,none⟩)/\σ_ 18=.pointer (some ⟨am,0,none⟩)/\σ_ 62=jV x33/\σ_ 63=jV (↑bm:Int)/\PHeap.Le tH U_/\sW w U U_ [.blk bj 33 [jV be.Deadline,.slice dW dL.length eI,.slice de cq.length dr],ae,B8,B9,ao,bi,.blk cL 33 [jV da,.slice bQ bM.length bV,.slice bB ge.length bD],.row bQ bV 37 2 (nA wAD bM),.row bB bD 42 6 (nA wAB ge),.blk am 33 [jV dR,.slice cH bX.length cN,.slice dX fJ.length eJ],.row cH cN 37 2 (nA wAD bX),.row dX eJ 42 6 (nA wAB fJ)] w_/\Sl U_ 2 dW eI dL.length (nA wAD dL)/\Sl U_ 6 de dr cq.length (nA wAB cq)) ?_ ?_
 have q:=Ie.freezeR (k:=0) (n:=eP.length) rfl (wAF (f:=wAD) (sz:=2) (fun _=>rfl) eP) (by decide)
 obtain ⟨tI,KV,lY,Ik⟩:=q
 let bS:List Value:=[jV be.Deadline,.slice dV eP.length eH,.slice cG be.Decisions.length cM]
 have Il:sW w U tI [bR,.blk bj 33 bS,ae,B8,B9,ao,bi] ii:=Ik
 have q:=Il.freezeR (k:=0) (n:=be.Decisions.length) rfl (wAF (f:=wAB) (sz:=6) (fun _=>rfl) be.Decisions) (by decide)
 obtain ⟨ou,iH,lZ,Im⟩:=q
 have Io:sW w U ou [.blk bj 33 bS,ae,B8,B9,ao,bi] ii:=Im
 refine bnK KM fun OL NZ Ki=>bnK Ki fun bg rt Kj=>ZT ZH [1,2,1,2,2,2,0,0] (.fl 0 (.fl 2 (adT [(1,[0]),(3,[1,2]),(4,[]),(5,[])] (.fx 6 (.fx 7 .nil .stop) .stop) 5 [1,3,4,5] [0,2]))) (by kernel_rfl) ?_
 have iE:=Io.drew
 generalize hw_W744:({ ii with drawn:=ii.drawn + 1 }:World)=MK at iE ⊢
 refine zr rfl rfl rfl rfl (iE.ldBA (j:=0) rfl rfl lx ZW zm (vs:=bS) rfl rfl) rfl (zr rfl rfl rfl rfl (iE.ldBA (j:=0) rfl rfl lx ZW zm (vs:=bS) rfl rfl) rfl (OKS.adders (U0:=ou) (L0:=[.blk bj 33 bS,ae,B8,B9,ao,bi]) [(1,[0]),(3,[1,2]),(4,[]),(5,[])] [⟨1,88,fun v R=>∃ (mJ:Option Addr) (pO:Nat) (mK:Option Addr) (pP:Nat),v=.agg #[jV bg.Deadline,.slice mJ bg.Skiers.length pO,.slice mK bg.Decisions.length pP]/\R=[.row mJ pO 37 2 (nA wAD bg.Skiers),.row mK pP 42 6 (nA wAB bg.Decisions)]⟩,⟨3,90,fun v R=>∃ (mL:Option Addr) (pQ:Nat) (mM:Option Addr) (pR:Nat),v=.agg #[jV bg.Deadline,.slice mL bg.Skiers.length pQ,.slice mM bg.Decisions.length pR]/\R=[.row mL pQ 37 2 (nA wAD bg.Skiers),.row mM pR 42 6 (nA wAB bg.Decisions)]⟩,⟨4,17,fun v R=>∃ (pn:Nat),v=.pointer (some ⟨pn,0,none⟩)/\R=[.blk pn 33 cm]⟩,⟨5,18,fun v R=>∃ (po:Nat),v=.pointer (some ⟨po,0,none⟩)/\R=[.blk po 33 cm]⟩] [(3,.int .u8 p3),(9,.pointer (some ⟨aX,0,none⟩)),(10,.pointer (some ⟨bz,0,none⟩)),(11,.pointer (some ⟨ai,0,none⟩)),(12,.pointer (some ⟨aq,0,none⟩)),(13,.pointer (some ⟨aY,0,none⟩)),(14,jV x92),(15,jV (↑bm:Int)),(16,.pointer (some ⟨bj,0,none⟩)),(62,jV x33),(63,jV (↑bm:Int)),(87,.agg bS.toArray),(89,.agg bS.toArray)] [0,2] (by rfl) (nL.2 ⟨?_,nL.2 ⟨?_,nL.2 ⟨?_,nL.2 ⟨?_,fun _ h=>nomatch h⟩⟩⟩⟩) ?_ ⟨wH,wI,wJ,wK,wL,wM,wN,wO,lx,wP,wQ,rfl,rfl,trivial⟩ iE))
 intro K6 LJ o9 tJ tv I6 sO Is KN
 obtain ⟨M4,M5,M6,M7,M8,M9,Na,Nb,Nc,Nd,Nf,wR,Ng,_⟩:=I6
 show OKS _ _ _ _ _ _ (.fx 1 K6 .stop) LJ o9
 have FN:=lY.le iH
 have FO:=FN.le sO
 have FP:=lZ.le sO
 refine zG 0 Z Z Z Z (zF Z Z Tryz.call8 (zA wR zK) Z) Is (fun hs=>wEv (⟨be.Deadline,eP,be.Decisions⟩:wAI) dV eH cG cM o9 tJ hs FO FP rt) (.inr Z) ?_
 rintro tK Mm Oz ur KZ Iu ⟨mN,pS,mO,pT,rfl,rfl⟩
 have Iv:sW w U tK (.row mN pS 37 2 (nA wAD bg.Skiers) :: .row mO pT 42 6 (nA wAB bg.Decisions) :: (tv ++ [.blk bj 33 bS,ae,B8,B9,ao,bi])) ur:=Iu
 exact KN _ _ _ _ KZ Iv ⟨mN,pS,mO,pT,Z,Z⟩
 intro K7 LK pb tL tw I7 sP Iw KO
 obtain ⟨Nh,Ni,Nj,Nk,Nl,Nm,Nn,No,Np,Nq,Nr,Ns,wS,_⟩:=I7
 show OKS _ _ _ _ _ _ (.fx 3 K7 .stop) LK pb
 have FQ:=lY.le iH
 have FR:=FQ.le sP
 have FS:=lZ.le sP
 refine zG 0 Z Z Z Z (zF Z Z Tryz.call8 (zA wS zK) Z) Iw (fun hs=>wEv (⟨be.Deadline,eP,be.Decisions⟩:wAI) dV eH cG cM pb tL hs FR FS rt) (.inr Z) ?_
 rintro tM Mn OA ut K0 Iy ⟨mP,pU,mQ,pV,rfl,rfl⟩
 have Iz:sW w U tM (.row mP pU 37 2 (nA wAD bg.Skiers) :: .row mQ pV 42 6 (nA wAB bg.Decisions) :: (tw ++ [.blk bj 33 bS,ae,B8,B9,ao,bi])) ut:=Iy
 exact KO _ _ _ _ K0 Iz ⟨mP,pU,mQ,pV,Z,Z⟩
 intro K8 LL uv Mw Mo I8 N4 IA KP
 obtain ⟨Nt,Nu,Nv,Nw,Nx,Ny,Nz,NA,NB,NC,ND,NE,NF,_⟩:=I8
 show OKS _ _ _ _ _ _ (.fx 4 K8 .stop) LL uv
 refine zq (cs:=cm) Z Z Z Z Z Zg Z IA ?_
 intro MN uI ID
 exact KP _ _ _ _ (zU _) ID ⟨uI,Z,Z⟩
 intro K9 LM uw Mx Mp I9 N5 IE KQ
 obtain ⟨NG,NH,NI,NJ,NK,NL,NM,NN,NO,NP,NQ,NR,NT,_⟩:=I9
 show OKS _ _ _ _ _ _ (.fx 5 K9 .stop) LM uw
 refine zq (cs:=cm) Z Z Z Z Z Zg Z IE ?_
 intro MO uJ II
 exact KQ _ _ _ _ (zU _) II ⟨uJ,Z,Z⟩
 refine fun OB Mq FT OC Mr FU OD Ms FV OE Mt FW=>?_
 obtain ⟨i8,lh,i9,lj,rfl,rfl⟩:=FT
 obtain ⟨ja,ln,jb,lq,rfl,rfl⟩:=FU
 obtain ⟨il,rfl,rfl⟩:=FV
 obtain ⟨im,rfl,rfl⟩:=FW
 intro OX ux ic Ja KI l7 IJ
 obtain ⟨wU,wV,wW,wX,wY,wZ,w5,w6,w7,w8,w9,NU,NV,_⟩:=Ja
 obtain ⟨xa,xb,qP,qQ,_⟩:=KI
 let jf:Res:=.row i9 lj 42 6 (nA wAB bg.Decisions)
 let jg:Res:=.row jb lq 42 6 (nA wAB bg.Decisions)
 let jh:Res:=.row i8 lh 37 2 (nA wAD bg.Skiers)
 let ji:Res:=.row ja ln 37 2 (nA wAD bg.Skiers)
 have IK:sW w U ic [jh,jf,ji,jg,.blk il 33 cm,.blk im 33 cm,.blk bj 33 bS,ae,B8,B9,ao,bi] ux:=IJ
 let jj:List Value:=[jV bg.Deadline,.slice i8 bg.Skiers.length lh,.slice i9 bg.Decisions.length lj]
 refine zo (j:=4) (vs:=jj) Z Z Z Z IK Z qP xa Z zm (zB Z) Z Z Z ?_
 intro uy IL
 have IM:sW w U ic [jh,jf,ji,jg,.blk il 33 jj,.blk im 33 cm,.blk bj 33 bS,ae,B8,B9,ao,bi] uy:=IL
 let mV:List Value:=[jV bg.Deadline,.slice ja bg.Skiers.length ln,.slice jb bg.Decisions.length lq]
 refine zo (j:=5) (vs:=mV) Z Z Z Z IM Z qQ xb Z zm (zB Z) Z Z Z ?_
 intro uz IN
 have IP:sW w U ic [jh,jf,ji,jg,.blk il 33 jj,.blk im 33 mV,.blk bj 33 bS,ae,B8,B9,ao,bi] uz:=IN
 refine zk ?_
 cases Kj
 have FY:=lY.le iH
 have FZ:=FY.le l7
 have F0:=lZ.le l7
 exact zJ ⟨rfl,⟨ic,dV,eH,cG,cM,il,i8,lh,i9,lj,im,ja,ln,jb,lq,wU,wV,wW,wX,wY,wZ,w5,w6,w7,qP,qQ,w8,w9,((KV.trans iH).trans l7),(IP.pick [6,7,8,9,10,11,4,0,1,5,2,3] _ (by decide) rfl),FZ,F0⟩⟩
 rintro OY pg ⟨ow,dW,eI,de,dr,cL,bQ,bV,bB,bD,am,cH,cN,dX,eJ,xc,xd,pY,u4,u5,u6,u7,u9,pZ,va,vc,vd,ve,dC,rX,xg,qR⟩
 refine zH (sR (wET (.fx 4 (.fl 5 (.fl 6 .nil)) .stop)) Z (oM Z pY (oR Z (zD Z pZ zd Z Zf) (oL Z (rX.ldB (j:=0) Z Z Z Zp (v:=.slice de cq.length dr) Z) (oR Z (zy Z Z ZC) ?_)))))
 have xh:=FA.le dO
 have xi:=xh.le dP
 have xj:=xi.le dC
 have q:=bnd sF
 obtain ⟨⟨dQ,me⟩,xk,rY⟩:=q
 try dsimp only at rY
 let aj:Res:=.blk bj 33 [jV be.Deadline,.slice dW dL.length eI,.slice de cq.length dr]
 let bT:Res:=.row cH cN 37 2 (nA wAD bX)
 let dF:Res:=.blk am 33 [jV dR,.slice cH bX.length cN,.slice dX fJ.length eJ]
 let cJ:Res:=.row bQ bV 37 2 (nA wAD bM)
 let dZ:Res:=.row dX eJ 42 6 (nA wAB fJ)
 let mW:Res:=.blk cL 33 [jV da,.slice bQ bM.length bV,.slice bB ge.length bD]
 let mX:Res:=.row bB bD 42 6 (nA wAB ge)
 have F7:sW w U ow [bi,aj,ae,B8,B9,ao,mW,cJ,mX,dF,bT,dZ] pg:=rX.pick [5,0,1,2,3,4,6,7,8,9,10,11] _ (by decide) rfl
 refine zG 1 Z Z Z Z (zF Z Z Tryz.call9 (zA Z (zA Z zK)) Z) F7 (fun hs=>wFQ (⟨fG,iO,iP⟩:wAE) bz fO ga (↑cq.length:Int) pg ow hs xj xk) (.inl Z) ?_
 rintro ju LN N8 tO cr F8 ⟨mr,pp,ms,pq,rfl,rfl,xl⟩
 let ak:Res:=.blk bz 68 [.slice ms me.bytes.length pq,jV me.next,.int .u32 me.state]
 let dG:Res:=.row mr pp 3 1 (nA KL.encI dQ)
 have Ga:sW w U ju [dG,ak,aj,ae,B8,B9,ao,mW,cJ,mX,dF,bT,dZ] tO:=F8
 refine oR Z (zy Z Z zL) (oM Z Z (eN (zV (bnK rY fun dS IW Jb=>?_))))
 have q:=wBr IW
 obtain ⟨lV,IX⟩:=q
 replace lV:=zI lV
 refine CK.forN' (fun dK cp σ_ w_=>∃ (U_:PHeap),σ_ 97=jV (↑dK:Int)/\σ_ 3=.int .u8 p3/\σ_ 9=.pointer (some ⟨aX,0,none⟩)/\σ_ 10=.pointer (some ⟨bz,0,none⟩)/\σ_ 11=.pointer (some ⟨ai,0,none⟩)/\σ_ 12=.pointer (some ⟨aq,0,none⟩)/\σ_ 13=.pointer (some ⟨aY,0,none⟩)/\σ_ 14=jV x92/\σ_ 15=jV (↑bm:Int)/\σ_ 16=.pointer (some ⟨bj,0,none⟩)/\σ_ 17=.pointer (some ⟨cL,0,none⟩)/\σ_ 18=.pointer (some ⟨am,0,none⟩)/\σ_ 62=jV x33/\σ_ 63=jV (↑bm:Int)/\σ_ 95=.slice mr dQ.length pp/\σ_ 96=jV (↑dQ.length:Int)/\PHeap.Le ju U_/\sW w U U_ [ak,aj,ae,B8,B9,ao,cJ,.row bB bD 42 6 (nA wAB cp),.blk cL 33 [jV da,.slice bQ bM.length bV,.slice bB cp.length bD],bT,dZ,dF,dG] w_/\cp.length=ge.length) IX ?_ ?_ ?_
 exact ⟨ju,rfl,xc,xd,pY,u4,u5,u6,u7,u9,pZ,va,vc,vd,ve,rfl,rfl,(zU _),(Ga.pick [1,2,3,4,5,6,8,9,7,11,12,10,0] _ (by decide) rfl),rfl⟩
 rintro dK cp OM OP oy lT ⟨jv,iy,vg,vh,vi,vj,vk,vm,vo,vp,p6,p7,vq,vr,vt,p8,p9,sL,lF,xm⟩ KJ
 have pu:Hid ((↑dK:Int) < (↑dQ.length:Int)):=zI (wBq lT)
 replace lT:=zI lT
 have I4:Hid (w64 ((↑dK:Int) + 1)=(↑(dK + 1):Int)):=zI (by have h1:=lV.out;have h2:=pu.out;rw [wAT] <;> omega)
 refine sR fL1 Z (oR Z (ze Z iy p9) (eN (zH (cT Z pu (kN (zH (zV (sR fL5 Z (oM Z iy (bnK KJ fun _ lz Jc=>?_))))))))))
 have q:=lF.rowSome (j:=12) rfl (by rw [wAF (f:=KL.encI) (sz:=1) (fun _=>rfl) dQ];have hz:=wAR lz;omega)
 obtain ⟨MP,ru⟩:=q
 refine oR Z (ZZ Z p8 ru iy zL zC (wAR lz)) ?_
 have IZ:=wBt (xs:=dQ) (wAR lz)
 refine zr rfl rfl rfl rfl (lF.ldR (j:=12) rfl ru rfl rfl zO (wAs (sz:=1) (fun _=>rfl) _ _ 0 _ IZ (by first | omega | rfl | simp) rfl)) rfl (Ze rfl rfl rfl rfl rfl rfl (Ze rfl rfl rfl rfl rfl rfl (eN (ZT ZH [3,1,3,3,1,3,3,1,3,0] (wQt (.fx 9 .nil .stop)) (by kernel_rfl) ?_))))
 have fA:=lF.drew
 generalize hw_W1080:({ oy with drawn:=oy.drawn + 1 }:World)=My at fA ⊢
 refine oR Z (zD Z p7 zd Z Zf) (oL Z (fA.ldB (j:=8) Z Z Z Zp (v:=.slice bB cp.length bD) Z) (oM Z Z (oR Z (zD Z p6 zd Z Zf) (oL Z (fA.ldB (j:=1) Z Z Z Zp (v:=.slice de cq.length dr) Z) (oM Z Z (bnK Jc fun bH lA Jd=>?_))))))
 have xn:=qR.le cr
 have xo:=xn.le sL
 have q:=xo.el (fun _=>rfl) (wBD lA)
 obtain ⟨MQ,N6,F1,F5⟩:=q
 refine oR Z (ZQ Z Z F1 Z ZC zg (wFJ lA) (wFT lA)) (oL Z (fA.ldCA (f:=0) F5 Z Z ZF zg (us:=[jV bH.Number,jV bH.Kind,jV bH.Minute,jV bH.Bib,jV bH.Much,jV bH.About]) Z Z) (bnK Jd fun _ iz Je=>?_))
 have q:=fA.rowSome (j:=7) rfl (by rw [wAF (f:=wAB) (sz:=6) (fun _=>rfl) cp];have hz:=wAR iz;omega)
 obtain ⟨MS,rx⟩:=q
 refine oR Z (ZZ Z Z rx Z ZC zg (wAR iz)) ?_
 have I0:=wBt (xs:=cp) (wAR iz)
 refine yX (j:=7) (vs:=[jV bH.Number,jV bH.Kind,jV bH.Minute,jV bH.Bib,jV bH.Much,jV bH.About]) (cs':=nA wAB (nJ cp dK bH)) rfl rfl rfl rfl fA rfl rx rfl rfl rfl zg (by rw [wAF (f:=wAB) (sz:=6) (fun _=>rfl)];have hz:=wAR iz;show _ + 6 <= _;first | omega | (simp only [nK];omega) | (simp only [nG,nD,nE];omega)) rfl (wEW (sz:=6) (fo:=0) (fun _=>rfl) _ _ _ _ I0 (by first | omega | (simp only [nK];omega) | (simp only [nG,nD,nE];omega)) (zB rfl) rfl) rfl ?_
 intro oz Gb
 let jk:Res:=.row bB bD 42 6 (nA wAB (nJ cp dK bH))
 have Gc:sW w U jv [ak,aj,ae,B8,B9,ao,cJ,jk,.blk cL 33 [jV da,.slice bQ bM.length bV,.slice bB cp.length bD],bT,dZ,dF,dG] oz:=Gb
 have Gd:sW w U jv [ak,aj,ae,B8,B9,ao,cJ,jk,.blk cL 33 [jV da,.slice bQ bM.length bV,.slice bB ((nJ cp dK bH).length) bD],bT,dZ,dF,dG] oz:=by simpa only [ao,ae,aj,bT,dF,cJ,dZ,ak,dG,jk,B8,B9,nH] using Gc
 refine zk (zh (zJ (rR fL2 Z (oR Z (zw (zZ Z iy Z) (congrArg (jV) I4.out)) (oM Z Z (zk ?_))))))
 cases Je
 exact zJ ⟨Z,⟨jv,Z,vg,vh,vi,vj,vk,vm,vo,vp,p6,p7,vq,vr,vt,p8,p9,sL,Gd,(nH.trans xm)⟩⟩
 rintro OQ Mz ⟨ff,xe,ls,qa,qb,qc,qd,qe,lu,vu,qf,qg,iw,qh,qi,MV,vv,ct,lG,NW⟩
 have uK:Hid (¬ ((↑(((↑dQ.length:Int):Int) - 0).toNat:Int) < (↑dQ.length:Int))):=zI (wBH)
 refine sR fL1 Z (oR Z (ze Z xe vv) (eN (zH (cF Z uK (ZD (zb (zb (zz (zJ (zH (sR fL2 Z (oM Z vu (oR Z (ZR Z Z Z) (eN (bnK Jb fun dt sI Jf=>?_)))))))))))))))
 let an:Res:=.blk cL 33 [jV da,.slice bQ bM.length bV,.slice bB dS.length bD]
 let fR:Res:=.row bB bD 42 6 (nA wAB dS)
 refine CK.cutT (fun σ_ w_=>∃ (U_:PHeap) (dT:Option Addr) (ey:Nat),σ_ 3=.int .u8 p3/\σ_ 9=.pointer (some ⟨aX,0,none⟩)/\σ_ 10=.pointer (some ⟨bz,0,none⟩)/\σ_ 11=.pointer (some ⟨ai,0,none⟩)/\σ_ 12=.pointer (some ⟨aq,0,none⟩)/\σ_ 13=.pointer (some ⟨aY,0,none⟩)/\σ_ 14=jV x92/\σ_ 16=.pointer (some ⟨bj,0,none⟩)/\σ_ 17=.pointer (some ⟨cL,0,none⟩)/\σ_ 18=.pointer (some ⟨am,0,none⟩)/\σ_ 62=jV x33/\σ_ 63=jV (↑bm:Int)/\PHeap.Le ff U_/\sW w U U_ [ak,aj,ae,B8,B9,ao,cJ,fR,an,bT,.row dT ey 42 6 (nA wAB dt),.blk am 33 [jV dR,.slice cH bX.length cN,.slice dT dt.length ey]] w_) ?_ ?_
 by_cases dI:(↑bm:Int)=0
 have rZ:=sI;rw [if_pos dI] at rZ;replace dI:=zI dI
 refine cT Z dI (rR (wPj (.fx 8 (.fx 9 (.fl 10 (.fx 11 .nil .stop)) .stop) .stop)) Z (oR Z (zD Z iw zd Z Zf) (oL Z (lG.ldB (j:=11) Z Z Z Zp (v:=.slice dX fJ.length eJ) Z) (oM Z lu (oR Z (yW Z Z Z) (oR Z (zZ Z Z Z) (oM Z ls (oR Z (Runs.cvw Z Z Tryz.runUnderlying5 yR Z Z) ?_))))))))
 let jl:List Value:=[jV 900,jV 0,jV 0,jV (w64 ((w64 (3 * x92)) + 1)),jV (w64 p3),jV 0]
 let mY:List Value:=[jV 0,jV 0,jV 0,jV 0,jV 0,jV 0]
 refine oR Z (Zi (pv:=[(0,jV 900),(1,jV 0),(3,jV (w64 ((w64 (3 * x92)) + 1))),(4,jV (w64 p3))]) (z:=mY) (cs:=jl) Z (wAK Z (wAK Z (wAK Z (wAK Z wAb)))) Zh wJy Z Z) (ZM (pv:=[(0,.agg jl.toArray)]) (zs:=mY) (cs:=jl) Z Z Z Z Z (wAK Z wAb) ZC zg Zh Z Z Z Z Z lG ?_)
 intro tP uA Ge
 let jm:Res:=.row (some ⟨uA,0,none⟩) 1 42 6 (nA wAB [(⟨900,0,0,w64 ((w64 (3 * x92)) + 1),w64 p3,0⟩:wAA)])
 have rB:sW w U ff [jm,ak,aj,ae,B8,B9,ao,cJ,fR,an,bT,dZ,dF,dG] tP:=Ge
 refine bnK rZ fun iJ xp Jg=>Zv (j:=11) (enc:=wAB) (xs:=fJ) (ys:=[(⟨900,0,0,w64 ((w64 (3 * x92)) + 1),w64 p3,0⟩:wAA)]) (zs:=iJ) rfl rfl rfl rfl rfl Tryz.underlying31 wLA rfl rfl rfl rfl rfl rfl rB rfl rfl rfl (rB.srcR (j:=0) rfl (by decide) (wAF (f:=wAB) (sz:=6) (fun _=>rfl) [(⟨900,0,0,w64 ((w64 (3 * x92)) + 1),w64 p3,0⟩:wAA)])) (fun _=>rfl) (fun _=>rfl) xp rfl ?_
 intro gN io tQ Gf
 let mZ:Res:=.row gN io 42 6 (nA wAB iJ)
 have Gg:sW w U ff [jm,ak,aj,ae,B8,B9,ao,cJ,fR,an,bT,mZ,dF,dG] tQ:=Gf
 refine oR Z (zD Z iw zd Z Zf) (zo (j:=12) (vs:=[.slice gN iJ.length io]) Z Z Z Z Gg Z Z Z Z Zf (zB Z) Z Z Z ?_)
 intro tR Gi
 have Gj:sW w U ff [jm,ak,aj,ae,B8,B9,ao,cJ,fR,an,bT,mZ,.blk am 33 [jV dR,.slice cH bX.length cN,.slice gN iJ.length io],dG] tR:=Gi
 refine zk ?_
 cases Jg
 exact zJ ⟨rfl,⟨ff,gN,io,ls,qa,qb,qc,qd,qe,lu,qf,qg,iw,qh,qi,(zU _),(Gj.pick [1,2,3,4,5,6,7,8,9,10,11,12] _ (by decide) rfl)⟩⟩
 have r6:=sI;rw [if_neg dI] at r6;replace dI:=zI dI
 refine cF Z dI (Zd ?_)
 cases r6
 exact zJ ⟨rfl,⟨ff,dX,eJ,ls,qa,qb,qc,qd,qe,lu,qf,qg,iw,qh,qi,(zU _),(lG.pick [0,1,2,3,4,5,6,7,8,9,10,11] _ (by decide) rfl)⟩⟩
 rintro OR ie ⟨Mv,dT,ey,vw,vy,vz,qj,qk,ql,vA,vB,vC,vD,vE,vF,cu,iC⟩
 refine zH (sR (wDq gCj) Z ?_)
 let jo:List Value:=[jV be.Deadline,.slice dW dL.length eI,.slice de cq.length dr]
 refine oL Z (iC.ldBA (j:=1) Z Z vB ZW zm (vs:=jo) Z Z) ?_
 let jp:List Value:=[jV da,.slice bQ bM.length bV,.slice bB dS.length bD]
 refine oL Z (iC.ldBA (j:=8) Z Z vC ZW zm (vs:=jp) Z Z) ?_
 let ap:List Value:=[jV dR,.slice cH bX.length cN,.slice dT dt.length ey]
 refine oL Z (iC.ldBA (j:=11) Z Z vD ZW zm (vs:=ap) Z Z) ?_
 have q:=iC.freezeR (k:=6) (n:=bM.length) rfl (wAF (f:=wAD) (sz:=2) (fun _=>rfl) bM) (by decide)
 obtain ⟨tz,cw,Ks,Gl⟩:=q
 let jq:Res:=.row dT ey 42 6 (nA wAB dt)
 have Gm:sW w U tz [ak,aj,ae,B8,B9,ao,fR,an,bT,jq,.blk am 33 ap] ie:=Gl
 have q:=Gm.freezeR (k:=6) (n:=dS.length) rfl (wAF (f:=wAB) (sz:=6) (fun _=>rfl) dS) (by decide)
 obtain ⟨tA,bY,Kt,Gn⟩:=q
 have Gp:sW w U tA [ak,aj,ae,B8,B9,ao,an,bT,jq,.blk am 33 ap] ie:=Gn
 have q:=Gp.freezeR (k:=7) (n:=bX.length) rfl (wAF (f:=wAD) (sz:=2) (fun _=>rfl) bX) (by decide)
 obtain ⟨tB,bP,Ku,Gq⟩:=q
 have Gr:sW w U tB [ak,aj,ae,B8,B9,ao,an,jq,.blk am 33 ap] ie:=Gq
 have q:=Gr.freezeR (k:=7) (n:=dt.length) rfl (wAF (f:=wAB) (sz:=6) (fun _=>rfl) dt) (by decide)
 obtain ⟨jw,bN,Kv,Gs⟩:=q
 have Gt:sW w U jw [ak,aj,ae,B8,B9,ao,an,.blk am 33 ap] ie:=Gs
 let jr:List Value:=[jV be.Deadline,.slice dW dL.length eI,.slice de cq.length dr,jV da,.slice bQ bM.length bV,.slice bB dS.length bD,jV dR,.slice cH bX.length cN,.slice dT dt.length ey]
 refine ZM (pv:=[(0,.agg jo.toArray),(1,.agg jp.toArray),(2,.agg ap.toArray)]) (zs:=[jV 0,.slice none 0 0,.slice none 0 0,jV 0,.slice none 0 0,.slice none 0 0,jV 0,.slice none 0 0,.slice none 0 0]) (cs:=jr) Z Z Z Z Z (wAK Z (wAK Z (wAK Z wAb))) Tryz.runUnderlying43 zm Zg Z Z Z Z Z Gt ?_
 intro oB ij Gk
 have xq:=Ku.le bN
 have xr:=Ks.le bY
 have xt:=xr.le bP
 have xu:=xt.le bN
 have xw:=Kt.le bP
 have xx:=xw.le bN
 have xz:=xg.le cr
 have xA:=xz.le ct
 have xB:=xA.le cu
 have xC:=xB.le cw
 have xD:=xC.le bY
 have xE:=xD.le bP
 have xF:=xE.le bN
 have xG:=qR.le cr
 have xH:=xG.le ct
 have xI:=xH.le cu
 have xJ:=xI.le cw
 have xK:=xJ.le bY
 have xL:=xK.le bP
 have xM:=xL.le bN
 have Kk:RlL jw wUw [(⟨be.Deadline,dL,cq⟩:wAI),(⟨da,bM,dS⟩:wAI),(⟨dR,bX,dt⟩:wAI)] jr:=(RlL.cons (R:=wUw) (x:=(⟨be.Deadline,dL,cq⟩:wAI)) (vs:=jo) ⟨dW,eI,de,dr,rfl,xF,xM⟩ (RlL.cons (R:=wUw) (x:=(⟨da,bM,dS⟩:wAI)) (vs:=jp) ⟨bQ,bV,bB,bD,rfl,xu,xx⟩ (RlL.cons (R:=wUw) (x:=(⟨dR,bX,dt⟩:wAI)) (vs:=ap) ⟨cH,cN,dT,ey,rfl,xq,Kv⟩ RlL.nil)))
 have Gu:sW w U jw [.row (some ⟨ij,0,none⟩) 3 33 3 jr,ak,aj,ae,B8,B9,ao,an,.blk am 33 ap] oB:=Gk
 refine za rfl rfl rfl rfl (fun _=>zy rfl rfl Tryz.runUnderlying43) (zQ rfl rfl rfl rfl rfl rfl (eN (zV (CK.unroll 4 (CKR.succ (sR fL1 rfl (za rfl rfl rfl rfl (fun _=>ze rfl rfl rfl) (eN (zH (zu (ZU (by decide)) (kN (zH (zV (sR (wDq gCk) rfl (zQ rfl rfl rfl rfl rfl rfl ?_)))))))))))))))
 have q:=Gu.freezeRR (R:=wUw) (k:=0) rfl Kk rfl (by decide)
 obtain ⟨g6,du,sH,Gw⟩:=q
 have rC:sW w U g6 [ak,aj,ae,B8,B9,ao,an,.blk am 33 ap] oB:=Gw
 refine bnK Jf fun cz qS Jh=>?_
 have q:=sH.el (wBD qS)
 obtain ⟨uB,K1,OF,F2,lC,Kl⟩:=q
 obtain ⟨gh,gq,gi,gt,rfl,qT,qU⟩:=Kl
 replace lC:Cl g6 uB (K1 + 0 * 3) [jV cz.Deadline,.slice gh cz.Skiers.length gq,.slice gi cz.Decisions.length gt]:=lC
 refine oR Z (ZZ Z Z F2 Z Tryz.runUnderlying43 zm (wDB qS)) (oL Z (rC.ldCA (f:=0) lC Z Z ZW zm (us:=[jV cz.Deadline,.slice gh cz.Skiers.length gq,.slice gi cz.Decisions.length gt]) Z Z) (zq (cs:=cm) Z Z Z Z Z Zg Z rC ?_))
 intro MA aw Gx
 refine oA Z Z ?_
 let au:List Value:=[jV cz.Deadline,.slice gh cz.Skiers.length gq,.slice gi cz.Decisions.length gt]
 refine zo (j:=0) (vs:=au) Z Z Z Z Gx Z Z Z Z zm (zB Z) Z Z Z ?_
 intro oG Gy
 have rD:sW w U g6 [.blk aw 33 au,ak,aj,ae,B8,B9,ao,an,.blk am 33 ap] oG:=Gy
 refine eN (sR (.fl 0 (.fx 1 (wLU (.nil)) .stop)) Z (oL Z (rD.ldBA (j:=0) Z Z Z ZW zm (vs:=au) Z Z) ?_))
 have q:=bnd Jh
 obtain ⟨⟨gz,sS⟩,xN,r8⟩:=q
 try dsimp only at r8
 refine zG 0 Z Z Z Z (zF Z Z Tryz.call10 (zA Z zK) Z) rD (fun hs=>wFm cz gh gq gi gt oG g6 hs qT qU xN) (.inr Z) ?_
 rintro tC LO N9 jG bZ Gz ⟨iV,jQ,rfl,rfl⟩
 have rE:sW w U tC [.row iV jQ 84 3 (nA wAG gz),.blk aw 33 au,ak,aj,ae,B8,B9,ao,an,.blk am 33 ap] jG:=Gz
 refine oM Z Z (oR Z (ZB Z Z (v:=.slice iV gz.length jQ) Z) (oR Z (ZB Z Z (v:=jV sS) Z) (oA Z Z (oA Z Z (eN (sR (.fl 0 (.fl 1 (.fx 2 (wQv (.nil)) .stop))) Z (oL Z (rE.ldBA (j:=1) Z Z Z ZW zm (vs:=au) Z Z) (oM Z Z ?_))))))))
 have q:=rE.freezeR (k:=0) (n:=gz.length) rfl (wAF (f:=wAG) (sz:=3) (fun _=>rfl) gz) (by decide)
 obtain ⟨n5,cd,Kw,GA⟩:=q
 have GB:sW w U n5 [.blk aw 33 au,ak,aj,ae,B8,B9,ao,an,.blk am 33 ap] jG:=GA
 have xO:=qT.le bZ
 have xP:=xO.le cd
 have xR:=qU.le bZ
 have xS:=xR.le cd
 have q:=bnd r8
 obtain ⟨⟨cY,Lo⟩,xT,r9⟩:=q
 try dsimp only at r9
 refine zG 0 Z Z Z Z (zF Z Z Tryz.call11 (zA Z (zA Z zK)) Z) GB (fun hs=>wEA cz gh gq gi gt gz iV jQ jG n5 hs xP xS Kw xT) (.inr Z) ?_
 rintro g7 LP Oa tS cQ GC ⟨eR,fg,rfl,rfl⟩
 let m4:Res:=.row eR fg 3 1 (nA KL.encI cY)
 have lH:sW w U g7 [m4,.blk aw 33 au,ak,aj,ae,B8,B9,ao,an,.blk am 33 ap] tS:=GC
 refine oM Z Z (oR Z (ZB Z Z (v:=.slice eR cY.length fg) Z) (oR Z (ZB Z Z (v:=.bool Lo) Z) (oA Z Z (oA Z Z (eN (zH (sR fL6 Z (oM Z Z (oR Z (Zs Z Z Z) (oM Z Z (ifc r9 ?_ ?_)))))))))))
 intro eA Ji
 refine zQ Z Z Z (zS Z Z (ZI (fun h=>h eA.out))) Z Z (za Z Z Z (zS Z Z (ZI (fun h=>h eA.out))) (fun _=>ZX Z Z) (oR Z (zR Z (ZI (fun h=>h eA.out)) Z) (eN (ifc Ji ?_ ?_))))
 intro jR Jj
 refine zn (nC jR.out) (kN (sR (.fx 0 (wTW (.nil)) .stop) Z ?_))
 let fb:List Value:=[.pointer (some ⟨ai,0,none⟩),.pointer (some ⟨aq,0,none⟩),.pointer (some ⟨aY,0,none⟩)]
 refine ZM (pv:=[(0,.pointer (some ⟨ai,0,none⟩)),(1,.pointer (some ⟨aq,0,none⟩)),(2,.pointer (some ⟨aY,0,none⟩))]) (zs:=[.pointer none,.pointer none,.pointer none]) (cs:=fb) Z Z Z Z Z (wAK qj (wAK qk (wAK ql wAb))) yQ Tryz.sizeOf50 Tryz.zeroValue50 Z Z Z Z Z lH ?_
 intro oH uC GD
 let az:Res:=.row (some ⟨uC,0,none⟩) 3 50 1 fb
 have lI:sW w U g7 [az,m4,.blk aw 33 au,ak,aj,ae,B8,B9,ao,an,.blk am 33 ap] oH:=GD
 refine zQ rfl rfl rfl rfl rfl rfl (za rfl rfl rfl rfl (fun _=>zw (ZZ (k:=0) rfl rfl rfl rfl yQ Tryz.sizeOf50 (by decide)) rfl) (zr rfl rfl rfl rfl (lI.ldR (j:=0) rfl rfl rfl rfl Tryz.isAgg50 rfl) rfl (Ze rfl rfl rfl rfl rfl rfl (eN (zH (CK.fresh fun bI bE=>?_))))))
 have vG:bI 3=.int .u8 p3:=(bE 3).trans vw
 have vH:bI 9=.pointer (some ⟨aX,0,none⟩):=(bE 9).trans vy
 have vJ:bI 10=.pointer (some ⟨bz,0,none⟩):=(bE 10).trans vz
 have vK:bI 11=.pointer (some ⟨ai,0,none⟩):=(bE 11).trans qj
 have vL:bI 12=.pointer (some ⟨aq,0,none⟩):=(bE 12).trans qk
 have vM:bI 13=.pointer (some ⟨aY,0,none⟩):=(bE 13).trans ql
 have vN:bI 14=jV x92:=(bE 14).trans vA
 have MW:bI 24=jV sS:=(bE 24).trans rfl
 have vO:bI 25=.slice eR cY.length fg:=(bE 25).trans rfl
 have qm:bI 27=.pointer (some ⟨ai,0,none⟩):=(bE 27).trans rfl
 have vP:bI 62=jV x33:=(bE 62).trans vE
 have vQ:bI 63=jV (↑bm:Int):=(bE 63).trans vF
 have qn:bI 128=.slice (some ⟨ij,0,none⟩) 3 3:=(bE 128).trans rfl
 have qo:bI 129=jV 3:=(bE 129).trans rfl
 have vR:bI 130=jV 0:=(bE 130).trans rfl
 clear bE
 refine rR (wET (.fx 4 (.fx 5 (wTa gCl) .stop) .stop)) Z (oM Z qm (oR Z (Zm Z Z) (oL Z (lI.ldBA (j:=8) Z Z Z ZG zX (vs:=[jV gJ,jV gK,jV gL,.slice eW eO.length ft,.slice eX fE.length fw]) Z Z) (oM Z vO ?_))))
 have q:=lI.freezeR (k:=1) (n:=cY.length) rfl (wAF (f:=KL.encI) (sz:=1) (fun _=>rfl) cY) (by decide)
 obtain ⟨jx,cR,Kx,GF⟩:=q
 have GG:sW w U jx [az,.blk aw 33 au,ak,aj,ae,B8,B9,ao,an,.blk am 33 ap] oH:=GF
 let gX:List Value:=[.slice eR cY.length fg]
 refine ZM (pv:=[(0,.slice eR cY.length fg)]) (zs:=[.slice none 0 0]) (cs:=gX) Z Z Z Z Z (wAK Z wAb) zx Zc Tryz.zeroValue26 Z Z Z Z Z GG ?_
 intro jH ph GE
 have Km:RlL jx wEH [cY] gX:=(RlL.cons (R:=wEH) (x:=cY) (vs:=gX) ⟨eR,fg,rfl,Kx⟩ RlL.nil)
 have GH:sW w U jx [.row (some ⟨ph,0,none⟩) 1 26 1 gX,az,.blk aw 33 au,ak,aj,ae,B8,B9,ao,an,.blk am 33 ap] jH:=GE
 have q:=GH.freezeRR (R:=wEH) (k:=0) rfl Km rfl (by decide)
 obtain ⟨n7,cS,Ky,GI⟩:=q
 have GJ:sW w U n7 [az,.blk aw 33 au,ak,aj,ae,B8,B9,ao,an,.blk am 33 ap] jH:=GI
 have xU:=Fy.le dO
 have xV:=xU.le dP
 have xW:=xV.le dC
 have xX:=xW.le cr
 have xY:=xX.le ct
 have xZ:=xY.le cu
 have ya:=xZ.le cw
 have yb:=ya.le bY
 have yc:=yb.le bP
 have yd:=yc.le bN
 have ye:=yd.le du
 have yf:=ye.le bZ
 have yg:=yf.le cd
 have yh:=yg.le cQ
 have yi:=yh.le cR
 have yj:=yi.le cS
 have yk:=Fz.le dO
 have ym:=yk.le dP
 have yn:=ym.le dC
 have yo:=yn.le cr
 have yp:=yo.le ct
 have yq:=yp.le cu
 have yr:=yq.le cw
 have yt:=yr.le bY
 have yu:=yt.le bP
 have yv:=yu.le bN
 have yw:=yv.le du
 have yy:=yw.le bZ
 have yz:=yy.le cd
 have yZ:=yz.le cQ
 have y4:=yZ.le cR
 have y5:=y4.le cS
 have q:=bnd Jj
 obtain ⟨⟨cA,Lp⟩,y6,sa⟩:=q
 try dsimp only at sa
 refine zG 0 Z Z Z Z (zF Z Z Tryz.call12 (zA Z (zA Z zK)) Z) GJ (fun hs=>wGt (⟨gJ,gK,gL,eO,fE⟩:wAU) eW ft eX fw [cY] (some ⟨ph,0,none⟩) 1 jH n7 hs yj y5 Ky y6) (.inr Z) ?_
 rintro ep LQ Ob tT dM GK ⟨gO,ip,gP,iq,rfl,rfl,y7,y8⟩
 have GL:sW w U ep [az,.blk aw 33 au,ak,aj,ae,B8,B9,ao,an,.blk am 33 ap] tT:=GK
 refine oM Z Z (oR Z (ZB Z Z (v:=.agg #[jV cA.Skiers,jV cA.Races,jV cA.Best,.slice gO cA.Points.length ip,.slice gP cA.Done.length iq]) Z) (oR Z (ZB Z Z (v:=jV Lp) Z) (zq (cs:=B4) Z Z Z Z Z Zt Z GL ?_)))
 intro MC ba GM
 let ag:List Value:=[jV cA.Skiers,jV cA.Races,jV cA.Best,.slice gO cA.Points.length ip,.slice gP cA.Done.length iq]
 refine zo (j:=0) (vs:=ag) Z Z Z Z GM Z Z Z Z zX (zB Z) Z Z Z ?_
 intro tU GN
 have lJ:sW w U ep [.blk ba 29 ag,az,.blk aw 33 au,ak,aj,ae,B8,B9,ao,an,.blk am 33 ap] tU:=GN
 refine oA Z Z (eN (zH (sR fL2 Z (oM Z Z (oR Z (Zs Z Z Z) (eN (ifc sa ?_ ?_)))))))
 intro jS Jk
 refine zn (ZI (fun h=>h jS.out)) (kN (rR (wDq (.fx 3 .nil .stop)) Z (oM Z qm (oL Z (lJ.ldBA (j:=0) Z Z Z ZG zX (vs:=ag) Z Z) (oR Z (Zm Z Z) (zo (j:=8) (vs:=ag) Z Z Z Z lJ Z Z Z Z zX (zB Z) Z Z Z ?_))))))
 intro tV GO
 have rF:sW w U ep [.blk ba 29 ag,az,.blk aw 33 au,ak,aj,ae,B8,B9,.blk ai 29 ag,an,.blk am 33 ap] tV:=GO
 refine zk (zh (zJ (rR fL2 rfl (za rfl rfl rfl rfl (fun _=>zw (zZ rfl vR rfl) (congrArg (jV) (show w64 (0 + 1)=1 by decide))) (zQ rfl rfl rfl rfl rfl rfl (eN (CKR.succ (sR fL1 rfl (za rfl rfl rfl rfl (fun _=>ze rfl rfl qo) (eN (zH (zu (ZU (by decide)) (kN (zH (zV (sR (wDq gCk) rfl (zQ rfl rfl rfl rfl rfl rfl (bnK Jk fun cB qV Jl=>?_))))))))))))))))))
 have y9:=sH.le bZ
 have z6:=y9.le cd
 have z7:=z6.le cQ
 have z8:=z7.le cR
 have Aa:=z8.le cS
 have qW:=Aa.le dM
 have q:=qW.el (wBD qV)
 obtain ⟨uD,K3,OG,F3,lD,Ko⟩:=q
 obtain ⟨gj,gu,gk,gv,rfl,qX,qY⟩:=Ko
 replace lD:Cl ep uD (K3 + 1 * 3) [jV cB.Deadline,.slice gj cB.Skiers.length gu,.slice gk cB.Decisions.length gv]:=lD
 refine oR Z (ZZ Z qn F3 Z Tryz.runUnderlying43 zm (wDB qV)) (oL Z (rF.ldCA (f:=0) lD Z Z ZW zm (us:=[jV cB.Deadline,.slice gj cB.Skiers.length gu,.slice gk cB.Decisions.length gv]) Z Z) (zq (cs:=cm) Z Z Z Z Z Zg Z rF ?_))
 intro ME bb GP
 refine oA Z Z ?_
 let aZ:List Value:=[jV cB.Deadline,.slice gj cB.Skiers.length gu,.slice gk cB.Decisions.length gv]
 refine zo (j:=0) (vs:=aZ) Z Z Z Z GP Z Z Z Z zm (zB Z) Z Z Z ?_
 intro oI GQ
 have rG:sW w U ep [.blk bb 33 aZ,.blk ba 29 ag,az,.blk aw 33 au,ak,aj,ae,B8,B9,.blk ai 29 ag,an,.blk am 33 ap] oI:=GQ
 refine eN (sR (.fl 0 (.fx 1 (wLU (.nil)) .stop)) Z (oL Z (rG.ldBA (j:=0) Z Z Z ZW zm (vs:=aZ) Z Z) ?_))
 have q:=bnd Jl
 obtain ⟨⟨gA,sT⟩,Ac,sb⟩:=q
 try dsimp only at sb
 refine zG 0 Z Z Z Z (zF Z Z Tryz.call10 (zA Z zK) Z) rG (fun hs=>wFm cB gj gu gk gv oI ep hs qX qY Ac) (.inr Z) ?_
 rintro tD LT Oc jJ cg GR ⟨iW,jU,rfl,rfl⟩
 have rH:sW w U tD [.row iW jU 84 3 (nA wAG gA),.blk bb 33 aZ,.blk ba 29 ag,az,.blk aw 33 au,ak,aj,ae,B8,B9,.blk ai 29 ag,an,.blk am 33 ap] jJ:=GR
 refine oM Z Z (oR Z (ZB Z Z (v:=.slice iW gA.length jU) Z) (oR Z (ZB Z Z (v:=jV sT) Z) (oA Z Z (oA Z Z (eN (sR (.fl 0 (.fl 1 (.fx 2 (wQv (.nil)) .stop))) Z (oL Z (rH.ldBA (j:=1) Z Z Z ZW zm (vs:=aZ) Z Z) (oM Z Z ?_))))))))
 have q:=rH.freezeR (k:=0) (n:=gA.length) rfl (wAF (f:=wAG) (sz:=3) (fun _=>rfl) gA) (by decide)
 obtain ⟨n8,ci,Kz,GS⟩:=q
 have GT:sW w U n8 [.blk bb 33 aZ,.blk ba 29 ag,az,.blk aw 33 au,ak,aj,ae,B8,B9,.blk ai 29 ag,an,.blk am 33 ap] jJ:=GS
 have Ae:=qX.le cg
 have Af:=Ae.le ci
 have Ag:=qY.le cg
 have Ah:=Ag.le ci
 have q:=bnd sb
 obtain ⟨⟨cC,mf⟩,Ai,sc⟩:=q
 try dsimp only at sc
 refine zG 0 Z Z Z Z (zF Z Z Tryz.call11 (zA Z (zA Z zK)) Z) GT (fun hs=>wEA cB gj gu gk gv gA iW jU jJ n8 hs Af Ah Kz Ai) (.inr Z) ?_
 rintro g8 LU Od tW cU GU ⟨dU,eB,rfl,rfl⟩
 let m5:Res:=.row dU eB 3 1 (nA KL.encI cC)
 have lK:sW w U g8 [m5,.blk bb 33 aZ,.blk ba 29 ag,az,.blk aw 33 au,ak,aj,ae,B8,B9,.blk ai 29 ag,an,.blk am 33 ap] tW:=GU
 refine oM Z Z (oR Z (ZB Z Z (v:=.slice dU cC.length eB) Z) (oR Z (ZB Z Z (v:=.bool mf) Z) (oA Z Z (oA Z Z (eN (zH (zH (CK.fresh fun bF bA=>?_))))))))
 have vS:bF 3=.int .u8 p3:=(bA 3).trans vG
 have vT:bF 9=.pointer (some ⟨aX,0,none⟩):=(bA 9).trans vH
 have vU:bF 10=.pointer (some ⟨bz,0,none⟩):=(bA 10).trans vJ
 have qp:bF 11=.pointer (some ⟨ai,0,none⟩):=(bA 11).trans vK
 have qq:bF 12=.pointer (some ⟨aq,0,none⟩):=(bA 12).trans vL
 have qr:bF 13=.pointer (some ⟨aY,0,none⟩):=(bA 13).trans vM
 have vV:bF 14=jV x92:=(bA 14).trans vN
 have vW:bF 21=jV 1:=(bA 21).trans rfl
 have vX:bF 24=jV sT:=(bA 24).trans rfl
 have qt:bF 25=.slice dU cC.length eB:=(bA 25).trans rfl
 have qu:bF 26=.bool mf:=(bA 26).trans rfl
 have vY:bF 62=jV x33:=(bA 62).trans vP
 have vZ:bF 63=jV (↑bm:Int):=(bA 63).trans vQ
 have qv:bF 128=.slice (some ⟨ij,0,none⟩) 3 3:=(bA 128).trans qn
 have qw:bF 129=jV 3:=(bA 129).trans qo
 have wa:bF 130=jV 1:=(bA 130).trans rfl
 clear bA
 refine rR fL6 Z (oM Z vX (oR Z (Zs Z Z Z) (oM Z Z (ifc sc ?_ ?_))))
 intro eC Jm
 refine zQ Z Z Z (zS Z Z (ZI (fun h=>h eC.out))) Z qu (za Z Z Z (zS Z Z (ZI (fun h=>h eC.out))) (fun _=>ZX Z Z) (oR Z (zR Z (ZI (fun h=>h eC.out)) Z) (eN (ifc Jm ?_ ?_))))
 intro jW Jn
 refine zn (nC jW.out) (kN (sR (.fx 0 (wTW (.nil)) .stop) Z (ZM (pv:=[(0,.pointer (some ⟨ai,0,none⟩)),(1,.pointer (some ⟨aq,0,none⟩)),(2,.pointer (some ⟨aY,0,none⟩))]) (zs:=[.pointer none,.pointer none,.pointer none]) (cs:=fb) Z Z Z Z Z (wAK qp (wAK qq (wAK qr wAb))) yQ Tryz.sizeOf50 Tryz.zeroValue50 Z Z Z Z Z lK ?_)))
 intro oK uE GV
 let bh:Res:=.row (some ⟨uE,0,none⟩) 3 50 1 fb
 have lL:sW w U g8 [bh,m5,.blk bb 33 aZ,.blk ba 29 ag,az,.blk aw 33 au,ak,aj,ae,B8,B9,.blk ai 29 ag,an,.blk am 33 ap] oK:=GV
 refine zQ rfl rfl rfl rfl rfl vW (za rfl rfl rfl rfl (fun _=>zw (ZZ (k:=1) rfl rfl rfl rfl yQ Tryz.sizeOf50 (by decide)) rfl) (zr rfl rfl rfl rfl (lL.ldR (j:=0) rfl rfl rfl rfl Tryz.isAgg50 rfl) rfl (Ze rfl rfl rfl rfl rfl rfl (eN (sR (wET (.fx 4 (.fx 5 (wTa gCl) .stop) .stop)) rfl (zQ rfl rfl rfl rfl rfl rfl (za rfl rfl rfl rfl (fun _=>Zm rfl rfl) (zr rfl rfl rfl rfl (lL.ldBA (j:=10) rfl rfl rfl ZG zX (vs:=[jV gG,jV gH,jV gI,.slice eU eM.length fk,.slice eV fC.length fm]) rfl rfl) rfl (zQ rfl rfl rfl rfl rfl qt ?_)))))))))
 have q:=lL.freezeR (k:=1) (n:=cC.length) rfl (wAF (f:=KL.encI) (sz:=1) (fun _=>rfl) cC) (by decide)
 obtain ⟨jy,cV,KA,GX⟩:=q
 have GY:sW w U jy [bh,.blk bb 33 aZ,.blk ba 29 ag,az,.blk aw 33 au,ak,aj,ae,B8,B9,.blk ai 29 ag,an,.blk am 33 ap] oK:=GX
 let gY:List Value:=[.slice dU cC.length eB]
 refine ZM (pv:=[(0,.slice dU cC.length eB)]) (zs:=[.slice none 0 0]) (cs:=gY) Z Z Z Z Z (wAK Z wAb) zx Zc Tryz.zeroValue26 Z Z Z Z Z GY ?_
 intro jK pj GW
 have Kp:RlL jy wEH [cC] gY:=(RlL.cons (R:=wEH) (x:=cC) (vs:=gY) ⟨dU,eB,rfl,KA⟩ RlL.nil)
 have GZ:sW w U jy [.row (some ⟨pj,0,none⟩) 1 26 1 gY,bh,.blk bb 33 aZ,.blk ba 29 ag,az,.blk aw 33 au,ak,aj,ae,B8,B9,.blk ai 29 ag,an,.blk am 33 ap] jK:=GW
 have q:=GZ.freezeRR (R:=wEH) (k:=0) rfl Kp rfl (by decide)
 obtain ⟨n9,cW,KB,G0⟩:=q
 have Ha:sW w U n9 [bh,.blk bb 33 aZ,.blk ba 29 ag,az,.blk aw 33 au,ak,aj,ae,B8,B9,.blk ai 29 ag,an,.blk am 33 ap] jK:=G0
 have Aj:=Fv.le dO
 have Ak:=Aj.le dP
 have Al:=Ak.le dC
 have Am:=Al.le cr
 have An:=Am.le ct
 have Ao:=An.le cu
 have Ap:=Ao.le cw
 have Aq:=Ap.le bY
 have Ar:=Aq.le bP
 have As:=Ar.le bN
 have Au:=As.le du
 have Av:=Au.le bZ
 have Aw:=Av.le cd
 have Ax:=Aw.le cQ
 have Ay:=Ax.le cR
 have Az:=Ay.le cS
 have AA:=Az.le dM
 have AD:=AA.le cg
 have AE:=AD.le ci
 have AG:=AE.le cU
 have AI:=AG.le cV
 have AJ:=AI.le cW
 have AK:=Fw.le dO
 have AL:=AK.le dP
 have AM:=AL.le dC
 have AN:=AM.le cr
 have AP:=AN.le ct
 have AQ:=AP.le cu
 have AS:=AQ.le cw
 have AT:=AS.le bY
 have AU:=AT.le bP
 have AW:=AU.le bN
 have AX:=AW.le du
 have AY:=AX.le bZ
 have AZ:=AY.le cd
 have A3:=AZ.le cQ
 have A4:=A3.le cR
 have A5:=A4.le cS
 have A6:=A5.le dM
 have A8:=A6.le cg
 have A9:=A8.le ci
 have Ba:=A9.le cU
 have Bc:=Ba.le cV
 have Bd:=Bc.le cW
 have q:=bnd Jn
 obtain ⟨⟨cD,Lq⟩,Be,sd⟩:=q
 try dsimp only at sd
 refine zG 0 Z Z Z Z (zF Z Z Tryz.call12 (zA Z (zA Z zK)) Z) Ha (fun hs=>wGt (⟨gG,gH,gI,eM,fC⟩:wAU) eU fk eV fm [cC] (some ⟨pj,0,none⟩) 1 jK n9 hs AJ Bd KB Be) (.inr Z) ?_
 rintro er LV Oe tX dN Hc ⟨gQ,ir,gR,it,rfl,rfl,Bf,Bg⟩
 have He:sW w U er [bh,.blk bb 33 aZ,.blk ba 29 ag,az,.blk aw 33 au,ak,aj,ae,B8,B9,.blk ai 29 ag,an,.blk am 33 ap] tX:=Hc
 refine oM Z Z (oR Z (ZB Z Z (v:=.agg #[jV cD.Skiers,jV cD.Races,jV cD.Best,.slice gQ cD.Points.length ir,.slice gR cD.Done.length it]) Z) (oR Z (ZB Z Z (v:=jV Lq) Z) (zq (cs:=B4) Z Z Z Z Z Zt Z He ?_)))
 intro MF br Hf
 let av:List Value:=[jV cD.Skiers,jV cD.Races,jV cD.Best,.slice gQ cD.Points.length ir,.slice gR cD.Done.length it]
 refine zo (j:=0) (vs:=av) Z Z Z Z Hf Z Z Z Z zX (zB Z) Z Z Z ?_
 intro tY Hg
 have lM:sW w U er [.blk br 29 av,bh,.blk bb 33 aZ,.blk ba 29 ag,az,.blk aw 33 au,ak,aj,ae,B8,B9,.blk ai 29 ag,an,.blk am 33 ap] tY:=Hg
 refine oA Z Z (eN (zH (sR fL2 Z (oM Z Z (oR Z (Zs Z Z Z) (eN (ifc sd ?_ ?_)))))))
 intro jX Jo
 refine zn (ZI (fun h=>h jX.out)) (kN (rR (wDq (.fx 3 .nil .stop)) Z (oM Z Z (oL Z (lM.ldBA (j:=0) Z Z Z ZG zX (vs:=av) Z Z) (oR Z (Zm Z Z) (zo (j:=10) (vs:=av) Z Z Z Z lM Z Z Z Z zX (zB Z) Z Z Z ?_))))))
 intro tZ Hh
 have rI:sW w U er [.blk br 29 av,bh,.blk bb 33 aZ,.blk ba 29 ag,az,.blk aw 33 au,ak,aj,ae,B8,.blk aq 29 av,.blk ai 29 ag,an,.blk am 33 ap] tZ:=Hh
 refine zk (zh (zJ (rR fL2 rfl (za rfl rfl rfl rfl (fun _=>zw (zZ rfl wa rfl) (congrArg (jV) (show w64 (1 + 1)=2 by decide))) (zQ rfl rfl rfl rfl rfl rfl (eN (CKR.succ (sR fL1 rfl (za rfl rfl rfl rfl (fun _=>ze rfl rfl qw) (eN (zH (zu (ZU (by decide)) (kN (zH (zV (sR (wDq gCk) rfl (zQ rfl rfl rfl rfl rfl rfl (bnK Jo fun cE qZ Jp=>?_))))))))))))))))))
 have Bh:=qW.le cg
 have Bi:=Bh.le ci
 have Bj:=Bi.le cU
 have Bk:=Bj.le cV
 have Bl:=Bk.le cW
 have Bm:=Bl.le dN
 have q:=Bm.el (wBD qZ)
 obtain ⟨uF,K5,OH,F4,lE,Kq⟩:=q
 obtain ⟨gm,gw,gp,gy,rfl,rc,rd⟩:=Kq
 replace lE:Cl er uF (K5 + 2 * 3) [jV cE.Deadline,.slice gm cE.Skiers.length gw,.slice gp cE.Decisions.length gy]:=lE
 refine oR Z (ZZ Z qv F4 Z Tryz.runUnderlying43 zm (wDB qZ)) (oL Z (rI.ldCA (f:=0) lE Z Z ZW zm (us:=[jV cE.Deadline,.slice gm cE.Skiers.length gw,.slice gp cE.Decisions.length gy]) Z Z) (zq (cs:=cm) Z Z Z Z Z Zg Z rI ?_))
 intro MG bw Hi
 refine oA Z Z ?_
 let bp:List Value:=[jV cE.Deadline,.slice gm cE.Skiers.length gw,.slice gp cE.Decisions.length gy]
 refine zo (j:=0) (vs:=bp) Z Z Z Z Hi Z Z Z Z zm (zB Z) Z Z Z ?_
 intro oO Hj
 have rJ:sW w U er [.blk bw 33 bp,.blk br 29 av,bh,.blk bb 33 aZ,.blk ba 29 ag,az,.blk aw 33 au,ak,aj,ae,B8,.blk aq 29 av,.blk ai 29 ag,an,.blk am 33 ap] oO:=Hj
 refine eN (sR (.fl 0 (.fx 1 (wLU (.nil)) .stop)) Z (oL Z (rJ.ldBA (j:=0) Z Z Z ZW zm (vs:=bp) Z Z) ?_))
 have q:=bnd Jp
 obtain ⟨⟨fL,sU⟩,Bn,se⟩:=q
 try dsimp only at se
 refine zG 0 Z Z Z Z (zF Z Z Tryz.call10 (zA Z zK) Z) rJ (fun hs=>wFm cE gm gw gp gy oO er hs rc rd Bn) (.inr Z) ?_
 rintro tE LW Of jL cx Hk ⟨gS,iu,rfl,rfl⟩
 have rK:sW w U tE [.row gS iu 84 3 (nA wAG fL),.blk bw 33 bp,.blk br 29 av,bh,.blk bb 33 aZ,.blk ba 29 ag,az,.blk aw 33 au,ak,aj,ae,B8,.blk aq 29 av,.blk ai 29 ag,an,.blk am 33 ap] jL:=Hk
 refine oM Z Z (oR Z (ZB Z Z (v:=.slice gS fL.length iu) Z) (oR Z (ZB Z Z (v:=jV sU) Z) (oA Z Z (oA Z Z (eN (zH (CK.fresh fun bu bq=>?_)))))))
 have wb:bu 3=.int .u8 p3:=(bq 3).trans vS
 have wc:bu 9=.pointer (some ⟨aX,0,none⟩):=(bq 9).trans vT
 have wd:bu 10=.pointer (some ⟨bz,0,none⟩):=(bq 10).trans vU
 have qx:bu 11=.pointer (some ⟨ai,0,none⟩):=(bq 11).trans qp
 have qy:bu 12=.pointer (some ⟨aq,0,none⟩):=(bq 12).trans qq
 have qz:bu 13=.pointer (some ⟨aY,0,none⟩):=(bq 13).trans qr
 have we:bu 14=jV x92:=(bq 14).trans vV
 have wg:bu 21=jV 2:=(bq 21).trans rfl
 have wh:bu 22=.pointer (some ⟨bw,0,none⟩):=(bq 22).trans rfl
 have wi:bu 23=.slice gS fL.length iu:=(bq 23).trans rfl
 have wj:bu 24=jV sU:=(bq 24).trans rfl
 have MX:bu 25=.slice dU cC.length eB:=(bq 25).trans qt
 have MY:bu 26=.bool mf:=(bq 26).trans qu
 have wk:bu 62=jV x33:=(bq 62).trans vY
 have wl:bu 63=jV (↑bm:Int):=(bq 63).trans vZ
 have MZ:bu 128=.slice (some ⟨ij,0,none⟩) 3 3:=(bq 128).trans qv
 have wm:bu 129=jV 3:=(bq 129).trans qw
 have wn:bu 130=jV 2:=(bq 130).trans rfl
 clear bq
 refine rR (.fl 0 (.fl 1 (.fx 2 (wQv (.nil)) .stop))) Z (oL Z (rK.ldBA (j:=1) Z Z wh ZW zm (vs:=bp) Z Z) (oM Z wi ?_))
 have q:=rK.freezeR (k:=0) (n:=fL.length) rfl (wAF (f:=wAG) (sz:=3) (fun _=>rfl) fL) (by decide)
 obtain ⟨oa,cy,KC,Hl⟩:=q
 have Hm:sW w U oa [.blk bw 33 bp,.blk br 29 av,bh,.blk bb 33 aZ,.blk ba 29 ag,az,.blk aw 33 au,ak,aj,ae,B8,.blk aq 29 av,.blk ai 29 ag,an,.blk am 33 ap] jL:=Hl
 have Bq:=rc.le cx
 have Br:=Bq.le cy
 have Bs:=rd.le cx
 have Bt:=Bs.le cy
 have q:=bnd se
 obtain ⟨⟨dD,Lr⟩,Bu,sf⟩:=q
 try dsimp only at sf
 refine zG 0 Z Z Z Z (zF Z Z Tryz.call11 (zA Z (zA Z zK)) Z) Hm (fun hs=>wEA cE gm gw gp gy fL gS iu jL oa hs Br Bt KC Bu) (.inr Z) ?_
 rintro g9 LX Og t7 dv Hn ⟨fM,f5,rfl,rfl⟩
 let m6:Res:=.row fM f5 3 1 (nA KL.encI dD)
 have lN:sW w U g9 [m6,.blk bw 33 bp,.blk br 29 av,bh,.blk bb 33 aZ,.blk ba 29 ag,az,.blk aw 33 au,ak,aj,ae,B8,.blk aq 29 av,.blk ai 29 ag,an,.blk am 33 ap] t7:=Hn
 refine oM Z Z (oR Z (ZB Z Z (v:=.slice fM dD.length f5) Z) (oR Z (ZB Z Z (v:=.bool Lr) Z) (oA Z Z (oA Z Z (eN (zH (sR fL6 Z (oM Z wj (oR Z (Zs Z Z Z) (oM Z Z (ifc sf ?_ ?_)))))))))))
 intro eD Jq
 refine zQ Z Z Z (zS Z Z (ZI (fun h=>h eD.out))) Z Z (za Z Z Z (zS Z Z (ZI (fun h=>h eD.out))) (fun _=>ZX Z Z) (oR Z (zR Z (ZI (fun h=>h eD.out)) Z) (eN (ifc Jq ?_ ?_))))
 intro jY Jr
 refine zn (nC jY.out) (kN (sR (.fx 0 (wTW (.nil)) .stop) Z (ZM (pv:=[(0,.pointer (some ⟨ai,0,none⟩)),(1,.pointer (some ⟨aq,0,none⟩)),(2,.pointer (some ⟨aY,0,none⟩))]) (zs:=[.pointer none,.pointer none,.pointer none]) (cs:=fb) Z Z Z Z Z (wAK qx (wAK qy (wAK qz wAb))) yQ Tryz.sizeOf50 Tryz.zeroValue50 Z Z Z Z Z lN ?_)))
 intro oP uG Ho
 let bU:Res:=.row (some ⟨uG,0,none⟩) 3 50 1 fb
 have lO:sW w U g9 [bU,m6,.blk bw 33 bp,.blk br 29 av,bh,.blk bb 33 aZ,.blk ba 29 ag,az,.blk aw 33 au,ak,aj,ae,B8,.blk aq 29 av,.blk ai 29 ag,an,.blk am 33 ap] oP:=Ho
 refine zQ rfl rfl rfl rfl rfl wg (za rfl rfl rfl rfl (fun _=>zw (ZZ (k:=2) rfl rfl rfl rfl yQ Tryz.sizeOf50 (by decide)) rfl) (zr rfl rfl rfl rfl (lO.ldR (j:=0) rfl rfl rfl rfl Tryz.isAgg50 rfl) rfl (Ze rfl rfl rfl rfl rfl rfl (eN (sR (wET (.fx 4 (.fx 5 (wTa gCl) .stop) .stop)) rfl (zQ rfl rfl rfl rfl rfl rfl (za rfl rfl rfl rfl (fun _=>Zm rfl rfl) (zr rfl rfl rfl rfl (lO.ldBA (j:=12) rfl rfl rfl ZG zX (vs:=[jV gD,jV gE,jV gF,.slice eS eK.length fh,.slice eT fB.length fj]) rfl rfl) rfl (zQ rfl rfl rfl rfl rfl rfl ?_)))))))))
 have q:=lO.freezeR (k:=1) (n:=dD.length) rfl (wAF (f:=KL.encI) (sz:=1) (fun _=>rfl) dD) (by decide)
 obtain ⟨jz,dw,KD,Hq⟩:=q
 have Hr:sW w U jz [bU,.blk bw 33 bp,.blk br 29 av,bh,.blk bb 33 aZ,.blk ba 29 ag,az,.blk aw 33 au,ak,aj,ae,B8,.blk aq 29 av,.blk ai 29 ag,an,.blk am 33 ap] oP:=Hq
 let gZ:List Value:=[.slice fM dD.length f5]
 refine ZM (pv:=[(0,.slice fM dD.length f5)]) (zs:=[.slice none 0 0]) (cs:=gZ) Z Z Z Z Z (wAK Z wAb) zx Zc Tryz.zeroValue26 Z Z Z Z Z Hr ?_
 intro jM pk Hp
 have Kr:RlL jz wEH [dD] gZ:=(RlL.cons (R:=wEH) (x:=dD) (vs:=gZ) ⟨fM,f5,rfl,KD⟩ RlL.nil)
 have Hs:sW w U jz [.row (some ⟨pk,0,none⟩) 1 26 1 gZ,bU,.blk bw 33 bp,.blk br 29 av,bh,.blk bb 33 aZ,.blk ba 29 ag,az,.blk aw 33 au,ak,aj,ae,B8,.blk aq 29 av,.blk ai 29 ag,an,.blk am 33 ap] jM:=Hp
 have q:=Hs.freezeRR (R:=wEH) (k:=0) rfl Kr rfl (by decide)
 obtain ⟨oc,dx,KE,Ht⟩:=q
 have Hu:sW w U oc [bU,.blk bw 33 bp,.blk br 29 av,bh,.blk bb 33 aZ,.blk ba 29 ag,az,.blk aw 33 au,ak,aj,ae,B8,.blk aq 29 av,.blk ai 29 ag,an,.blk am 33 ap] jM:=Ht
 have Bv:=Ft.le dO
 have Bw:=Bv.le dP
 have By:=Bw.le dC
 have Bz:=By.le cr
 have BA:=Bz.le ct
 have BB:=BA.le cu
 have BC:=BB.le cw
 have BD:=BC.le bY
 have BE:=BD.le bP
 have BF:=BE.le bN
 have BG:=BF.le du
 have BH:=BG.le bZ
 have BI:=BH.le cd
 have BJ:=BI.le cQ
 have BK:=BJ.le cR
 have BL:=BK.le cS
 have BM:=BL.le dM
 have BN:=BM.le cg
 have BO:=BN.le ci
 have BP:=BO.le cU
 have BQ:=BP.le cV
 have BR:=BQ.le cW
 have BS:=BR.le dN
 have BT:=BS.le cx
 have BU:=BT.le cy
 have BV:=BU.le dv
 have BW:=BV.le dw
 have BX:=BW.le dx
 have BY:=Fu.le dO
 have BZ:=BY.le dP
 have Ca:=BZ.le dC
 have Cb:=Ca.le cr
 have Cc:=Cb.le ct
 have Cd:=Cc.le cu
 have Ce:=Cd.le cw
 have Cf:=Ce.le bY
 have Cg:=Cf.le bP
 have Ch:=Cg.le bN
 have Cj:=Ch.le du
 have Ck:=Cj.le bZ
 have Cm:=Ck.le cd
 have Cn:=Cm.le cQ
 have Co:=Cn.le cR
 have Cp:=Co.le cS
 have Cq:=Cp.le dM
 have Cr:=Cq.le cg
 have Cs:=Cr.le ci
 have Ct:=Cs.le cU
 have Cu:=Ct.le cV
 have Cv:=Cu.le cW
 have Cw:=Cv.le dN
 have Cy:=Cw.le cx
 have Cz:=Cy.le cy
 have CA:=Cz.le dv
 have CB:=CA.le dw
 have CD:=CB.le dx
 have q:=bnd Jr
 obtain ⟨⟨cZ,Ls⟩,CE,sg⟩:=q
 try dsimp only at sg
 refine zG 0 Z Z Z Z (zF Z Z Tryz.call12 (zA Z (zA Z zK)) Z) Hu (fun hs=>wGt (⟨gD,gE,gF,eK,fB⟩:wAU) eS fh eT fj [dD] (some ⟨pk,0,none⟩) 1 jM oc hs BX CD KE CE) (.inr Z) ?_
 rintro fW LY Oh t8 eQ Hv ⟨iX,jZ,iY,j3,rfl,rfl,CF,CG⟩
 have Hw:sW w U fW [bU,.blk bw 33 bp,.blk br 29 av,bh,.blk bb 33 aZ,.blk ba 29 ag,az,.blk aw 33 au,ak,aj,ae,B8,.blk aq 29 av,.blk ai 29 ag,an,.blk am 33 ap] t8:=Hv
 refine oM Z Z (oR Z (ZB Z Z (v:=.agg #[jV cZ.Skiers,jV cZ.Races,jV cZ.Best,.slice iX cZ.Points.length jZ,.slice iY cZ.Done.length j3]) Z) (oR Z (ZB Z Z (v:=jV Ls) Z) (zq (cs:=B4) Z Z Z Z Z Zt Z Hw ?_)))
 intro MH eu Hx
 let bC:List Value:=[jV cZ.Skiers,jV cZ.Races,jV cZ.Best,.slice iX cZ.Points.length jZ,.slice iY cZ.Done.length j3]
 refine zo (j:=0) (vs:=bC) Z Z Z Z Hx Z Z Z Z zX (zB Z) Z Z Z ?_
 intro ua Hy
 have lP:sW w U fW [.blk eu 29 bC,bU,.blk bw 33 bp,.blk br 29 av,bh,.blk bb 33 aZ,.blk ba 29 ag,az,.blk aw 33 au,ak,aj,ae,B8,.blk aq 29 av,.blk ai 29 ag,an,.blk am 33 ap] ua:=Hy
 refine oA Z Z (eN (zH (sR fL2 Z (oM Z Z (oR Z (Zs Z Z Z) (eN (ifc sg ?_ ?_)))))))
 intro j4 Js
 refine zn (ZI (fun h=>h j4.out)) (kN (rR (wDq (.fx 3 .nil .stop)) Z (oM Z Z (oL Z (lP.ldBA (j:=0) Z Z Z ZG zX (vs:=bC) Z Z) (oR Z (Zm Z Z) (zo (j:=12) (vs:=bC) Z Z Z Z lP Z Z Z Z zX (zB Z) Z Z Z ?_))))))
 intro oU Hz
 have rL:sW w U fW [.blk eu 29 bC,bU,.blk bw 33 bp,.blk br 29 av,bh,.blk bb 33 aZ,.blk ba 29 ag,az,.blk aw 33 au,ak,aj,ae,.blk aY 29 bC,.blk aq 29 av,.blk ai 29 ag,an,.blk am 33 ap] oU:=Hz
 refine zk (zh (zJ (rR fL2 rfl (za rfl rfl rfl rfl (fun _=>zw (zZ rfl wn rfl) (congrArg (jV) (show w64 (2 + 1)=3 by decide))) (zQ rfl rfl rfl rfl rfl rfl (eN (CKR.succ (sR fL1 rfl (za rfl rfl rfl rfl (fun _=>ze rfl rfl wm) (eN (zH (zn (ZI (by decide)) (ZD (zb (zb (zz (zJ (zH (CK.fresh fun dE cP=>?_)))))))))))))))))))
 have wo:dE 3=.int .u8 p3:=(cP 3).trans wb
 have wp:dE 9=.pointer (some ⟨aX,0,none⟩):=(cP 9).trans wc
 have wq:dE 10=.pointer (some ⟨bz,0,none⟩):=(cP 10).trans wd
 have qA:dE 11=.pointer (some ⟨ai,0,none⟩):=(cP 11).trans qx
 have qB:dE 12=.pointer (some ⟨aq,0,none⟩):=(cP 12).trans qy
 have wr:dE 13=.pointer (some ⟨aY,0,none⟩):=(cP 13).trans qz
 have wu:dE 14=jV x92:=(cP 14).trans we
 have wv:dE 62=jV x33:=(cP 62).trans wk
 have ww:dE 63=jV (↑bm:Int):=(cP 63).trans wl
 clear cP
 refine rR (.fl 0 (.fx 1 (wLU (.nil)) .stop)) Z (oL Z (rL.ldBA (j:=14) Z Z qA ZG zX (vs:=ag) Z Z) ?_)
 have CH:=y7.le cg
 have CI:=CH.le ci
 have CJ:=CI.le cU
 have CL:=CJ.le cV
 have CM:=CL.le cW
 have CN:=CM.le dN
 have CO:=CN.le cx
 have CP:=CO.le cy
 have CQ:=CP.le dv
 have CR:=CQ.le dw
 have CT:=CR.le dx
 have re:=CT.le eQ
 have CU:=y8.le cg
 have CV:=CU.le ci
 have CW:=CV.le cU
 have CX:=CW.le cV
 have CY:=CX.le cW
 have CZ:=CY.le dN
 have C0:=CZ.le cx
 have C3:=C0.le cy
 have C4:=C3.le dv
 have C5:=C4.le dw
 have C6:=C5.le dx
 have ri:=C6.le eQ
 have q:=bnd Js
 obtain ⟨⟨gB,Lt⟩,C7,sh⟩:=q
 try dsimp only at sh
 refine zG 0 Z Z Z Z (zF Z Z Tryz.call13 (zA Z zK) Z) rL (fun hs=>wIu cA gO ip gP iq oU fW hs re ri C7) (.inr Z) ?_
 rintro od LZ Oi oW dy HA ⟨iZ,j5,rfl,rfl⟩
 let m7:Res:=.row iZ j5 59 4 (nA wAJ gB)
 have rM:sW w U od [m7,.blk eu 29 bC,bU,.blk bw 33 bp,.blk br 29 av,bh,.blk bb 33 aZ,.blk ba 29 ag,az,.blk aw 33 au,ak,aj,ae,.blk aY 29 bC,.blk aq 29 av,.blk ai 29 ag,an,.blk am 33 ap] oW:=HA
 refine oM Z Z (oR Z (ZB Z Z (v:=.slice iZ gB.length j5) Z) (oR Z (ZB Z Z (v:=jV Lt) Z) (oA Z Z (oA Z Z (eN (sR (.fl 0 (.fx 1 (wLU (.nil)) .stop)) Z (oL Z (rM.ldBA (j:=14) Z Z qB ZG zX (vs:=av) Z Z) ?_)))))))
 have C9:=Bf.le cx
 have Da:=C9.le cy
 have Db:=Da.le dv
 have Dc:=Db.le dw
 have Dd:=Dc.le dx
 have De:=Dd.le eQ
 have rj:=De.le dy
 have Df:=Bg.le cx
 have Dg:=Df.le cy
 have Dh:=Dg.le dv
 have Di:=Dh.le dw
 have Dj:=Di.le dx
 have Dk:=Dj.le eQ
 have rn:=Dk.le dy
 have q:=bnd sh
 obtain ⟨⟨gC,Lu⟩,Dl,sj⟩:=q
 try dsimp only at sj
 refine zG 0 Z Z Z Z (zF Z Z Tryz.call13 (zA Z zK) Z) rM (fun hs=>wIu cD gQ ir gR it oW od hs rj rn Dl) (.inr Z) ?_
 rintro jA L4 Oj ig dz HB ⟨i4,j6,rfl,rfl⟩
 let m8:Res:=.row i4 j6 59 4 (nA wAJ gC)
 have lQ:sW w U jA [m8,m7,.blk eu 29 bC,bU,.blk bw 33 bp,.blk br 29 av,bh,.blk bb 33 aZ,.blk ba 29 ag,az,.blk aw 33 au,ak,aj,ae,.blk aY 29 bC,.blk aq 29 av,.blk ai 29 ag,an,.blk am 33 ap] ig:=HB
 refine oM Z Z (oR Z (ZB Z Z (v:=.slice i4 gC.length j6) Z) (oR Z (ZB Z Z (v:=jV Lu) Z) (oA Z Z (oA Z Z (eN (sR (wQt (.fx 9 (.fl 10 (.fl 11 .nil)) .stop)) Z (oM Z Z (oR Z (Zs Z Z Z) (oM Z Z (ifc sj ?_ ?_))))))))))
 intro eE Jt
 refine zQ Z Z Z (zS Z Z (ZI (fun h=>h eE.out))) Z Z (za Z Z Z (zS Z Z (ZI (fun h=>h eE.out))) (fun _=>Zs Z Z Z) (oR Z (zR Z (ZI (fun h=>h eE.out)) Z) (oM Z Z (ifc Jt ?_ ?_))))
 intro cn Ju
 refine zQ Z Z Z (zS Z Z (ZI (fun h=>h cn.out))) Z Z (zQ Z Z Z (zS Z Z (ZI (fun h=>h cn.out))) Z Z ?_)
 have q:=lQ.freezeR (k:=1) (n:=gB.length) rfl (wAF (f:=wAJ) (sz:=4) (fun _=>rfl) gB) (by decide)
 obtain ⟨tF,dA,KG,HD⟩:=q
 have HF:sW w U tF [m8,.blk eu 29 bC,bU,.blk bw 33 bp,.blk br 29 av,bh,.blk bb 33 aZ,.blk ba 29 ag,az,.blk aw 33 au,ak,aj,ae,.blk aY 29 bC,.blk aq 29 av,.blk ai 29 ag,an,.blk am 33 ap] ig:=HD
 have q:=HF.freezeR (k:=0) (n:=gC.length) rfl (wAF (f:=wAJ) (sz:=4) (fun _=>rfl) gC) (by decide)
 obtain ⟨oe,cX,KH,HG⟩:=q
 have HH:sW w U oe [.blk eu 29 bC,bU,.blk bw 33 bp,.blk br 29 av,bh,.blk bb 33 aZ,.blk ba 29 ag,az,.blk aw 33 au,ak,aj,ae,.blk aY 29 bC,.blk aq 29 av,.blk ai 29 ag,an,.blk am 33 ap] ig:=HG
 have Do:=KG.le cX
 refine bnK Ju fun OI Dp Jv=>zG 0 Z Z Z (zS Z Z (ZI (fun h=>h cn.out))) (zF Z Z Tryz.call14 (zA Z (zA Z zK)) Z) HH (fun hs=>wFF gB iZ j5 gC i4 j6 ig oe hs Do KH Dp) (.inr Z) ?_
 rintro jB L8 Ok ub dB HI ⟨rfl,rfl⟩
 have rN:sW w U jB [.blk eu 29 bC,bU,.blk bw 33 bp,.blk br 29 av,bh,.blk bb 33 aZ,.blk ba 29 ag,az,.blk aw 33 au,ak,aj,ae,.blk aY 29 bC,.blk aq 29 av,.blk ai 29 ag,an,.blk am 33 ap] ub:=HI
 refine za Z Z Z (zS Z Z (ZI (fun h=>h cn.out))) (fun _=>ZX Z Z) (oR Z (zR Z (ZI (fun h=>h cn.out)) Z) (eN (ifc Jv ?_ ?_)))
 intro j7 Jw
 refine zn (nC j7.out) (Zd (zh (zJ (rR fL2 Z (oR Z (zw (zZ Z ww Z) (congrArg (jV) I5.out)) (oM Z Z (zk ?_)))))))
 have q:=nB Jw
 obtain rfl:=q
 have Dq:=CF.le dy
 have Dr:=Dq.le dz
 have Ds:=Dr.le dA
 have Dt:=Ds.le cX
 have Du:=Dt.le dB
 have Dv:=CG.le dy
 have Dw:=Dv.le dz
 have Dx:=Dw.le dA
 have Dy:=Dx.le cX
 have Dz:=Dy.le dB
 have DA:=rj.le dz
 have DB:=DA.le dA
 have DC:=DB.le cX
 have DD:=DC.le dB
 have DE:=rn.le dz
 have DF:=DE.le dA
 have DG:=DF.le cX
 have DH:=DG.le dB
 have DI:=FK.le dC
 have DJ:=DI.le cr
 have DL:=DJ.le ct
 have DM:=DL.le cu
 have DN:=DM.le cw
 have DO:=DN.le bY
 have DP:=DO.le bP
 have DQ:=DP.le bN
 have DR:=DQ.le du
 have DS:=DR.le bZ
 have DT:=DS.le cd
 have DU:=DT.le cQ
 have DV:=DU.le cR
 have DW:=DV.le cS
 have DX:=DW.le dM
 have DY:=DX.le cg
 have DZ:=DY.le ci
 have D0:=DZ.le cU
 have D5:=D0.le cV
 have D6:=D5.le cW
 have D7:=D6.le dN
 have D8:=D7.le cx
 have D9:=D8.le cy
 have Ea:=D9.le dv
 have Eb:=Ea.le dw
 have Ec:=Eb.le dx
 have Ed:=Ec.le eQ
 have Ee:=Ed.le dy
 have Ef:=Ee.le dz
 have Eg:=Ef.le dA
 have Eh:=Eg.le cX
 have Ei:=Eh.le dB
 have Ej:=re.le dy
 have Ek:=Ej.le dz
 have El:=Ek.le dA
 have Em:=El.le cX
 have En:=Em.le dB
 have Eo:=ri.le dy
 have Ep:=Eo.le dz
 have Er:=Ep.le dA
 have Es:=Er.le cX
 have Et:=Es.le dB
 have Eu:=xl.le ct
 have Ev:=Eu.le cu
 have Ew:=Ev.le cw
 have Ey:=Ew.le bY
 have Ez:=Ey.le bP
 have EA:=Ez.le bN
 have EB:=EA.le du
 have EC:=EB.le bZ
 have ED:=EC.le cd
 have EE:=ED.le cQ
 have EF:=EE.le cR
 have EG:=EF.le cS
 have EH:=EG.le dM
 have EI:=EH.le cg
 have EJ:=EI.le ci
 have EK:=EJ.le cU
 have EL:=EK.le cV
 have EM:=EL.le cW
 have EN:=EM.le dN
 have EO:=EN.le cx
 have EP:=EO.le cy
 have EQ:=EP.le dv
 have ER:=EQ.le dw
 have ES:=ER.le dx
 have ET:=ES.le eQ
 have EU:=ET.le dy
 have EV:=EU.le dz
 have EW:=EV.le dA
 have EX:=EW.le cX
 have EY:=EX.le dB
 exact zJ ⟨rfl,_,rfl,⟨jB,iX,jZ,iY,j3,gQ,ir,gR,it,fP,gc,gO,ip,gP,iq,ms,pq,rfl,wo,wp,wq,qA,qB,wr,wu,wv,((((((((((((((((((((((((((((((((((KS.trans dO).trans dP).trans dC).trans cr).trans ct).trans cu).trans cw).trans bY).trans bP).trans bN).trans du).trans bZ).trans cd).trans cQ).trans cR).trans cS).trans dM).trans cg).trans ci).trans cU).trans cV).trans cW).trans dN).trans cx).trans cy).trans dv).trans dw).trans dx).trans eQ).trans dy).trans dz).trans dA).trans cX).trans dB),(rN.pick [12,13,11,14,9] _ (by decide) rfl),Du,Dz,DD,DH,Ei,En,Et,EY⟩⟩
 intro j7 Jy
 refine zu (nF (j7.out)) (sR fL1 Z (oA Z Z (eN (zM (zf (zN ?_))))))
 have q:=wAS Jy
 obtain ⟨La,Jz,uO⟩:=q
 have q:=wCa bL bK (bW La uO)
 obtain rfl:=q
 refine zN (zf (zN ?_))
 have hE:=nB Jz;first | subst r | cases hE
 exact ⟨rfl,_,(zi rfl),jB,_,(rN.pick [] _ (by decide) rfl),rfl,rfl⟩
 intro cn JA
 refine oT Z cn (oT Z cn (ZO Z Z Z (zW Z Z (ZU cn.out) Z) (oT Z cn (oR Z (zj Z (ZU cn.out) Z) (eN (zu Z (sR fL1 Z (oA Z Z (eN (zM (zf (zN ?_))))))))))))
 have q:=wAS JA
 obtain ⟨Lb,JB,uP⟩:=q
 have q:=wCa bL bK (bW Lb uP)
 obtain rfl:=q
 refine zN (zf (zN ?_))
 have hE:=nB JB;first | subst r | cases hE
 exact ⟨rfl,_,(zi rfl),jA,_,(lQ.pick [] _ (by decide) rfl),rfl,rfl⟩
 intro eE JC
 refine oT Z eE (oT Z eE (oR Z (zj Z (ZU eE.out) Z) (oM Z Z (oN Z (oN Z (ZO Z Z Z (zW Z Z Z Z) (oN Z (oR Z (zj Z Z Z) (eN (zu Z (sR fL1 Z (oA Z Z (eN (zM (zf (zN ?_))))))))))))))))
 have q:=wAS JC
 obtain ⟨Lc,JD,uQ⟩:=q
 have q:=wCa bL bK (bW Lc uQ)
 obtain rfl:=q
 refine zN (zf (zN ?_))
 have hE:=nB JD;first | subst r | cases hE
 exact ⟨rfl,_,(zi rfl),jA,_,(lQ.pick [] _ (by decide) rfl),rfl,rfl⟩
 intro j4 JE
 refine cT Z j4 (sR fL1 Z (oA Z Z (eN (zM (zN (zf (zN (zN (zf (zN (zf (zN ?_))))))))))))
 have q:=wAS JE
 obtain ⟨Ld,JF,uR⟩:=q
 have q:=wCa bL bK (bW Ld uR)
 obtain rfl:=q
 refine zN (zf (zN ?_))
 have hE:=nB JF;first | subst r | cases hE
 exact ⟨rfl,_,(zi rfl),fW,_,(lP.pick [] _ (by decide) rfl),rfl,rfl⟩
 intro jY JG
 refine zu (nF (jY.out)) (sR fL1 Z (oA Z Z (eN (zM (zN (zf (zN (zN (zf (zN (zf (zN ?_))))))))))))
 have q:=wAS JG
 obtain ⟨Lf,JH,uS⟩:=q
 have q:=wCa bL bK (bW Lf uS)
 obtain rfl:=q
 refine zN (zf (zN ?_))
 have hE:=nB JH;first | subst r | cases hE
 exact ⟨rfl,_,(zi rfl),g9,_,(lN.pick [] _ (by decide) rfl),rfl,rfl⟩
 intro eD JI
 refine oT Z eD (oT Z eD (oR Z (zj Z (ZU eD.out) Z) (eN (zu Z (sR fL1 Z (oA Z Z (eN (zM (zN (zf (zN (zN (zf (zN (zf (zN ?_))))))))))))))))
 have q:=wAS JI
 obtain ⟨Lg,JJ,uT⟩:=q
 have q:=wCa bL bK (bW Lg uT)
 obtain rfl:=q
 refine zN (zf (zN ?_))
 have hE:=nB JJ;first | subst r | cases hE
 exact ⟨rfl,_,(zi rfl),g9,_,(lN.pick [] _ (by decide) rfl),rfl,rfl⟩
 intro jX JK
 refine cT Z jX (sR fL1 Z (oA Z Z (eN (zM (zN (zf (zN (zN (zf (zN (zf (zN ?_))))))))))))
 have q:=wAS JK
 obtain ⟨Lh,JL,uU⟩:=q
 have q:=wCa bL bK (bW Lh uU)
 obtain rfl:=q
 refine zN (zf (zN ?_))
 have hE:=nB JL;first | subst r | cases hE
 exact ⟨rfl,_,(zi rfl),er,_,(lM.pick [] _ (by decide) rfl),rfl,rfl⟩
 intro jW JM
 refine zu (nF (jW.out)) (sR fL1 Z (oA Z Z (eN (zM (zN (zf (zN (zN (zf (zN (zf (zN ?_))))))))))))
 have q:=wAS JM
 obtain ⟨Li,JN,uV⟩:=q
 have q:=wCa bL bK (bW Li uV)
 obtain rfl:=q
 refine zN (zf (zN ?_))
 have hE:=nB JN;first | subst r | cases hE
 exact ⟨rfl,_,(zi rfl),g8,_,(lK.pick [] _ (by decide) rfl),rfl,rfl⟩
 intro eC JO
 refine oT Z eC (oT Z eC (oR Z (zj Z (ZU eC.out) Z) (eN (zu Z (sR fL1 Z (oA Z Z (eN (zM (zN (zf (zN (zN (zf (zN (zf (zN ?_))))))))))))))))
 have q:=wAS JO
 obtain ⟨Lj,JP,uW⟩:=q
 have q:=wCa bL bK (bW Lj uW)
 obtain rfl:=q
 refine zN (zf (zN ?_))
 have hE:=nB JP;first | subst r | cases hE
 exact ⟨rfl,_,(zi rfl),g8,_,(lK.pick [] _ (by decide) rfl),rfl,rfl⟩
 intro jS JQ
 refine cT Z jS (sR fL1 Z (oA Z Z (eN (zM (zN (zf (zN (zN (zf (zN (zf (zN ?_))))))))))))
 have q:=wAS JQ
 obtain ⟨Lk,JR,uX⟩:=q
 have q:=wCa bL bK (bW Lk uX)
 obtain rfl:=q
 refine zN (zf (zN ?_))
 have hE:=nB JR;first | subst r | cases hE
 exact ⟨rfl,_,(zi rfl),ep,_,(lJ.pick [] _ (by decide) rfl),rfl,rfl⟩
 intro jR JS
 refine zu (nF (jR.out)) (sR fL1 Z (oA Z Z (eN (zM (zN (zf (zN (zN (zf (zN (zf (zN ?_))))))))))))
 have q:=wAS JS
 obtain ⟨Ll,JT,uY⟩:=q
 have q:=wCa bL bK (bW Ll uY)
 obtain rfl:=q
 refine zN (zf (zN ?_))
 have hE:=nB JT;first | subst r | cases hE
 exact ⟨rfl,_,(zi rfl),g7,_,(lH.pick [] _ (by decide) rfl),rfl,rfl⟩
 intro eA JU
 refine oT Z eA (oT Z eA (oR Z (zj Z (ZU eA.out) Z) (eN (zu Z (sR fL1 Z (oA Z Z (eN (zM (zN (zf (zN (zN (zf (zN (zf (zN ?_))))))))))))))))
 have q:=wAS JU
 obtain ⟨Lm,JV,uZ⟩:=q
 have q:=wCa bL bK (bW Lm uZ)
 obtain rfl:=q
 refine zN (zf (zN ?_))
 have hE:=nB JV;first | subst r | cases hE
 exact ⟨rfl,_,(zi rfl),g7,_,(lH.pick [] _ (by decide) rfl),rfl,rfl⟩
 rintro ⟨sY,sZ,s6,tc,te,tg,th,tj,tn,tp,LD,LE,LF,mi,mj,mo,mp,mq,LG,LH,LI⟩ OT uc ⟨tG,my,pC,mz,pD,mA,pE,mB,pF,tq,uL,i5,j8,i6,j9,tu,uM,xf,M0,M2,M3,qC,wx,wy,qD,wz,N0,rO,EZ,E3,E4,E5,NX,ro,rp,NY⟩ IU
 have sn:=wEt bL bK IU
 try dsimp only at sn
 have uN:Hid (¬ ((↑((x33:Int) - 0).toNat:Int) < x33)):=zI (wBH)
 refine sR fL1 Z (oR Z (ze Z xf wz) (eN (zH (cF Z uN (ZD (zb (zb (zz (zJ (sR (.fl 0 (.fx 1 (wVW (.nil)) .stop)) Z ?_))))))))))
 let eh:List Value:=[jV mi,jV mj,jV mo,.slice i5 mp.length j8,.slice i6 mq.length j9]
 refine oL Z (rO.ldBA (j:=3) Z Z qC ZG zX (vs:=eh) Z Z) ?_
 have q:=bnd sn
 obtain ⟨⟨Lv,Lw,Lx⟩,E6,sq⟩:=q
 try dsimp only at sq
 refine zG 0 Z Z Z Z (zF Z Z Tryz.call15 (zA Z zK) Z) rO (fun hs=>wHS (⟨mi,mj,mo,mp,mq⟩:wAU) i5 j8 i6 j9 uc tG hs ro rp E6) (.inr Z) ?_
 rintro oh Mb Ol oX fK HJ ⟨rfl,rfl⟩
 let fc:List Value:=[jV sY,jV sZ,jV s6,.slice my tc.length pC,.slice mz te.length pD]
 let fd:List Value:=[jV tg,jV th,jV tj,.slice mA tn.length pE,.slice mB tp.length pF]
 let fU:Res:=.blk aX 68 [.slice tq LD.length uL,jV LE,.int .u32 LF]
 let fV:Res:=.blk bz 68 [.slice tu LG.length uM,jV LH,.int .u32 LI]
 have rP:sW w U oh [.blk aY 29 fc,.blk aq 29 fd,fU,.blk ai 29 eh,fV] oX:=HJ
 refine oM Z Z (oR Z (ZB Z Z (v:=jV Lv) Z) (oR Z (ZB Z Z (v:=jV Lw) Z) (oR Z (ZB Z Z (v:=jV Lx) Z) (oA Z Z (oA Z Z (oA Z Z (eN (sR (.fl 0 (.fx 1 (wVW (.nil)) .stop)) Z (oL Z (rP.ldBA (j:=1) Z Z wx ZG zX (vs:=fd) Z Z) ?_)))))))))
 have E7:=E4.le fK
 have E8:=E5.le fK
 have q:=bnd sq
 obtain ⟨⟨Ly,Lz,LA⟩,E9,ss⟩:=q
 try dsimp only at ss
 refine zG 0 Z Z Z Z (zF Z Z Tryz.call15 (zA Z zK) Z) rP (fun hs=>wHS (⟨tg,th,tj,tn,tp⟩:wAU) mA pE mB pF oX oh hs E7 E8 E9) (.inr Z) ?_
 rintro oi Mc Om oY iG HK ⟨rfl,rfl⟩
 have rQ:sW w U oi [.blk aY 29 fc,.blk aq 29 fd,fU,.blk ai 29 eh,fV] oY:=HK
 refine oM Z Z (oR Z (ZB Z Z (v:=jV Ly) Z) (oR Z (ZB Z Z (v:=jV Lz) Z) (oR Z (ZB Z Z (v:=jV LA) Z) (oA Z Z (oA Z Z (oA Z Z (eN (sR (.fl 0 (.fx 1 (wLU (.nil)) .stop)) Z (oL Z (rQ.ldBA (j:=3) Z Z qC ZG zX (vs:=eh) Z Z) ?_)))))))))
 have Fa:=ro.le fK
 have Fb:=Fa.le iG
 have Fc:=rp.le fK
 have Fd:=Fc.le iG
 have q:=bnd ss
 obtain ⟨⟨iK,LB⟩,Fe,su⟩:=q
 try dsimp only at su
 refine zG 0 Z Z Z Z (zF Z Z Tryz.call16 (zA Z zK) Z) rQ (fun hs=>wHp (⟨mi,mj,mo,mp,mq⟩:wAU) i5 j8 i6 j9 oY oi hs Fb Fd Fe) (.inr Z) ?_
 rintro ol Md On o3 sM HM ⟨mC,pG,rfl,rfl⟩
 let jt:Res:=.row mC pG 3 1 (nA KL.encI iK)
 have rS:sW w U ol [jt,.blk aY 29 fc,.blk aq 29 fd,fU,.blk ai 29 eh,fV] o3:=HM
 refine oM Z Z (oR Z (ZB Z Z (v:=.slice mC iK.length pG) Z) (oR Z (ZB Z Z (v:=jV LB) Z) (oA Z Z (oA Z Z (eN (sR (.fl 0 (.fx 1 (wLU (.nil)) .stop)) Z (oL Z (rS.ldBA (j:=1) Z Z wy ZG zX (vs:=fc) Z Z) ?_)))))))
 have Ff:=EZ.le fK
 have Fg:=Ff.le iG
 have Fh:=Fg.le sM
 have Fi:=E3.le fK
 have Fj:=Fi.le iG
 have Fk:=Fj.le sM
 have q:=bnd su
 obtain ⟨⟨iL,LC⟩,Fm,sv⟩:=q
 try dsimp only at sv
 refine zG 0 Z Z Z Z (zF Z Z Tryz.call16 (zA Z zK) Z) rS (fun hs=>wHp (⟨sY,sZ,s6,tc,te⟩:wAU) my pC mz pD o3 ol hs Fh Fk Fm) (.inr Z) ?_
 rintro cK Me Oo jN N1 HO ⟨mD,pH,rfl,rfl⟩
 let m9:Res:=.row mD pH 3 1 (nA KL.encI iL)
 have HP:sW w U cK [m9,jt,.blk aY 29 fc,.blk aq 29 fd,fU,.blk ai 29 eh,fV] jN:=HO
 refine zQ rfl rfl rfl rfl rfl rfl (za rfl rfl rfl rfl (fun _=>ZB rfl rfl (v:=.slice mD iL.length pH) rfl) (za rfl rfl rfl rfl (fun _=>ZB rfl rfl (v:=jV LC) rfl) (Ze rfl rfl rfl rfl rfl rfl (Ze rfl rfl rfl rfl rfl rfl (eN (zH (ZT ZH [3,3,3,3,3,3,3,3,3,3,3,3,3,3,3,3,3,3,3,3,3,3,3,3,3,3,3,3,3,3,3,3,3,3,3,1,3,3,3,1,3,3,3,2,3,3] (wVV (.fx 43 (.fl 44 (.fl 45 .nil)) .stop)) (by kernel_rfl) ?_)))))))
 have bJ:=HP.drew
 generalize hw_W2168:({ jN with drawn:=jN.drawn + 1 }:World)=ud at bJ ⊢
 refine oM Z Z (oM Z Z (oR Z (ZR Z Z Z) (oM Z Z (ifc sv ?_ ?_))))
 intro df JW
 refine zQ Z Z Z (wT Z df) Z Z (zQ Z Z Z (wT Z df) Z Z (rU Z (wT Z df) (ZR Z Z Z) (oR Z (zj Z (ZU df.out) Z) (oM Z Z (ifc JW ?_ ?_)))))
 intro dg JX
 refine zQ Z Z Z (wT Z dg) Z Z (zQ Z Z Z (wT Z dg) Z Z (rU Z (wT Z dg) (ZR Z Z Z) (oR Z (zj Z (ZU dg.out) Z) (oM Z Z (ifc JX ?_ ?_)))))
 intro eF JY
 refine zQ Z Z Z (wT Z eF) Z Z (rU Z (wT Z eF) (ZR Z Z Z) (oR Z (zj Z (ZU eF.out) Z) (oM Z Z (ifc JY ?_ ?_))))
 intro eG JZ
 refine zQ Z Z Z (wT Z eG) Z Z (rU Z (wT Z eG) (ZR Z Z Z) (oR Z (zj Z (ZU eG.out) Z) (oM Z Z (ifc JZ ?_ ?_))))
 intro dh J0
 refine zQ Z Z Z (wT Z dh) Z Z (rU Z (wT Z dh) (zy Z Z zL) (rU Z (wT Z dh) (ZR Z Z Z) (oR Z (zj Z (ZU dh.out) Z) (oM Z Z (ifc J0 ?_ ?_)))))
 intro dm J1
 refine zQ Z Z Z (wT Z dm) Z Z (rU Z (wT Z dm) (zy Z Z zL) (rU Z (wT Z dm) (ZR Z Z Z) (oR Z (zj Z (ZU dm.out) Z) (oM Z Z (ifc J1 ?_ ?_)))))
 intro bk J2
 refine zQ Z Z Z (wT Z bk) Z Z (zQ Z Z Z (wT Z bk) Z qD (bnK J2 fun _ iA J3=>?_))
 have q:=bJ.rowSome (j:=0) rfl (by rw [wAF (f:=KL.encI) (sz:=1) (fun _=>rfl) iL];have hz:=wAR iA;omega)
 obtain ⟨MT,ry⟩:=q
 refine rU Z (wT Z bk) (ZQ Z Z ry Z zL zC (wBk iA) (wBl iA)) ?_
 have I1:=wBt (xs:=iL) (wAR iA)
 refine zr rfl rfl rfl (zS rfl rfl (ZU bk.out)) (bJ.ldR (j:=0) rfl ry rfl rfl zO (wAs (sz:=1) (fun _=>rfl) _ _ 0 _ I1 (by first | omega | rfl | simp) rfl)) rfl (zQ rfl rfl rfl (zS rfl rfl (ZU bk.out)) rfl rfl (zQ rfl rfl rfl (zS rfl rfl (ZU bk.out)) rfl qD (bnK J3 fun _ iB J4=>?_)))
 have q:=bJ.rowSome (j:=1) rfl (by rw [wAF (f:=KL.encI) (sz:=1) (fun _=>rfl) iK];have hz:=wAR iB;omega)
 obtain ⟨MU,rA⟩:=q
 refine rU Z (wT Z bk) (ZQ Z Z rA Z zL zC (wBk iB) (wBl iB)) ?_
 have I2:=wBt (xs:=iK) (wAR iB)
 refine zr rfl rfl rfl (zS rfl rfl (ZU bk.out)) (bJ.ldR (j:=1) rfl rA rfl rfl zO (wAs (sz:=1) (fun _=>rfl) _ _ 0 _ I2 (by first | omega | rfl | simp) rfl)) rfl (za rfl rfl rfl (zS rfl rfl (ZU bk.out)) (fun _=>yP rfl rfl rfl) (za rfl rfl rfl rfl (fun _=>zj rfl (ZU bk.out) rfl) (zQ rfl rfl rfl rfl rfl rfl (ifc J4 ?_ ?_))))
 intro f7 J5
 refine bnK J5 fun OJ Fo J6=>zG 0 Z Z Z (wT Z f7) (zF Z Z Tryz.call17 zK Z) bJ (fun hs=>wGe ud cK hs Fo) (.inr Z) ?_
 rintro om Mf Ot ue N3 HQ ⟨rfl,rfl⟩
 have HR:sW w U om [m9,jt,.blk aY 29 fc,.blk aq 29 fd,fU,.blk ai 29 eh,fV] ue:=HQ
 refine oR Z (zj Z (ZU f7.out) Z) (oA Z Z (eN (zM ?_)))
 have hE:=nB J6;first | subst r | cases hE
 exact ⟨rfl,_,(zi rfl),om,_,(HR.pick [] _ (by decide) rfl),rfl,rfl⟩
 intro f7 J7
 refine ZO Z Z Z (zW Z Z (ZI f7.out) Z) (oR Z (zR Z (ZI f7.out) Z) (oA Z Z (eN (zM ?_))))
 have hE:=nB J7;first | subst r | cases hE
 exact ⟨rfl,_,(zi rfl),cK,_,(bJ.pick [] _ (by decide) rfl),rfl,rfl⟩
 intro bk J8
 refine oF Z bk (oF Z bk (oF Z bk (oF Z bk (oF Z bk (oF Z bk (oF Z bk (oF Z bk (oF Z bk (oR Z (zR Z (ZI bk.out) Z) (oM Z Z (ZO Z Z Z (zW Z Z Z Z) (oR Z (zR Z Z Z) (oA Z Z (eN (zM ?_)))))))))))))))
 have hE:=nB J8;first | subst r | cases hE
 exact ⟨rfl,_,(zi rfl),cK,_,(bJ.pick [] _ (by decide) rfl),rfl,rfl⟩
 intro dm J9
 refine oF Z dm (oF Z dm (oF Z dm (oR Z (zR Z (ZI dm.out) Z) (oM Z Z (oN Z (oN Z (oN Z (oN Z (oN Z (oN Z (oN Z (oN Z (oN Z (oR Z (zR Z Z Z) (oM Z Z (ZO Z Z Z (zW Z Z Z Z) (oR Z (zR Z Z Z) (oA Z Z (eN (zM ?_))))))))))))))))))))
 have hE:=nB J9;first | subst r | cases hE
 exact ⟨rfl,_,(zi rfl),cK,_,(bJ.pick [] _ (by decide) rfl),rfl,rfl⟩
 intro dh Ka
 refine oF Z dh (oF Z dh (oF Z dh (oR Z (zR Z (ZI dh.out) Z) (oM Z Z (oN Z (oN Z (oN Z (oR Z (zR Z Z Z) (oM Z Z (oN Z (oN Z (oN Z (oN Z (oN Z (oN Z (oN Z (oN Z (oN Z (oR Z (zR Z Z Z) (oM Z Z (ZO Z Z Z (zW Z Z Z Z) (oR Z (zR Z Z Z) (oA Z Z (eN (zM ?_)))))))))))))))))))))))))
 have hE:=nB Ka;first | subst r | cases hE
 exact ⟨rfl,_,(zi rfl),cK,_,(bJ.pick [] _ (by decide) rfl),rfl,rfl⟩
 intro eG Kb
 refine oF Z eG (oF Z eG (oR Z (zR Z (ZI eG.out) Z) (oM Z Z (oN Z (oN Z (oN Z (oR Z (zR Z Z Z) (oM Z Z (oN Z (oN Z (oN Z (oR Z (zR Z Z Z) (oM Z Z (oN Z (oN Z (oN Z (oN Z (oN Z (oN Z (oN Z (oN Z (oN Z (oR Z (zR Z Z Z) (oM Z Z (ZO Z Z Z (zW Z Z Z Z) (oR Z (zR Z Z Z) (oA Z Z (eN (zM ?_)))))))))))))))))))))))))))))
 have hE:=nB Kb;first | subst r | cases hE
 exact ⟨rfl,_,(zi rfl),cK,_,(bJ.pick [] _ (by decide) rfl),rfl,rfl⟩
 intro eF Kc
 refine oF Z eF (oF Z eF (oR Z (zR Z (ZI eF.out) Z) (oM Z Z (oN Z (oN Z (oR Z (zR Z Z Z) (oM Z Z (oN Z (oN Z (oN Z (oR Z (zR Z Z Z) (oM Z Z (oN Z (oN Z (oN Z (oR Z (zR Z Z Z) (oM Z Z (oN Z (oN Z (oN Z (oN Z (oN Z (oN Z (oN Z (oN Z (oN Z (oR Z (zR Z Z Z) (oM Z Z (ZO Z Z Z (zW Z Z Z Z) (oR Z (zR Z Z Z) (oA Z Z (eN (zM ?_)))))))))))))))))))))))))))))))))
 have hE:=nB Kc;first | subst r | cases hE
 exact ⟨rfl,_,(zi rfl),cK,_,(bJ.pick [] _ (by decide) rfl),rfl,rfl⟩
 intro dg Kd
 refine oF Z dg (oF Z dg (oF Z dg (oR Z (zR Z (ZI dg.out) Z) (oM Z Z (oN Z (oN Z (oR Z (zR Z Z Z) (oM Z Z (oN Z (oN Z (oR Z (zR Z Z Z) (oM Z Z (oN Z (oN Z (oN Z (oR Z (zR Z Z Z) (oM Z Z (oN Z (oN Z (oN Z (oR Z (zR Z Z Z) (oM Z Z (oN Z (oN Z (oN Z (oN Z (oN Z (oN Z (oN Z (oN Z (oN Z (oR Z (zR Z Z Z) (oM Z Z (ZO Z Z Z (zW Z Z Z Z) (oR Z (zR Z Z Z) (oA Z Z (eN (zM ?_))))))))))))))))))))))))))))))))))))))
 have hE:=nB Kd;first | subst r | cases hE
 exact ⟨rfl,_,(zi rfl),cK,_,(bJ.pick [] _ (by decide) rfl),rfl,rfl⟩
 intro df Ke
 refine oF Z df (oF Z df (oF Z df (oR Z (zR Z (ZI df.out) Z) (oM Z Z (oN Z (oN Z (oN Z (oR Z (zR Z Z Z) (oM Z Z (oN Z (oN Z (oR Z (zR Z Z Z) (oM Z Z (oN Z (oN Z (oR Z (zR Z Z Z) (oM Z Z (oN Z (oN Z (oN Z (oR Z (zR Z Z Z) (oM Z Z (oN Z (oN Z (oN Z (oR Z (zR Z Z Z) (oM Z Z (oN Z (oN Z (oN Z (oN Z (oN Z (oN Z (oN Z (oN Z (oN Z (oR Z (zR Z Z Z) (oM Z Z (ZO Z Z Z (zW Z Z Z Z) (oR Z (zR Z Z Z) (oA Z Z (eN (zM ?_)))))))))))))))))))))))))))))))))))))))))))
 have hE:=nB Ke;first | subst r | cases hE
 exact ⟨rfl,_,(zi rfl),cK,_,(bJ.pick [] _ (by decide) rfl),rfl,rfl⟩
end Go.Proofs.YtlkkhhcfemmmdaaGreat
