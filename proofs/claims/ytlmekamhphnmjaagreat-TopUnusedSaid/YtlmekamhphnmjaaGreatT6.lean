import Derived.Test.YtlmekamhphnmjaaGreatT5
import Derived.Test.YtlmekamhphnmjaaGreatT4
set_option linter.all false
open List renaming flatMap->hD,length_set->nD,set->nE,getElem_cons_succ->nG,getElem_cons_zero->nH,getElem_toArray->nI,all_eq_true->nM
open Go.Value renaming bool->hM
open Bool renaming eq_false_iff->nA
open Option.some renaming inj->nB
open Int renaming toNat_natCast->nJ
open Prod.mk renaming injEq->nK
open Eq renaming trans->nL
namespace Go.Proofs.YtlmekamhphnmjaaGreat
open Go.KL
def gAw:Sch:=.fx 1 (.fl 2 .nil) .stop
def gAx:Sch:=.fx 11 (.fx 12 .nil .stop) .stop
def gAy:Sch:=.fx 10 (.fx 12 .nil .stop) .stop
def gAz:Sch:=.fl 0 (.fx 1 .nil .stop)
def gBa:Sch:=.fx 0 (.fl 1 .nil) .stop
def gBb:Sch:=.fx 2 (.fx 3 .nil .stop) .stop
def gBc:Sch:=.fx 6 (.fl 7 .nil) .stop
def gBd:Sch:=.fx 5 (.fl 6 .nil) .stop
def gBe:Sch:=.fx 4 (.fl 5 .nil) .stop
def gBf:Sch:=.fl 10 (.fx 12 .nil .stop)
def gBg:Sch:=.fl 0 gAw
def gBh:Sch:=.fx 0 gAw .stop
def gBi:Sch:=.fx 0 (.fl 1 (.fl 2 .nil)) .stop
def gBj:Sch:=.fx 5 gBc .stop
def gBk:Sch:=.fx 4 gBd .stop
def gBl:Sch:=.fl 0 (.fl 1 (.fx 2 .nil .stop))
def gBm:Sch:=.fx 6 (.fl 7 (.fl 8 .nil)) .stop
def gBn:Sch:=.fx 17 (.fl 18 (.fl 19 .nil)) .stop
def gBo:Sch:=.fx 3 gBe .stop
def gBp:Sch:=.fx 9 gBf .stop
def gBq:Sch:=.fx 5 gBf .stop
def gBr:Sch:=.fx 8 (.fl 9 gAy) .stop
def gBs:Sch:=.fx 4 (.fl 9 gAy) .stop
def gBt:Sch:=.fl 0 (.fl 1 (.fx 2 (.fl 3 .nil) .stop))
def gBu:Sch:=.fl 0 (.fl 1 gBb)
def gBv:Sch:=.fl 0 (.fx 1 gBb .stop)
def gBw:Sch:=.fx 4 (.fx 9 (.fx 10 (.fx 11 (.fl 12 .nil) .stop) .stop) .stop) .stop
def gBx:Sch:=.fl 9 (.fx 10 gAx (.fx 11 gAy .stop))
def gBy:Sch:=.fl 0 (.fl 1 (.fx 2 (.fl 3 (.fl 4 .nil)) .stop))
set_option maxHeartbeats 4000000
theorem wDz (p0:List wAN) (ab:Option Addr) (ac:Nat) (p1:((wAN × wAN)->Option Int)) (ae:Value) (w:World) (U:PHeap) (hS:St ⟨w,[.row ab ac 181 4 (hD wAb p0)],U⟩ U [.row ab ac 181 4 (hD wAb p0)] w) (ag:FnOK Tryz.prog U ae wPV wPW p1) (ah:∃ g cb,ae=.func (.func g) #[] cb) {r:List wAN} (hm:wBF p0 p1=some r):Gv Tryz.prog 181 [.slice ab p0.length ac,ae] w (wBj w [.row ab ac 181 4 (hD wAb p0)] U (fun U_ L_ v=>v=.tuple #[]/\L_=[.row ab ac 181 4 (hD wAb r)]/\r.length=p0.length)) :=
 wGq (sz:=4) (fun _=>rfl) (fun x v h=>nM.1 (show (wAb x).all (·.oneCell')=true from rfl) v h) (fun _ _ _=>rfl) (fun _ _ _ _ h=>h.1) (fun enc a1 a2 cf b g cb k1 k2 k3 d w h1 h2 h3 h4 h5 h6=>Go.Proofs.Tryz.slices_SortFunc_total_f181 4 Tryz.isAgg181 Tryz.sizeOf181 enc a1 a2 cf b g cb k1 k2 k3 d w h1 h2 h3 h4 h5 h6) (fun p c v w=>Go.Proofs.Tryz.slices_SortFunc_none_f181 (α:=Int) p c v w) hS ag (by decide) ah hm
theorem wGH (p0:Int) (w:World) (U:PHeap) (hS:St0 w U [])  {r:Bool} (hm:wCh p0=some r):Gv Tryz.prog 94 [jV p0] w (wBj w [] U (fun U_ L_ v=>v=.bool r/\L_=[])):=by
 unfold wCh at hm
 refine Gv.of Tryz.func94 Z Tryz.ntmps94 Tryz.results94 Z (sR fL1 Z (oA Z Z (eN (sR fL4 Z (oM Z Z (oM Z Z (oR Z (Ze Z Z Z) (oA Z Z (eN (zP ?_))))))))))
 first | (obtain rfl:=nB hm) | cases hm
 exact ⟨Z,_,(zj Z),U,_,hS,Z,Z⟩
theorem wBg (p0:Int) (p1:Int) (w:World) (U:PHeap) (hS:St0 w U [])  {r:Int} (hm:wAh p0 p1=some r):Gv Tryz.prog 41 [jV p0,jV p1] w (wBj w [] U (fun U_ L_ v=>v=jV r/\L_=[])):=by
 unfold wAh at hm
 refine Gv.of Tryz.func41 Z Tryz.ntmps41 Tryz.results41 Z (sR fL1 Z (oA Z Z (eN (sR gBg Z (oM Z Z (bnK hm fun x1 h2 aP=>zI 0 Z Z Z Z (zJ Z Z Tryz.call94 (zA Z zM) Z) hS (fun hs=>wGH p0 w U hs h2) (.inr Z) ?_))))))
 rintro U4 L5 v6 W7 aX av ⟨rfl,rfl⟩
 have aq:sW w U U4 [] W7:=av
 refine oA Z Z (eN (sR gBg Z (oM Z Z (bnK aP fun bb ao aw=>zI 0 Z Z Z Z (zJ Z Z Tryz.call94 (zA Z zM) Z) aq (fun hs=>wGH p1 W7 U4 hs ao) (.inr Z) ?_))))
 rintro aa aU aY an aW au ⟨rfl,rfl⟩
 have ab:sW w U aa [] an:=au
 refine oA Z Z (eN (zK (sR fL1 Z (oM Z Z (eN (ifc aw ?_ ?_))))))
 intro ac ax
 refine zx (congrArg hM ac.out) (zK (sR fL1 Z (oM Z Z (eN (ifc ax ?_ ?_)))))
 intro ae ay
 refine zx (congrArg hM ae.out) (sR fL1 Z (oA Z Z (eN (zP (zZ (zZ ?_))))))
 cases ay
 exact ⟨Z,_,(zj Z),aa,_,ab,Z,Z⟩
 intro ae az
 refine zg (congrArg hM (nA.2 ae.out)) (kN (sR fL1 Z (oA Z Z (eN (zP (zZ ?_))))))
 cases az
 exact ⟨Z,_,(zj Z),aa,_,ab,Z,Z⟩
 intro ac aM
 refine zg (congrArg hM (nA.2 ac.out)) (kN (zK (sR fL1 Z (oM Z Z (eN (ifc aM ?_ ?_))))))
 intro af aN
 refine zx (congrArg hM af.out) (sR fL1 Z (oA Z Z (eN (zP (zZ ?_)))))
 cases aN
 exact ⟨Z,_,(zj Z),aa,_,ab,Z,Z⟩
 intro af aO
 refine zg (congrArg hM (nA.2 af.out)) (kN (zK (sR fL3 Z (oM Z Z (oM Z Z (oR Z (zR Z Z Z) (eN (ifc aO ?_ ?_))))))))
 intro ag aQ
 refine cT Z ag (sR fL1 Z (oA Z Z (eN (zP (zZ ?_)))))
 cases aQ
 exact ⟨Z,_,(zj Z),aa,_,ab,Z,Z⟩
 intro ag aR
 refine cF Z ag (kN (zK (sR fL3 Z (oM Z Z (oM Z Z (oR Z (yP Z Z Z) (eN (ifc aR ?_ ?_))))))))
 intro ah aS
 refine cT Z ah (sR fL1 Z (oA Z Z (eN (zP (zZ ?_)))))
 cases aS
 exact ⟨Z,_,(zj Z),aa,_,ab,Z,Z⟩
 intro ah aT
 refine cF Z ah (kN (sR fL1 Z (oA Z Z (eN (zP ?_)))))
 cases aT
 exact ⟨Z,_,(zj Z),aa,_,ab,Z,Z⟩
theorem wGI (p0:List Int) (aj:Option Addr) (ak:Nat) (w:World) (U:PHeap) (hS:St0 w U []) (aU:Sl U 1 aj ak p0.length (hD KL.encI p0)) {r:Int} (hm:wCx p0=some r):Gv Tryz.prog 40 [.slice aj p0.length ak] w (wBj w [] U (fun U_ L_ v=>v=jV r/\L_=[])):=by
 unfold wCx at hm
 refine Gv.of Tryz.func40 Z Tryz.ntmps40 Tryz.results40 Z (sR fL1 Z (oA Z Z (eN (sR fL1 Z (oA Z Z (eN (zK (sR fL3 Z (oM Z Z (oR Z (ze Z Z zH) (oM Z Z (eN (zU ?_)))))))))))))
 have q:=wDA hm
 obtain ⟨r3,ag⟩:=q
 have q:=wCz ag
 obtain ⟨ai,aX⟩:=q
 replace ai:=zG ai
 refine ya (fun k2 _ J_ w_=>∃ (U_:PHeap),J_ 8=jV (↑k2:Int)/\J_ 3=jV 0/\J_ 6=.slice aj p0.length ak/\J_ 7=jV (↑p0.length:Int)/\PHeap.Le U U_/\sW w U U_ [] w_) aX ?_ ?_ ?_
 exact ⟨U,Z,Z,Z,Z,(zQ _),hS⟩
 rintro k2 ⟨⟩ bu J7 W8 ah ⟨am,ae,ao,ap,aq,ax,af⟩ aw aV
 try dsimp only at aw
 have an:Hid ((↑k2:Int) < (↑p0.length:Int)):=zG (wBR ah)
 replace ah:=zG ah
 have aY:Hid (w64 ((↑k2:Int) + 1)=(↑(k2 + 1):Int)):=zG (by have h1:=ai.out;have h2:=an.out;rw [wAa] <;> omega)
 refine sR fL1 Z (oR Z (zR Z ae aq) (eN (zK (cT Z an (kN (zK (zU (sR fL3 Z (bnK aw fun bh au aZ=>?_)))))))))
 have aQ:=aU.le ax
 have q:=aQ.el (fun _=>rfl) (wAk au)
 obtain ⟨bn,br,aR,aS⟩:=q
 refine oR Z (ZD Z ap aR ae zH zD (wBi au)) (oL Z (af.ldC (f:=0) aS (v:=jV bh) Z Z zN Z) (oA Z Z (eN (sR fL3 Z (oM Z Z (oM Z ao (oR Z (Ze Z Z Z) (eN (ifc aZ ?_ ?_)))))))))
 intro ac ba
 refine zg (zo (fun h=>h ac.out)) (ZE (za (zF (rR fL2 Z (oR Z (zr (zX Z ae Z) (congrArg (jV) aY.out)) (oM Z Z (zb ?_)))))))
 have q:=nB ba
 obtain rfl:=q
 exact zF ⟨Z,_,Z,⟨am,Z,ao,ap,aq,ax,af⟩⟩
 intro ac bb
 refine cT Z ac (sR fL2 Z (oM Z Z (oA Z Z (eN (zP (zm (zZ ?_)))))))
 have q:=wAq bb
 obtain ⟨bg,be,aM⟩:=q
 have q:=wDj hm ag (aV bg aM)
 obtain rfl:=q
 refine zZ (zm (zZ ?_))
 have hE:=nB be;first | subst r | cases hE
 exact ⟨Z,_,(zj Z),am,_,af,Z,Z⟩
 rintro ⟨⟩ bi bk ⟨ay,aP,aN,bp,aO,bq,aT⟩ aW
 have av:=wEC hm ag aW
 try dsimp only at av
 have az:Hid (¬ ((↑(((↑p0.length:Int):Int) - 0).toNat:Int) < (↑p0.length:Int))):=zG (wAr)
 refine sR fL1 Z (oR Z (zR Z aP aO) (eN (zK (cF Z az (ZG (zc (zc (zz (zF (sR fL2 Z (oM Z aN (oA Z Z (eN (zP ?_))))))))))))))
 cases av
 exact ⟨Z,_,(zj Z),ay,_,aT,Z,Z⟩
theorem wJJ (p0:wAN) (p1:wAN) (w:World) (U:PHeap) (hS:St0 w U [])  {r:Int} (hm:wBV p0 p1=some r):Gv Tryz.prog 182 [.agg #[jV p0.Bib,jV p0.Done,jV p0.Time,jV p0.By],.agg #[jV p1.Bib,jV p1.Done,jV p1.Time,jV p1.By]] w (wBj w [] U (fun U_ L_ v=>v=jV r/\L_=[])):=by
 unfold wBV at hm
 refine Gv.of Tryz.func182 Z Tryz.ntmps182 Tryz.results182 Z (sR gBh Z ?_)
 let B0:List Value:=[jV p0.Bib,jV p0.Done,jV p0.Time,jV p0.By]
 refine ZB (cs:=B0) rfl rfl rfl rfl rfl rfl (by rfl) hS ?_
 intro W1 b2 aR
 let B1:List Value:=[jV p1.Bib,jV p1.Done,jV p1.Time,jV p1.By]
 refine ZB (cs:=B1) rfl rfl rfl rfl rfl rfl (by rfl) aR ?_
 intro W5 b6 aZ
 refine ye rfl rfl rfl rfl rfl rfl (eN (zK (ZQ ZK [3,1,3,1,2,3,1,3,1,2,2,2,3] (wEv (wHl gBw)) (by kernel_rfl) ?_)))
 have af:=aZ.drew
 generalize hw_W10:({ W5 with drawn:=W5.drawn + 1 }:World)=aw at af ⊢
 refine oR Z (zC Z Z YF Z zD) (oL Z (af.ldB (j:=1) Z Z Z zN (v:=jV p0.Time) Z) (oR Z (zC Z Z YF Z zD) (oL Z (af.ldB (j:=0) Z Z Z zN (v:=jV p1.Time) Z) (oR Z (zC Z Z YF Z zD) (oL Z (af.ldB (j:=1) Z Z Z zN (v:=jV p0.Bib) Z) (oR Z (zC Z Z YF Z zD) (oL Z (af.ldB (j:=0) Z Z Z zN (v:=jV p1.Bib) Z) (bnK hm fun ag az ba=>zI 0 Z Z Z Z (zJ Z Z YL (zA Z (zA Z zM)) Z) af (fun hs=>wBg p0.Time p1.Time aw U hs az) (.inr Z) ?_))))))))
 rintro am bh br aq bm aO ⟨rfl,rfl⟩
 have aP:sW w U am [.blk b6 181 B1,.blk b2 181 B0] aq:=aO
 refine bnK ba fun ah aM bb=>zI 0 Z Z Z Z (zJ Z Z YL (zA Z (zA Z zM)) Z) aP (fun hs=>wBg p0.Bib p1.Bib aq am hs aM) (.inr Z) ?_
 rintro an bi bs ax bn aQ ⟨rfl,rfl⟩
 have aS:sW w U an [.blk b6 181 B1,.blk b2 181 B0] ax:=aQ
 refine ZF (pv:=[(0,jV ag),(1,jV ah)]) (zs:=[jV 0,jV 0]) (cs:=[jV ag,jV ah]) Z Z Z Z Z (wAH Z (wAH Z wAY)) zH zD Zr Z Z Z Z Z aS ?_
 intro ak av aT
 have aU:sW w U an [.row (some ⟨av,0,none⟩) 2 3 1 (hD KL.encI [ag,ah]),.blk b6 181 B1,.blk b2 181 B0] ak:=aT
 have q:=aU.freezeR (k:=0) (n:=[ag,ah].length) rfl (wAG (f:=KL.encI) (sz:=1) (fun _=>rfl) [ag,ah]) (by decide)
 obtain ⟨ao,bp,bg,aV⟩:=q
 have aW:sW w U ao [.blk b6 181 B1,.blk b2 181 B0] ak:=aV
 refine bnK bb fun bw aN be=>zI 0 Z Z Z Z (zJ Z Z Tryz.call40 (zA Z zM) Z) aW (fun hs=>wGI [ag,ah] (some ⟨av,0,none⟩) 2 ak ao hs bg aN) (.inr Z) ?_
 rintro ap bj bu ay bq aX ⟨rfl,rfl⟩
 have aY:sW w U ap [.blk b6 181 B1,.blk b2 181 B0] ay:=aX
 refine oA Z Z (eN (zP ?_))
 have hE:=nB be;first | subst r | cases hE
 exact ⟨rfl,_,(zj rfl),ap,_,(aY.pick [] _ (by decide) rfl),rfl,rfl⟩
theorem wIH (p0:wAT) (ah:Option Addr) (ai:Nat) (ap:Option Addr) (aq:Nat) (w:World) (U:PHeap) (hS:St0 w U []) (mY:Sl U 1 ah ai p0.Bibs.length (hD KL.encI p0.Bibs)) (mZ:SlR U wFw ap aq p0.Times) {r:wAK × (List wAN)} (hm:wDB p0=some r):Gv Tryz.prog 119 [.agg #[jV p0.Laps,.slice ah p0.Bibs.length ai,.slice ap p0.Times.length aq]] w (wBj w [] U (fun U_ L_ v=>∃ (b0:Nat) (A0p01:Option Addr) (c0p01:Nat) (A0p02:Option Addr) (c0p02:Nat) (A0p1:Option Addr) (c0p1:Nat) (A0p2:Option Addr) (c0p2:Nat) (A1:Option Addr) (c1:Nat),v=.tuple #[.pointer (some ⟨b0,0,none⟩),.slice A1 r.2.length c1]/\L_=[.blk b0 243 [jV r.1.Race.Laps,.slice A0p01 r.1.Race.Bibs.length c0p01,.slice A0p02 r.1.Race.Times.length c0p02,.slice A0p1 r.1.done.length c0p1,.slice A0p2 r.1.out.length c0p2],.row A0p1 c0p1 3 1 (hD KL.encI r.1.done),.row A0p2 c0p2 4 1 (hD KL.encT r.1.out),.row A1 c1 181 4 (hD wAb r.2)]/\Sl U_ 1 A0p01 c0p01 r.1.Race.Bibs.length (hD KL.encI r.1.Race.Bibs)/\SlR U_ wFw A0p02 c0p02 r.1.Race.Times)):=by
 unfold wDB at hm
 refine Go.KX.Gv.ofM Tryz.func119 Z Tryz.ntmps119 Tryz.results119 (zB Z) (sR gBi Z ?_)
 let B0:List Value:=[jV p0.Laps,.slice ah p0.Bibs.length ai,.slice ap p0.Times.length aq]
 refine ZB (cs:=B0) rfl rfl rfl rfl rfl rfl (by rfl) hS ?_
 intro W1 b2 mx
 refine oA Z Z (oA Z Z (eN ?_))
 have q:=bnd hm
 obtain ⟨⟨l9,cI⟩,oB,gf⟩:=q
 try dsimp only at gf
 refine YC (fun J_ w_=>∃ (U_:PHeap) (b6:Nat) (b8:Nat) (bs:Option Addr) (bN:Nat) (bB:Option Addr) (bR:Nat),J_ 1=.pointer (some ⟨b2,0,none⟩)/\J_ 4=.pointer (some ⟨b6,0,none⟩)/\PHeap.Le U U_/\sW w U U_ [.blk b2 175 B0,.blk b6 239 [.pointer (some ⟨b8,0,none⟩)],.blk b8 243 [jV p0.Laps,.slice ah p0.Bibs.length ai,.slice ap p0.Times.length aq,.slice bs l9.length bN,.slice bB cI.length bR],.row bs bN 3 1 (hD KL.encI l9),.row bB bR 4 1 (hD KL.encT cI)] w_) ?_ ?_
 refine bnK oB fun ae de ot=>bnK ot fun af df ou=>ZQ ZK [1,3,1,3,2,3,1,3,2,3,2,2,0] (wEv (fC5_7 (.fx 4 (.fx 8 gBx (.fx 11 gBr .stop)) (.fx 8 (.fx 4 gBx (.fx 11 gBs .stop)) (.fx 11 (.fx 4 gBr (.fx 8 gBs .stop)) .stop))))) (by kernel_rfl) ?_
 have bq:=mx.drew
 generalize hw_W48:({ W1 with drawn:=W1.drawn + 1 }:World)=pV at bq ⊢
 refine OKS.cutD (s:=.nil) (M:=fun J_ w_=>∃ (U_:PHeap) (cY:Nat) (cx:Nat) (bC:Option Addr) (bS:Nat) (bD:Option Addr) (bT:Nat),J_ 1=.pointer (some ⟨b2,0,none⟩)/\J_ 4=.pointer (some ⟨cY,0,none⟩)/\J_ 12=.agg B0.toArray/\J_ 13=.pointer (some ⟨b2,1,none⟩)/\J_ 14=.slice ah p0.Bibs.length ai/\J_ 15=jV (↑p0.Bibs.length:Int)/\J_ 16=.slice bC ae.length bS/\J_ 17=.pointer (some ⟨b2,1,none⟩)/\J_ 18=.slice ah p0.Bibs.length ai/\J_ 19=jV (↑p0.Bibs.length:Int)/\J_ 20=.slice bD af.length bT/\J_ 21=.agg #[jV p0.Laps,.slice ah p0.Bibs.length ai,.slice ap p0.Times.length aq,.slice bC ae.length bS,.slice bD af.length bT]/\J_ 22=.pointer (some ⟨cx,0,none⟩)/\PHeap.Le U U_/\sW w U U_ [.blk b2 175 B0,.blk cY 239 [.pointer (some ⟨cx,0,none⟩)],.blk cx 243 [jV p0.Laps,.slice ah p0.Bibs.length ai,.slice ap p0.Times.length aq,.slice bC ae.length bS,.slice bD af.length bT],.row bC bS 3 1 (hD KL.encI ae),.row bD bT 4 1 (hD KL.encT af)] w_) ?_ fun oC=>?_
 rintro pd pH ⟨gL,cY,cx,bC,bS,bD,bT,iE,iF,qf,qg,qh,qi,qj,qk,ql,qm,qn,qo,qp,oK,mn⟩
 refine zb ?_
 have fV:=nB ou
 simp only [nK] at fV
 obtain ⟨lx,ly⟩:=fV
 subst lx
 subst ly
 exact zF ⟨Z,⟨gL,cY,cx,bC,bS,bD,bT,iE,iF,oK,mn⟩⟩
 refine OKS.cutD (s:=.fx 12 .nil .stop) (M:=fun J_ w_=>∃ (U_:PHeap) (cy:Nat) (aW:Option Addr) (bg:Nat) (aX:Option Addr) (bh:Nat) (bK:Nat),J_ 1=.pointer (some ⟨b2,0,none⟩)/\J_ 4=.pointer (some ⟨cy,0,none⟩)/\J_ 12=.agg B0.toArray/\J_ 13=.pointer (some ⟨b2,1,none⟩)/\J_ 14=.slice ah p0.Bibs.length ai/\J_ 15=jV (↑p0.Bibs.length:Int)/\J_ 16=.slice aW ae.length bg/\J_ 17=.pointer (some ⟨b2,1,none⟩)/\J_ 18=.slice ah p0.Bibs.length ai/\J_ 19=jV (↑p0.Bibs.length:Int)/\J_ 20=.slice aX af.length bh/\J_ 21=.agg #[jV p0.Laps,.slice ah p0.Bibs.length ai,.slice ap p0.Times.length aq,.slice aW ae.length bg,.slice aX af.length bh]/\J_ 22=.pointer (some ⟨bK,0,none⟩)/\PHeap.Le U U_/\sW w U U_ [.blk b2 175 B0,.blk cy 239 [.pointer none],.row aW bg 3 1 (hD KL.encI ae),.row aX bh 4 1 (hD KL.encT af),.blk bK 243 [jV p0.Laps,.slice ah p0.Bibs.length ai,.slice ap p0.Times.length aq,.slice aW ae.length bg,.slice aX af.length bh]] w_) ?_ fun ee=>?_
 rintro pe pI ⟨eP,cy,aW,bg,aX,bh,bK,iG,fz,iH,iI,iJ,iK,iL,iM,iN,iO,iP,iQ,fA,oO,mo⟩
 let B1:List Value:=[.pointer (some ⟨bK,0,none⟩)]
 refine ZA (j:=1) (vs:=B1) Z Z Z Z mo Z fz fA Z Tryz.sizeOf239 (zB Z) Z Z Z ?_
 intro gV mp
 have mq:sW w U eP [.blk b2 175 B0,.blk cy 239 B1,.row aW bg 3 1 (hD KL.encI ae),.row aX bh 4 1 (hD KL.encT af),.blk bK 243 [jV p0.Laps,.slice ah p0.Bibs.length ai,.slice ap p0.Times.length aq,.slice aW ae.length bg,.slice aX af.length bh]] gV:=mp
 exact oC _ _ ⟨eP,cy,bK,aW,bg,aX,bh,iG,fz,iH,iI,iJ,iK,iL,iM,iN,iO,iP,iQ,fA,oO,(mq.pick [0,1,4,2,3] _ (by decide) rfl)⟩
 refine OKS.cutD (s:=gAy) (M:=fun J_ w_=>∃ (U_:PHeap) (cZ:Nat) (bE:Option Addr) (bU:Nat) (bF:Option Addr) (bV:Nat),J_ 1=.pointer (some ⟨b2,0,none⟩)/\J_ 4=.pointer (some ⟨cZ,0,none⟩)/\J_ 12=.agg B0.toArray/\J_ 13=.pointer (some ⟨b2,1,none⟩)/\J_ 14=.slice ah p0.Bibs.length ai/\J_ 15=jV (↑p0.Bibs.length:Int)/\J_ 16=.slice bE ae.length bU/\J_ 17=.pointer (some ⟨b2,1,none⟩)/\J_ 18=.slice ah p0.Bibs.length ai/\J_ 19=jV (↑p0.Bibs.length:Int)/\J_ 20=.slice bF af.length bV/\J_ 21=.agg #[jV p0.Laps,.slice ah p0.Bibs.length ai,.slice ap p0.Times.length aq,.slice bE ae.length bU,.slice bF af.length bV]/\PHeap.Le U U_/\sW w U U_ [.blk b2 175 B0,.blk cZ 239 [.pointer none],.row bE bU 3 1 (hD KL.encI ae),.row bF bV 4 1 (hD KL.encT af)] w_) ?_ fun oD=>?_
 rintro pf pJ ⟨gM,cZ,bE,bU,bF,bV,iR,iS,iT,iU,iV,iW,iX,iY,iZ,i4,i5,fB,oP,mr⟩
 refine ZB (cs:=[jV p0.Laps,.slice ah p0.Bibs.length ai,.slice ap p0.Times.length aq,.slice bE ae.length bU,.slice bF af.length bV]) rfl rfl rfl rfl rfl fB (by rfl) mr ?_
 intro pK ii ms
 exact ee _ _ ⟨gM,cZ,bE,bU,bF,bV,ii,iR,iS,iT,iU,iV,iW,iX,iY,iZ,i4,i5,fB,rfl,oP,(ms.pick [1,2,3,4,0] _ (by decide) rfl)⟩
 refine OKS.cutD (s:=gAx) (M:=fun J_ w_=>∃ (U_:PHeap) (bG:Option Addr) (bW:Nat) (bH:Option Addr) (bX:Nat) (c7:Nat),J_ 1=.pointer (some ⟨b2,0,none⟩)/\J_ 12=.agg B0.toArray/\J_ 13=.pointer (some ⟨b2,1,none⟩)/\J_ 14=.slice ah p0.Bibs.length ai/\J_ 15=jV (↑p0.Bibs.length:Int)/\J_ 16=.slice bG ae.length bW/\J_ 17=.pointer (some ⟨b2,1,none⟩)/\J_ 18=.slice ah p0.Bibs.length ai/\J_ 19=jV (↑p0.Bibs.length:Int)/\J_ 20=.slice bH af.length bX/\J_ 21=.agg #[jV p0.Laps,.slice ah p0.Bibs.length ai,.slice ap p0.Times.length aq,.slice bG ae.length bW,.slice bH af.length bX]/\J_ 22=.pointer (some ⟨c7,0,none⟩)/\PHeap.Le U U_/\sW w U U_ [.blk b2 175 B0,.row bG bW 3 1 (hD KL.encI ae),.row bH bX 4 1 (hD KL.encT af),.blk c7 243 [jV p0.Laps,.slice ah p0.Bibs.length ai,.slice ap p0.Times.length aq,.slice bG ae.length bW,.slice bH af.length bX]] w_) ?_ fun oE=>?_
 rintro pg pL ⟨gN,bG,bW,bH,bX,c7,i6,i7,i8,i9,ja,jb,jc,jd,je,jf,jg,jh,oQ,mu⟩
 refine zy (cs:=[.pointer none]) Z Z Z Z Z Tryz.zeroValue239 Z mu ?_
 intro pM ij mw
 exact ee _ _ ⟨gN,ij,bG,bW,bH,bX,c7,i6,rfl,i7,i8,i9,ja,jb,jc,jd,je,jf,jg,jh,oQ,(mw.pick [1,0,2,3,4] _ (by decide) rfl)⟩
 refine OKS.cutD (s:=.fl 9 gAy) (M:=fun J_ w_=>∃ (U_:PHeap) (c8:Nat) (bI:Option Addr) (bY:Nat) (bJ:Option Addr) (bZ:Nat),J_ 1=.pointer (some ⟨b2,0,none⟩)/\J_ 4=.pointer (some ⟨c8,0,none⟩)/\J_ 12=.agg B0.toArray/\J_ 13=.pointer (some ⟨b2,1,none⟩)/\J_ 14=.slice ah p0.Bibs.length ai/\J_ 15=jV (↑p0.Bibs.length:Int)/\J_ 16=.slice bI ae.length bY/\J_ 17=.pointer (some ⟨b2,1,none⟩)/\J_ 18=.slice ah p0.Bibs.length ai/\J_ 19=jV (↑p0.Bibs.length:Int)/\J_ 20=.slice bJ af.length bZ/\PHeap.Le U U_/\sW w U U_ [.blk b2 175 B0,.blk c8 239 [.pointer none],.row bI bY 3 1 (hD KL.encI ae),.row bJ bZ 4 1 (hD KL.encT af)] w_) ?_ fun gg=>?_
 rintro ph pN ⟨gO,c8,bI,bY,bJ,bZ,ji,jj,fC,jk,jl,jm,fD,jo,jp,jq,fE,oS,my⟩
 let B2:List Value:=[jV p0.Laps,.slice ah p0.Bibs.length ai,.slice ap p0.Times.length aq,.slice bI ae.length bY,.slice bJ af.length bZ]
 refine zT rfl rfl rfl rfl (fun _=>ZI (pv:=[(0,.agg B0.toArray),(1,.slice bI ae.length bY),(2,.slice bJ af.length bZ)]) (z:=[jV 0,.slice none 0 0,.slice none 0 0,.slice none 0 0,.slice none 0 0]) (cs:=B2) rfl (wAH fC (wAH fD (wAH fE wAY))) Tryz.zeroValue243 wJt rfl rfl) (ZB (cs:=B2) rfl rfl rfl rfl rfl rfl (by rfl) my ?_)
 intro pO ik mz
 exact ee _ _ ⟨gO,c8,bI,bY,bJ,bZ,ik,ji,jj,fC,jk,jl,jm,fD,jo,jp,jq,fE,rfl,rfl,oS,(mz.pick [1,2,3,4,0] _ (by decide) rfl)⟩
 refine OKS.cutD (s:=gBs) (M:=fun J_ w_=>∃ (U_:PHeap) (cz:Nat) (cm:Option Addr) (cD:Nat),J_ 1=.pointer (some ⟨b2,0,none⟩)/\J_ 4=.pointer (some ⟨cz,0,none⟩)/\J_ 12=.agg B0.toArray/\J_ 13=.pointer (some ⟨b2,1,none⟩)/\J_ 14=.slice ah p0.Bibs.length ai/\J_ 15=jV (↑p0.Bibs.length:Int)/\J_ 17=.pointer (some ⟨b2,1,none⟩)/\J_ 18=.slice ah p0.Bibs.length ai/\J_ 19=jV (↑p0.Bibs.length:Int)/\J_ 20=.slice cm af.length cD/\PHeap.Le U U_/\sW w U U_ [.blk b2 175 B0,.blk cz 239 [.pointer none],.row cm cD 4 1 (hD KL.encT af)] w_) ?_ fun gh=>?_
 rintro pi pP ⟨eQ,cz,cm,cD,jr,jt,ju,jv,jw,dP,jx,jy,jz,jA,oU,mA⟩
 refine YH (enc:=KL.encI) (z:=(0:Int)) (v:=jV 0) Z Z Z Z Z (wBq zH) wGs Z Z Z Z dP dP de mA ?_
 intro gW e7 mB
 have mC:sW w U eQ [.row (some ⟨e7,0,none⟩) ae.length 3 1 (hD KL.encI ae),.blk b2 175 B0,.blk cz 239 [.pointer none],.row cm cD 4 1 (hD KL.encT af)] gW:=mB
 exact gg _ _ ⟨eQ,cz,(some ⟨e7,0,none⟩),ae.length,cm,cD,jr,jt,ju,jv,jw,dP,rfl,jx,jy,jz,jA,oU,(mC.pick [1,2,0,3] _ (by decide) rfl)⟩
 refine OKS.cutD (s:=gBr) (M:=fun J_ w_=>∃ (U_:PHeap) (cA:Nat) (co:Option Addr) (cE:Nat),J_ 1=.pointer (some ⟨b2,0,none⟩)/\J_ 4=.pointer (some ⟨cA,0,none⟩)/\J_ 12=.agg B0.toArray/\J_ 13=.pointer (some ⟨b2,1,none⟩)/\J_ 14=.slice ah p0.Bibs.length ai/\J_ 15=jV (↑p0.Bibs.length:Int)/\J_ 16=.slice co ae.length cE/\J_ 17=.pointer (some ⟨b2,1,none⟩)/\J_ 18=.slice ah p0.Bibs.length ai/\J_ 19=jV (↑p0.Bibs.length:Int)/\PHeap.Le U U_/\sW w U U_ [.blk b2 175 B0,.blk cA 239 [.pointer none],.row co cE 3 1 (hD KL.encI ae)] w_) ?_ fun gi=>?_
 rintro pj pQ ⟨eR,cA,co,cE,jB,jC,jD,jE,jF,jG,jH,jI,jJ,dQ,oV,mD⟩
 refine YH (enc:=KL.encT) (z:=false) (v:=.bool false) Z Z Z Z Z (wBq ZV) wMh Z Z Z Z dQ dQ df mD ?_
 intro gX e8 mE
 have mF:sW w U eR [.row (some ⟨e8,0,none⟩) af.length 4 1 (hD KL.encT af),.blk b2 175 B0,.blk cA 239 [.pointer none],.row co cE 3 1 (hD KL.encI ae)] gX:=mE
 exact gg _ _ ⟨eR,cA,co,cE,(some ⟨e8,0,none⟩),af.length,jB,jC,jD,jE,jF,jG,jH,jI,jJ,dQ,rfl,oV,(mF.pick [1,2,3,0] _ (by decide) rfl)⟩
 refine OKS.cutD (s:=gBx) (M:=fun J_ w_=>∃ (U_:PHeap) (bj:Option Addr) (bm:Nat) (bk:Option Addr) (bn:Nat),J_ 1=.pointer (some ⟨b2,0,none⟩)/\J_ 12=.agg B0.toArray/\J_ 13=.pointer (some ⟨b2,1,none⟩)/\J_ 14=.slice ah p0.Bibs.length ai/\J_ 15=jV (↑p0.Bibs.length:Int)/\J_ 16=.slice bj ae.length bm/\J_ 17=.pointer (some ⟨b2,1,none⟩)/\J_ 18=.slice ah p0.Bibs.length ai/\J_ 19=jV (↑p0.Bibs.length:Int)/\J_ 20=.slice bk af.length bn/\PHeap.Le U U_/\sW w U U_ [.blk b2 175 B0,.row bj bm 3 1 (hD KL.encI ae),.row bk bn 4 1 (hD KL.encT af)] w_) ?_ fun gj=>?_
 rintro pm pR ⟨eS,bj,bm,bk,bn,fG,dR,fH,fI,fJ,dS,fK,fL,fM,dT,gw,f3⟩
 let B3:List Value:=[jV p0.Laps,.slice ah p0.Bibs.length ai,.slice ap p0.Times.length aq,.slice bj ae.length bm,.slice bk af.length bn]
 refine oR Z (ZI (pv:=[(0,.agg B0.toArray),(1,.slice bj ae.length bm),(2,.slice bk af.length bn)]) (z:=[jV 0,.slice none 0 0,.slice none 0 0,.slice none 0 0,.slice none 0 0]) (cs:=B3) Z (wAH dR (wAH dS (wAH dT wAY))) Tryz.zeroValue243 wJt Z Z) (OKS.both ?_ ?_)
 refine ZB (cs:=B3) rfl rfl rfl rfl rfl rfl (by rfl) f3 ?_
 intro pS il mG
 exact oE _ _ ⟨eS,bj,bm,bk,bn,il,fG,dR,fH,fI,fJ,dS,fK,fL,fM,dT,rfl,rfl,gw,(mG.pick [1,2,3,0] _ (by decide) rfl)⟩
 refine zy (cs:=[.pointer none]) Z Z Z Z Z Tryz.zeroValue239 Z f3 ?_
 intro pT im mH
 exact oD _ _ ⟨eS,im,bj,bm,bk,bn,fG,rfl,dR,fH,fI,fJ,dS,fK,fL,fM,dT,rfl,gw,(mH.pick [1,0,2,3] _ (by decide) rfl)⟩
 refine oL Z (bq.ldBA (j:=0) Z Z Z yp Zn (vs:=B0) Z Z) (oR Z (zC Z Z ZC Z zk) (oL Z (bq.ldB (j:=0) Z Z Z zu (v:=.slice ah p0.Bibs.length ai) Z) (oR Z (ze Z Z zH) (oR Z (zC Z Z ZC Z zk) (oL Z (bq.ldB (j:=0) Z Z Z zu (v:=.slice ah p0.Bibs.length ai) Z) (oR Z (ze Z Z zH) (OKS.both ?_ ?_)))))))
 refine YH (enc:=KL.encI) (z:=(0:Int)) (v:=jV 0) Z Z Z Z Z (wBq zH) wGs Z Z Z Z Z Z de bq ?_
 intro gY dI mI
 let B4:Res:=.row (some ⟨dI,0,none⟩) ae.length 3 1 (hD KL.encI ae)
 have f4:sW w U U [B4,.blk b2 175 B0] gY:=mI
 refine OKS.both ?_ ?_
 refine YH (enc:=KL.encT) (z:=false) (v:=.bool false) Z Z Z Z Z (wBq ZV) wMh Z Z Z Z Z Z df f4 ?_
 intro g6 e9 mJ
 have mK:sW w U U [.row (some ⟨e9,0,none⟩) af.length 4 1 (hD KL.encT af),B4,.blk b2 175 B0] g6:=mJ
 exact gj _ _ ⟨U,(some ⟨dI,0,none⟩),ae.length,(some ⟨e9,0,none⟩),af.length,rfl,rfl,rfl,rfl,rfl,rfl,rfl,rfl,rfl,rfl,(zQ _),(mK.pick [2,1,0] _ (by decide) rfl)⟩
 refine zy (cs:=[.pointer none]) Z Z Z Z Z Tryz.zeroValue239 Z f4 ?_
 intro pU io mL
 exact gi _ _ ⟨U,io,(some ⟨dI,0,none⟩),ae.length,rfl,rfl,rfl,rfl,rfl,rfl,rfl,rfl,rfl,rfl,(zQ _),(mL.pick [2,0,1] _ (by decide) rfl)⟩
 refine OKS.both ?_ ?_
 refine YH (enc:=KL.encT) (z:=false) (v:=.bool false) Z Z Z Z Z (wBq ZV) wMh Z Z Z Z Z Z df bq ?_
 intro g7 dJ mM
 let B5:Res:=.row (some ⟨dJ,0,none⟩) af.length 4 1 (hD KL.encT af)
 have f7:sW w U U [B5,.blk b2 175 B0] g7:=mM
 refine OKS.both ?_ ?_
 refine YH (enc:=KL.encI) (z:=(0:Int)) (v:=jV 0) Z Z Z Z Z (wBq zH) wGs Z Z Z Z Z Z de f7 ?_
 intro g8 fb mN
 have mO:sW w U U [.row (some ⟨fb,0,none⟩) ae.length 3 1 (hD KL.encI ae),B5,.blk b2 175 B0] g8:=mN
 exact gj _ _ ⟨U,(some ⟨fb,0,none⟩),ae.length,(some ⟨dJ,0,none⟩),af.length,rfl,rfl,rfl,rfl,rfl,rfl,rfl,rfl,rfl,rfl,(zQ _),(mO.pick [2,0,1] _ (by decide) rfl)⟩
 refine zy (cs:=[.pointer none]) Z Z Z Z Z Tryz.zeroValue239 Z f7 ?_
 intro pW ip mP
 exact gh _ _ ⟨U,ip,(some ⟨dJ,0,none⟩),af.length,rfl,rfl,rfl,rfl,rfl,rfl,rfl,rfl,rfl,rfl,(zQ _),(mP.pick [2,0,1] _ (by decide) rfl)⟩
 refine zy (cs:=[.pointer none]) Z Z Z Z Z Tryz.zeroValue239 Z bq ?_
 intro pX da f8
 refine OKS.both ?_ ?_
 refine YH (enc:=KL.encI) (z:=(0:Int)) (v:=jV 0) Z Z Z Z Z (wBq zH) wGs Z Z Z Z Z Z de f8 ?_
 intro g9 fc mQ
 have mR:sW w U U [.row (some ⟨fc,0,none⟩) ae.length 3 1 (hD KL.encI ae),.blk da 239 [.pointer none],.blk b2 175 B0] g9:=mQ
 exact gi _ _ ⟨U,da,(some ⟨fc,0,none⟩),ae.length,rfl,rfl,rfl,rfl,rfl,rfl,rfl,rfl,rfl,rfl,(zQ _),(mR.pick [2,1,0] _ (by decide) rfl)⟩
 refine YH (enc:=KL.encT) (z:=false) (v:=.bool false) Z Z Z Z Z (wBq ZV) wMh Z Z Z Z Z Z df f8 ?_
 intro ib fd mS
 have mT:sW w U U [.row (some ⟨fd,0,none⟩) af.length 4 1 (hD KL.encT af),.blk da 239 [.pointer none],.blk b2 175 B0] ib:=mS
 exact gh _ _ ⟨U,da,(some ⟨fd,0,none⟩),af.length,rfl,rfl,rfl,rfl,rfl,rfl,rfl,rfl,rfl,rfl,(zQ _),(mT.pick [2,1,0] _ (by decide) rfl)⟩
 rintro pn pY ⟨gP,b6,b8,bs,bN,bB,bR,jK,jL,gx,mU⟩
 refine sR (.fx 0 .nil .stop) Z (zy (cs:=[.slice none 0 0]) Z Z Z Z Z Tryz.zeroValue104 Z mU ?_)
 intro ic ax f9
 refine eN (zK (sR gAz Z (oL Z (f9.ldBA (j:=1) Z Z jK yp Zn (vs:=B0) Z Z) ?_)))
 have fQ:=mY.le gx
 have fR:=mZ.le gx
 refine bnK gf fun o3 ln ov=>zI 0 Z Z Z Z (zJ Z Z Tryz.call178 (zA Z zM) Z) f9 (fun hs=>wGw p0 ah ai ap aq ic gP hs fQ fR ln) (.inr Z) ?_
 rintro eT py qC ie gy mV ⟨fe,gD,it,rfl,rfl,lp,lq⟩
 let B6:Res:=.blk b6 239 [.pointer (some ⟨b8,0,none⟩)]
 have mW:sW w U eT [.blk ax 104 [.slice none 0 0],.blk b2 175 B0,B6,.blk b8 243 [jV p0.Laps,.slice ah p0.Bibs.length ai,.slice ap p0.Times.length aq,.slice bs l9.length bN,.slice bB cI.length bR],.row bs bN 3 1 (hD KL.encI l9),.row bB bR 4 1 (hD KL.encT cI)] ie:=mV
 refine eN (zU (yg fun cS dh=>?_))
 have fN:cS 4=.pointer (some ⟨b6,0,none⟩):=(dh 4).trans jL
 have dU:cS 5=.pointer (some ⟨ax,0,none⟩):=(dh 5).trans rfl
 have jM:cS 24=.func (.func 289) #[] #[.pointer (some ⟨fe,0,none⟩)]:=(dh 24).trans rfl
 clear dh
 have lD:=mW.nilrow 181 4
 have jP:=fQ.le gy
 have jQ:=fR.le gy
 refine bnK ov fun gz n7 gc=>CK.rangeY (S:=(List wAN) × Int × (List Int) × (List (List Int)) × (List Int) × (List Bool)) (E:=Empty) (ar:=wMG) (PY:=(fun (s_:(List wAN) × Int × (List Int) × (List (List Int)) × (List Int) × (List Bool)) (U_:PHeap) (L_:List Res)=>match s_ with | (l1084,x1088,l1089,l1092,l1095,l1098)=>∃ (bu:Option Addr) (bL:Nat) (ci:Option Addr) (cB:Nat) (cj:Option Addr) (cC:Nat) (bw:Option Addr) (bM:Nat) (bx:Option Addr) (bO:Nat),L_=[.row bu bL 181 4 (hD wAb l1084),.blk ax 104 [.slice bu l1084.length bL],.blk b2 175 B0,B6,.row bw bM 3 1 (hD KL.encI l1095),.row bx bO 4 1 (hD KL.encT l1098),.blk b8 243 [jV x1088,.slice ci l1089.length cB,.slice cj l1092.length cC,.slice bw l1095.length bM,.slice bx l1098.length bO]]/\Sl U_ 1 ci cB l1089.length (hD KL.encI l1089)/\SlR U_ wFw cj cC l1092)) (PE:=(fun (_:Empty) _ _=>False)) (exO:=Empty.elim) (s0:=([],p0.Laps,p0.Bibs,p0.Times,l9,cI)) (rr:=gz) jM Tryz.call289 (lD.pick [0,1,2,3,5,6,4] _ (by decide) rfl) (by decide) (fun _ _ _ h=>by obtain rfl:=h;rfl) (fun e=>nomatch e) ⟨none,0,ah,ai,ap,aq,bs,bN,bB,bR,rfl,jP,jQ⟩ (fun l w1 L1 PY' PE' lC lA mX=>wFM PY' PE' _ l _ o3 fe gD it w1 L1 eT lC lA mX lp lq n7) ?_ ?_
 rintro ao qy qq ⟨l1084,x1088,l1089,l1092,l1095,l1098⟩ aQ qD qx dn po o0 oW an qs lE lB m2 gb dq cd
 obtain ⟨bu,bL,ci,cB,cj,cC,bw,bM,bx,bO,rfl,jR,jS⟩:=lB
 obtain rfl:=m2
 replace cd:∀ t,dq t=upd cS 25 (jV aQ) t:=cd
 have iv:dq 25=jV aQ:=(cd 25).trans (wDi _ _ _)
 have fm:dq 4=.pointer (some ⟨b6,0,none⟩):=(cd 4).trans ((wDI _ _ (by decide)).trans fN)
 have iw:dq 5=.pointer (some ⟨ax,0,none⟩):=(cd 5).trans ((wDI _ _ (by decide)).trans dU)
 clear cd
 let B7:Res:=.blk b8 243 [jV x1088,.slice ci l1089.length cB,.slice cj l1092.length cC,.slice bw l1095.length bM,.slice bx l1098.length bO]
 let B8:Res:=.row bu bL 181 4 (hD wAb l1084)
 let B9:Res:=.blk ax 104 [.slice bu l1084.length bL]
 let dx:Res:=.row bw bM 3 1 (hD KL.encI l1095)
 let dy:Res:=.row bx bO 4 1 (hD KL.encT l1098)
 have lG:St an dn [.obj ao oW,B8,B9,.blk b2 175 B0,B6,dx,dy,B7] o0:=lE
 try dsimp only at gb
 refine rR fL1 Z (oA Z iv (zb ⟨Z,Z,_,_,lG,fun dH au lH=>?_⟩))
 have fW:St an dn [.obj ao au,B8,B9,.blk b2 175 B0,B6,dx,dy,B7] dH:=lH
 refine zU (sR gBt Z (oL Z (fW.ldB (j:=4) Z Z fm YI (v:=.pointer (some ⟨b8,0,none⟩)) Z) (oM Z Z ?_)))
 have q:=bnd gb
 obtain ⟨⟨am,ag⟩,jT,ge⟩:=q
 try dsimp only at ge
 have lI:St an dn [B7,dx,dy,.obj ao au,B8,B9,.blk b2 175 B0,B6] dH:=fW.pick [7,5,6,0,1,2,3,4] _ (by decide) rfl
 refine zI 3 Z Z Z Z (zJ Z Z Tryz.call179 (zA Z (zA Z zM)) Z) lI (fun hs=>wGG (⟨(⟨x1088,l1089,l1092⟩:wAT),l1095,l1098⟩:wAK) b8 ci cB cj cC bw bM bx bO aQ dH dn hs jR jS jT) (.inl Z) ?_
 rintro dD pp qz gQ qt lJ ⟨cK,db,aU,bb,bz,bP,aR,aT,aN,aP,rfl,rfl,fO,fP⟩
 let az:List Value:=[jV ag.Race.Laps,.slice aU ag.Race.Bibs.length bb,.slice bz ag.Race.Times.length bP,.slice aR ag.done.length aT,.slice aN ag.out.length aP]
 let av:Res:=.row cK db 3 1 (hD KL.encI am)
 let aO:Res:=.row aR aT 3 1 (hD KL.encI ag.done)
 let aY:Res:=.row aN aP 4 1 (hD KL.encT ag.out)
 have lK:St an dD [av,aO,aY,.blk b8 243 az,.obj ao au,B8,B9,.blk b2 175 B0,B6] gQ:=lJ
 refine oA Z Z (eN (zK (sR fL3 Z (oM Z Z (oR Z (ze Z Z zH) (oM Z Z (eN (zU (bnK ge fun gA m3 n8=>?_)))))))))
 have q:=wBM m3
 obtain ⟨eb,m4⟩:=q
 replace eb:=zG eb
 refine CK.forN' (fun ay br J_ w_=>∃ (U_:PHeap) (bA:Option Addr) (bQ:Nat),J_ 31=jV (↑ay:Int)/\J_ 4=.pointer (some ⟨b6,0,none⟩)/\J_ 5=.pointer (some ⟨ax,0,none⟩)/\J_ 6=jV aQ/\J_ 7=.slice cK am.length db/\J_ 29=.slice cK am.length db/\J_ 30=jV (↑am.length:Int)/\PHeap.Le dD U_/\St an U_ [aO,aY,.blk b8 243 az,.obj ao au,.row bA bQ 181 4 (hD wAb br),.blk ax 104 [.slice bA br.length bQ],.blk b2 175 B0,B6,av] w_) m4 ?_ ?_ ?_
 exact ⟨dD,bu,bL,rfl,fm,iw,rfl,rfl,rfl,rfl,(zQ _),(lK.pick [1,2,3,4,5,6,7,8,0] _ (by decide) rfl)⟩
 rintro ay br qF o8 eV d8 ⟨pz,bA,bQ,dV,ca,dN,dO,ix,fq,ft,eh,d7⟩ oy
 have fg:Hid ((↑ay:Int) < (↑am.length:Int)):=zG (wBR d8)
 replace d8:=zG d8
 have n4:Hid (w64 ((↑ay:Int) + 1)=(↑(ay + 1):Int)):=zG (by have h1:=eb.out;have h2:=fg.out;rw [wAa] <;> omega)
 refine sR fL1 Z (oR Z (zR Z dV ft) (eN (zK (cT Z fg (kN (zK (zU (sR fL3 Z (bnK oy fun _ dX n9=>?_)))))))))
 obtain ⟨pZ,fS⟩:=d7.rowSome (j:=8) rfl (by rw [wAG (f:=KL.encI) (sz:=1) (fun _=>rfl) am];have hz:=wAU dX;omega)
 refine oR Z (ZD Z fq fS dV zH zD (wAU dX)) ?_
 have m7:=wBY (xs:=am) (wAU dX)
 refine zn rfl rfl rfl rfl (d7.ldR (j:=8) rfl fS rfl rfl zN (wBS (sz:=1) (fun _=>rfl) _ _ 0 _ m7 (by first | omega | rfl | simp) rfl)) rfl (ye rfl rfl rfl rfl rfl rfl (eN (ZQ ZK [1,1,3,3,3,1,3,3,1,1,3,3,1,3,3,1,3,1,3,3,3,1,1,3,1,3,3,1,3,3,1,3,2,3,1,3,2,0,0] (wPw (.fx 32 (wPF (.fx 36 (.fx 37 (.fx 38 .nil .stop) .stop) .stop)) .stop)) (by kernel_rfl) ?_)))
 have aw:=d7.drew
 generalize hw_W1224:({ eV with drawn:=eV.drawn + 1 }:World)=cV at aw ⊢
 refine oL Z (aw.ldB (j:=5) Z Z dN Tryz.isAgg104 (v:=.slice bA br.length bQ) Z) (oL Z (aw.ldB (j:=7) Z Z ca YI (v:=.pointer (some ⟨b8,0,none⟩)) Z) (oR Z (ZJ Z Z) (oR Z (zC Z Z ZY Z Zn) (oR Z (zC Z Z ZC Z zk) (oL Z (aw.ldB (j:=2) Z Z Z zu (v:=.slice aU ag.Race.Bibs.length bb) Z) (oM Z Z (bnK n9 fun cg dY oa=>?_)))))))
 have dZ:=fO.le eh
 have q:=dZ.el (fun _=>rfl) (wAk dY)
 obtain ⟨p5,qv,ls,lv⟩:=q
 refine oR Z (ZU Z Z ls Z zH zD (wFN dY) (wFh dY)) (oL Z (aw.ldC (f:=0) lv (v:=jV cg) Z Z zN Z) (oL Z (aw.ldB (j:=7) Z Z ca YI (v:=.pointer (some ⟨b8,0,none⟩)) Z) (oR Z (ZJ Z Z) (oR Z (zC Z Z ZY Z zk) (oL Z (aw.ldB (j:=2) Z Z Z zu (v:=.slice aR ag.done.length aT) Z) (oM Z Z (bnK oa fun _ bp oc=>?_)))))))
 obtain ⟨p6,dg⟩:=aw.rowSome (j:=0) rfl (by rw [wAG (f:=KL.encI) (sz:=1) (fun _=>rfl) ag.done];have hz:=wAU bp;omega)
 refine oR Z (ZU Z Z dg Z zH zD (wCS bp) (wCT bp)) ?_
 have m8:=wBY (xs:=ag.done) (wAU bp)
 refine zn rfl rfl rfl rfl (aw.ldR (j:=0) rfl dg rfl rfl zN (wBS (sz:=1) (fun _=>rfl) _ _ 0 _ m8 (by first | omega | rfl | simp) rfl)) rfl (zO rfl rfl rfl rfl rfl dO (zn rfl rfl rfl rfl (aw.ldB (j:=7) rfl rfl ca YI (v:=.pointer (some ⟨b8,0,none⟩)) rfl) rfl (zT rfl rfl rfl rfl (fun _=>ZJ rfl rfl) (zT rfl rfl rfl rfl (fun _=>zC rfl rfl ZY rfl Zn) (zT rfl rfl rfl rfl (fun _=>zC rfl rfl ZC rfl zk) (zn rfl rfl rfl rfl (aw.ldB (j:=2) rfl rfl rfl zu (v:=.slice aU ag.Race.Bibs.length bb) rfl) rfl (zn rfl rfl rfl rfl (aw.ldB (j:=7) rfl rfl ca YI (v:=.pointer (some ⟨b8,0,none⟩)) rfl) rfl (zO rfl rfl rfl rfl rfl rfl (zn rfl rfl rfl rfl (aw.ldB (j:=7) rfl rfl ca YI (v:=.pointer (some ⟨b8,0,none⟩)) rfl) rfl (zT rfl rfl rfl rfl (fun _=>ZJ rfl rfl) (zT rfl rfl rfl rfl (fun _=>zC rfl rfl ZY rfl zk) (zn rfl rfl rfl rfl (aw.ldB (j:=2) rfl rfl rfl zu (v:=.slice aR ag.done.length aT) rfl) rfl (zO rfl rfl rfl rfl rfl rfl (zT rfl rfl rfl rfl (fun _=>ZU rfl rfl dg rfl zH zD (wCS bp) (wCT bp)) ?_))))))))))))))
 have m9:=wBY (xs:=ag.done) (wAU bp)
 refine zn rfl rfl rfl rfl (aw.ldR (j:=0) rfl dg rfl rfl zN (wBS (sz:=1) (fun _=>rfl) _ _ 0 _ m9 (by first | omega | rfl | simp) rfl)) rfl (zO rfl rfl rfl rfl rfl dO ?_)
 have q:=aw.freezeT (k:=0) (n:=ag.done.length) rfl (wAG (f:=KL.encI) (sz:=1) (fun _=>rfl) ag.done) (by decide)
 obtain ⟨gG,gm,ow,lL,oX⟩:=q
 let aZ:Res:=.row bA bQ 181 4 (hD wAb br)
 let aS:Res:=.blk ax 104 [.slice bA br.length bQ]
 have lM:St an gG [aY,.blk b8 243 az,.obj ao au,aZ,aS,.blk b2 175 B0,B6,av] cV:=lL
 have q:=lM.freezeT (k:=0) (n:=ag.out.length) rfl (wAG (f:=KL.encT) (sz:=1) (fun _=>rfl) ag.out) (by decide)
 obtain ⟨gH,ep,ox,lN,oY⟩:=q
 have lP:St an gH [.blk b8 243 az,.obj ao au,aZ,aS,.blk b2 175 B0,B6,av] cV:=lN
 have q:=lP.freezeTB (k:=0) rfl
 obtain ⟨dE,dm,cH,lQ,oZ⟩:=q
 replace cH:=Cl.of cH
 have lR:St an dE [.obj ao au,aZ,aS,.blk b2 175 B0,B6,av] cV:=lQ
 replace cH:Cl dE b8 0 az:=cH
 have jU:=dZ.le gm
 have jW:=jU.le ep
 have jX:=jW.le dm
 have jY:=fP.le eh
 have jZ:=jY.le gm
 have j4:=jZ.le ep
 have j5:=j4.le dm
 have j6:=ow.le ep
 have j7:=j6.le dm
 have j8:=ox.le dm
 refine bnK oc fun qE j9 od=>zI 0 rfl rfl rfl rfl (zJ rfl rfl Tryz.call180 (zA rfl (zA rfl (zA rfl (zA rfl zM)))) rfl) lR (fun hs=>wEu ag b8 aU bb bz bP aR aT aN aP (gd am ay) (gd ag.done (gd am ay).toNat) aQ cV dE hs cH jX j5 j7 j8 j9) (.inr rfl) ?_
 rintro gI pq qA cW oG lS ⟨rfl,rfl⟩
 have lT:St an gI [.obj ao au,aZ,aS,.blk b2 175 B0,B6,av] cW:=lS
 have q:=oZ _ _ _ oG lT
 obtain ⟨gJ,oH,lU⟩:=q
 have lV:St an gJ [.blk b8 243 az,.obj ao au,aZ,aS,.blk b2 175 B0,B6,av] cW:=lU
 have q:=oY _ _ _ oH lV
 obtain ⟨gK,oI,lW⟩:=q
 have lX:St an gK [aY,.blk b8 243 az,.obj ao au,aZ,aS,.blk b2 175 B0,B6,av] cW:=lW
 have q:=oX _ _ _ oI lX
 obtain ⟨cw,gq,lY⟩:=q
 have fY:St an cw [aO,aY,.blk b8 243 az,.obj ao au,aZ,aS,.blk b2 175 B0,B6,av] cW:=lY
 refine bnK od fun ch d5 oe=>?_
 have k4:=dZ.le gq
 have q:=k4.el (fun _=>rfl) (wAk d5)
 obtain ⟨p7,qw,lu,lw⟩:=q
 refine oR Z (ZU Z Z lu Z zH zD (wFN d5) (wFh d5)) (oL Z (fY.ldC (f:=0) lw (v:=jV ch) Z Z zN Z) ?_)
 let dz:List Value:=[jV cg,jV (gd ag.done (gd am ay).toNat),jV aQ,jV ch]
 let eF:List Value:=[jV 0,jV 0,jV 0,jV 0]
 refine oR Z (ZI (pv:=[(0,jV cg),(1,jV (gd ag.done (gd am ay).toNat)),(2,jV aQ),(3,jV ch)]) (z:=eF) (cs:=dz) Z (wAH Z (wAH Z (wAH Z (wAH Z wAY)))) Tryz.zeroValue181 wMe Z Z) (ZF (pv:=[(0,.agg dz.toArray)]) (zs:=eF) (cs:=dz) Z Z Z Z Z (wAH Z wAY) Tryz.runUnderlying104 Tryz.sizeOf181 Tryz.zeroValue181 Z Z Z Z Z fY ?_)
 intro gR ig l0
 let dA:Res:=.row (some ⟨ig,0,none⟩) 1 181 4 (hD wAb [(⟨cg,(gd ag.done (gd am ay).toNat),aQ,ch⟩:wAN)])
 have fZ:St an cw [dA,aO,aY,.blk b8 243 az,.obj ao au,aZ,aS,.blk b2 175 B0,B6,av] gR:=l0
 refine bnK oe fun dr k5 og=>yE (j:=5) (enc:=wAb) (xs:=br) (ys:=[(⟨cg,(gd ag.done (gd am ay).toNat),aQ,ch⟩:wAN)]) (zs:=dr) rfl rfl rfl rfl rfl Tryz.underlying104 wOa rfl rfl rfl rfl rfl rfl fZ rfl rfl rfl (fZ.srcR (j:=0) rfl (by decide) (wAG (f:=wAb) (sz:=4) (fun _=>rfl) [(⟨cg,(gd ag.done (gd am ay).toNat),aQ,ch⟩:wAN)])) (fun _=>rfl) (fun _=>rfl) k5 rfl ?_
 intro cL dd gS l4
 let eH:Res:=.row cL dd 181 4 (hD wAb dr)
 have l5:St an cw [dA,aO,aY,.blk b8 243 az,.obj ao au,eH,aS,.blk b2 175 B0,B6,av] gS:=l4
 refine ZA (j:=6) (vs:=[.slice cL dr.length dd]) Z Z Z Z l5 Z dN Z Z Tryz.sizeOf104 (zB Z) Z Z Z ?_
 intro gT l6
 have ma:St an cw [dA,aO,aY,.blk b8 243 az,.obj ao au,eH,.blk ax 104 [.slice cL dr.length dd],.blk b2 175 B0,B6,av] gT:=l6
 refine zb (za (zF (rR fL2 Z (oR Z (zr (zX Z dV Z) (congrArg (jV) n4.out)) (oM Z Z (zb ?_))))))
 cases og
 exact zF ⟨rfl,⟨cw,cL,dd,rfl,ca,dN,dO,ix,fq,ft,(eh.trans gq),(ma.pick [1,2,3,4,5,6,7,8,9] _ (by decide) rfl)⟩⟩
 rintro o9 pD ⟨eO,du,dK,jN,iy,iz,qa,iA,qb,iB,gr,mb⟩
 have iq:Hid (¬ ((↑(((↑am.length:Int):Int) - 0).toNat:Int) < (↑am.length:Int))):=zG (wAr)
 refine sR fL1 Z (oR Z (zR Z jN iB) (eN (zK (cF Z iq (ZG (zc (zc (zz (zF (sR fL3 Z (oM Z iA (oR Z (ze Z Z zH) (oM Z Z (eN (zU (bnK n8 fun qH m5 oh=>?_))))))))))))))))
 have q:=wBM m5
 obtain ⟨ed,m6⟩:=q
 replace ed:=zG ed
 let cM:Res:=.row du dK 181 4 (hD wAb gA)
 let cN:Res:=.blk ax 104 [.slice du gA.length dK]
 refine CK.forN' (fun bi aM J_ w_=>∃ (U_:PHeap),J_ 76=jV (↑bi:Int)/\J_ 4=.pointer (some ⟨b6,0,none⟩)/\J_ 5=.pointer (some ⟨ax,0,none⟩)/\J_ 74=.slice cK am.length db/\J_ 75=jV (↑am.length:Int)/\PHeap.Le eO U_/\St an U_ [aO,.row aN aP 4 1 (hD KL.encT aM),.blk b8 243 [jV ag.Race.Laps,.slice aU ag.Race.Bibs.length bb,.slice bz ag.Race.Times.length bP,.slice aR ag.done.length aT,.slice aN aM.length aP],.obj ao au,cM,cN,.blk b2 175 B0,B6,av] w_/\aM.length=ag.out.length) m6 ?_ ?_ ?_
 exact ⟨eO,Z,iy,iz,Z,Z,(zQ _),mb,Z⟩
 rintro bi aM qG pa pE d9 ⟨dF,dW,fu,iC,fw,fy,oJ,cc,k6⟩ oz
 have fh:Hid ((↑bi:Int) < (↑am.length:Int)):=zG (wBR d9)
 replace d9:=zG d9
 have n5:Hid (w64 ((↑bi:Int) + 1)=(↑(bi + 1):Int)):=zG (by have h1:=ed.out;have h2:=fh.out;rw [wAa] <;> omega)
 refine sR fL1 Z (oR Z (zR Z dW fy) (eN (zK (cT Z fh (kN (zK (zU (sR fL3 Z (bnK oz fun _ d6 oj=>?_)))))))))
 obtain ⟨p8,fT⟩:=cc.rowSome (j:=8) rfl (by rw [wAG (f:=KL.encI) (sz:=1) (fun _=>rfl) am];have hz:=wAU d6;omega)
 refine oR Z (ZD Z fw fT dW zH zD (wAU d6)) ?_
 have n2:=wBY (xs:=am) (wAU d6)
 refine zn rfl rfl rfl rfl (cc.ldR (j:=8) rfl fT rfl rfl zN (wBS (sz:=1) (fun _=>rfl) _ _ 0 _ n2 (by first | omega | rfl | simp) rfl)) rfl (ye rfl rfl rfl rfl rfl rfl (eN (rR (wJb (.fx 6 .nil .stop)) rfl (zn rfl rfl rfl rfl (cc.ldB (j:=7) rfl rfl fu YI (v:=.pointer (some ⟨b8,0,none⟩)) rfl) rfl (zT rfl rfl rfl rfl (fun _=>ZJ rfl rfl) (zT rfl rfl rfl rfl (fun _=>zC rfl rfl ZY rfl YG) (zn rfl rfl rfl rfl (cc.ldB (j:=2) rfl rfl rfl Tryz.isAgg90 (v:=.slice aN aM.length aP) rfl) rfl (zO rfl rfl rfl rfl rfl rfl (bnK oj fun _ cG om=>?_)))))))))
 obtain ⟨p9,fU⟩:=cc.rowSome (j:=1) rfl (by rw [wAG (f:=KL.encT) (sz:=1) (fun _=>rfl) aM];have hz:=wAU cG;omega)
 refine oR Z (ZU Z Z fU Z ZV Tryz.sizeOf4 (wCS cG) (wCT cG)) ?_
 have n3:=wBY (xs:=aM) (wAU cG)
 refine YE (j:=1) (vs:=[.bool true]) (cs':=hD KL.encT (nE aM (gd am bi).toNat true)) rfl rfl rfl rfl cc rfl fU rfl rfl rfl Tryz.sizeOf4 (by rw [wAG (f:=KL.encT) (sz:=1) (fun _=>rfl)];have hz:=wAU cG;show _ + 1 <= _;first | omega | (simp only [nJ];omega) | (simp only [nI,nG,nH];omega)) rfl (wEK (sz:=1) (fo:=0) (fun _=>rfl) _ _ _ _ n3 (by first | omega | (simp only [nJ];omega) | (simp only [nI,nG,nH];omega)) (zB rfl) rfl) rfl ?_
 intro eW mc
 let dB:Res:=.row aN aP 4 1 (hD KL.encT (nE aM (gd am bi).toNat true))
 have md:St an dF [aO,dB,.blk b8 243 [jV ag.Race.Laps,.slice aU ag.Race.Bibs.length bb,.slice bz ag.Race.Times.length bP,.slice aR ag.done.length aT,.slice aN aM.length aP],.obj ao au,cM,cN,.blk b2 175 B0,B6,av] eW:=mc
 have me:St an dF [aO,dB,.blk b8 243 [jV ag.Race.Laps,.slice aU ag.Race.Bibs.length bb,.slice bz ag.Race.Times.length bP,.slice aR ag.done.length aT,.slice aN ((nE aM (gd am bi).toNat true).length) aP],.obj ao au,cM,cN,.blk b2 175 B0,B6,av] eW:=by simpa only [B0,av,aO,cM,cN,dB,B6,nD] using md
 refine zb (za (zF (rR fL2 Z (oR Z (zr (zX Z dW Z) (congrArg (jV) n5.out)) (oM Z Z (zb ?_))))))
 cases om
 exact zF ⟨Z,⟨dF,Z,fu,iC,fw,fy,oJ,me,(nD.trans k6)⟩⟩
 rintro pb pF ⟨pC,jO,qc,qd,qe,iD,gu,mf,qr⟩
 have ir:Hid (¬ ((↑(((↑am.length:Int):Int) - 0).toNat:Int) < (↑am.length:Int))):=zG (wAr)
 refine sR fL1 Z (oR Z (zR Z jO iD) (eN (zK (cF Z ir (ZG (zc (zc (zz (za ?_)))))))))
 have k9:=fO.le gr
 have la:=k9.le gu
 have lb:=fP.le gr
 have lc:=lb.le gu
 have q:=nB oh
 obtain rfl:=q
 exact ⟨_,_,(mf.pick [3,4,5,6,7,0,1,2] _ (by decide) rfl),rfl,⟨du,dK,aU,bb,bz,bP,aR,aT,aN,aP,rfl,la,lc⟩⟩
 rintro dp dG pt eX qu mg
 rcases gz with ⟨dt,o5,o6,o7,gB,gC⟩ | iu
 try dsimp only at gc
 rintro ⟨aV,be,eB,fj,eC,fk,dv,dL,dw,dM,rfl,lg,lh⟩
 let cp:Res:=.blk b8 243 [jV o5,.slice eB o6.length fj,.slice eC o7.length fk,.slice dv gB.length dL,.slice dw gC.length dM]
 let cr:Res:=.row dv dL 3 1 (hD KL.encI gB)
 let ct:Res:=.row dw dM 4 1 (hD KL.encT gC)
 let eI:Res:=.blk ax 104 [.slice aV dt.length be]
 have f0:sW w U dG [.row aV be 181 4 (hD wAb dt),eI,.blk b2 175 B0,B6,cr,ct,cp,.obj dp (.deferred (some []))] eX:=mg
 refine za (zF (sR gAz Z (oL Z (f0.ldB (j:=1) Z Z dU Tryz.isAgg104 (v:=.slice aV dt.length be) Z) ?_)))
 have lz:FnOK Tryz.prog dG (.func (.func 182) #[] #[]) wPV wPW (fun x=>wBV x.1 x.2):=⟨182,[],[],rfl,Tryz.call182,fun U1 w1 x y vs le hs ha hm=>by obtain rfl:=ha;exact wJJ x.1 x.2 w1 U1 hs  hm⟩
 refine bnK gc fun ey li oq=>zI 1 Z Z Z Z (zJ Z Z Tryz.call181 (zA Z (zA Z zM)) Z) f0 (fun hs=>wDz dt aV be (fun x=>wBV x.1 x.2) (.func (.func 182) #[] #[]) eX dG hs lz ⟨_,_,Z⟩ li) (.inl Z) ?_
 rintro cU pu qB cX gv mh ⟨rfl,rfl,lj⟩
 let cO:Res:=.row aV be 181 4 (hD wAb ey)
 have mi:sW w U cU [cO,eI,.blk b2 175 B0,B6,cr,ct,cp,.obj dp (.deferred (some []))] cX:=mh
 let cP:Res:=.blk ax 104 [.slice aV ey.length be]
 have mj:sW w U cU [cO,cP,.blk b2 175 B0,B6,cr,ct,cp,.obj dp (.deferred (some []))] cX:=by simp only [cP,lj];exact mi
 refine eN (zK (ZQ ZK [1,1,3,3] fL4 (by kernel_rfl) ?_))
 have di:=mj.drew
 generalize hw_W1454:({ cX with drawn:=cX.drawn + 1 }:World)=pG at di ⊢
 refine oL Z (di.ldB (j:=3) Z Z fN YI (v:=.pointer (some ⟨b8,0,none⟩)) Z) (oL Z (di.ldB (j:=1) Z Z dU Tryz.isAgg104 (v:=.slice aV ey.length be) Z) (oA Z Z (oA Z Z (eN (zP ?_)))))
 have lk:=lg.le gv
 have lm:=lh.le gv
 refine wEc (by first | exact .inl rfl | exact .inr rfl) (rbs:=[dp]) (L:=[cO,cP,.blk b2 175 B0,B6,cr,ct,cp]) di fun gU ml=>?_
 have mm:sW w U cU [cO,cP,.blk b2 175 B0,B6,cr,ct,cp] gU:=ml
 cases oq
 exact ⟨_,(wHm rfl rfl),cU,_,(mm.pick [6,4,5,0] _ (by decide) rfl),b8,eB,fj,eC,fk,dv,dL,dw,dM,aV,be,rfl,rfl,lk,lm⟩
 exact iu.elim
end Go.Proofs.YtlmekamhphnmjaaGreat
namespace Go.Proofs.YtlmekamhphnmjaaGreat
open Go.KL
set_option maxHeartbeats 4000000
theorem wGX (p0:wAT) (ae:Option Addr) (ag:Nat) (af:Option Addr) (ah:Nat) (w:World) (U:PHeap) (hS:St0 w U []) (aO:Sl U 1 ae ag p0.Bibs.length (hD KL.encI p0.Bibs)) (aP:SlR U wFw af ah p0.Times) {r:(List wAN) × Int} (hm:wDC p0=some r):Gv Tryz.prog 65 [.agg #[jV p0.Laps,.slice ae p0.Bibs.length ag,.slice af p0.Times.length ah]] w (wBj w [] U (fun U_ L_ v=>∃ (A0:Option Addr) (c0:Nat),v=.tuple #[.slice A0 r.1.length c0,jV r.2]/\L_=[.row A0 c0 181 4 (hD wAb r.1)])):=by
 unfold wDC at hm
 refine Gv.of Tryz.func65 Z Tryz.ntmps65 Tryz.results65 Z (sR gBi Z ?_)
 let B0:List Value:=[jV p0.Laps,.slice ae p0.Bibs.length ag,.slice af p0.Times.length ah]
 refine ZB (cs:=B0) rfl rfl rfl rfl rfl rfl (by rfl) hS ?_
 intro W1 b2 aN
 refine oA Z Z (oA Z Z (eN (zK (sR gBg Z (oL Z (aN.ldBA (j:=0) Z Z Z yp Zn (vs:=B0) Z Z) (bnK hm fun x5 h6 bn=>zI 0 Z Z Z Z (zJ Z Z Tryz.call118 (zA Z zM) Z) aN (fun hs=>wFR p0 ae ag af ah W1 U hs aO aP h6) (.inr Z) ?_))))))
 rintro U8 L9 bw av aR bg ⟨rfl,rfl⟩
 have an:sW w U U8 [.blk b2 175 B0] av:=bg
 refine oA Z Z (eN (sR fL2 Z (oM Z Z (oR Z (Ze Z Z Z) (eN (ifc bn ?_ ?_))))))
 intro ak bk
 refine zg (zo (fun h=>h ak.out)) (kN (sR (.fl 0 (.fx 1 (wHk (.nil)) .stop)) Z (oL Z (an.ldBA (j:=0) Z Z Z yp Zn (vs:=B0) Z Z) ?_)))
 have aZ:=aO.le aR
 have ba:=aP.le aR
 have q:=bnd bk
 obtain ⟨⟨ab,aS⟩,bb,aQ⟩:=q
 try dsimp only at aQ
 refine zI 0 Z Z Z Z (zJ Z Z Tryz.call119 (zA Z zM) Z) an (fun hs=>wIH p0 ae ag af ah av U8 hs aZ ba bb) (.inr Z) ?_
 rintro au bp bx aW bu bh ⟨ax,aT,aX,aU,aY,ap,az,aq,aM,ai,am,rfl,rfl,br,bs⟩
 have bi:sW w U au [.blk ax 243 [jV ab.Race.Laps,.slice aT ab.Race.Bibs.length aX,.slice aU ab.Race.Times.length aY,.slice ap ab.done.length az,.slice aq ab.out.length aM],.row ap az 3 1 (hD KL.encI ab.done),.row aq aM 4 1 (hD KL.encT ab.out),.row ai am 181 4 (hD wAb aS),.blk b2 175 B0] aW:=bh
 refine oM Z Z (oR Z (ZL Z Z (v:=.pointer (some ⟨ax,0,none⟩)) Z) (oR Z (ZL Z Z (v:=.slice ai aS.length am) Z) (oA Z Z (oA Z Z (eN (sR fL3 Z (oM Z Z (oA Z Z (oA Z Z (eN (zP ?_)))))))))))
 cases aQ
 exact ⟨rfl,_,(wHm rfl rfl),au,_,(bi.pick [3] _ (by decide) rfl),ai,am,rfl,rfl⟩
 intro ak bm
 refine cT Z ak (sR fL3 Z (oM Z Z (oA Z Z (oA Z Z (eN (zP (zZ ?_)))))))
 have bj:=an.nilrow 181 4
 cases bm
 exact ⟨rfl,_,(wHm rfl rfl),U8,_,(bj.pick [0] _ (by decide) rfl),none,0,rfl,rfl⟩
theorem wKc (p0:wAS) (ak:Option Addr) (an:Nat) (am:Option Addr) (ao:Nat) (w:World) (U:PHeap) (hS:St0 w U []) (bT:Sl U 1 ak an p0.Rules.Classes.length (hD KL.encI p0.Rules.Classes)) (bU:SlR U wFJ am ao p0.Teams) {r:(List wAN) × Int} (hm:wEe p0=some r):Gv Tryz.prog 27 [.agg #[.slice ak p0.Rules.Classes.length an,jV p0.Rules.Each,jV p0.Rules.Laps,jV p0.Rules.Spare,jV p0.Rules.Loop,jV p0.Rules.Unused,jV p0.Start,.slice am p0.Teams.length ao]] w (wBj w [] U (fun U_ L_ v=>∃ (A0:Option Addr) (c0:Nat),v=.tuple #[.slice A0 r.1.length c0,jV r.2]/\L_=[.row A0 c0 181 4 (hD wAb r.1)])):=by
 unfold wEe at hm
 refine Gv.of Tryz.func27 Z Tryz.ntmps27 Tryz.results27 Z (sR gBi Z ?_)
 let B0:List Value:=[.slice ak p0.Rules.Classes.length an,jV p0.Rules.Each,jV p0.Rules.Laps,jV p0.Rules.Spare,jV p0.Rules.Loop,jV p0.Rules.Unused,jV p0.Start,.slice am p0.Teams.length ao]
 refine ZB (cs:=B0) rfl rfl rfl rfl rfl rfl (by rfl) hS ?_
 intro W1 b2 be
 refine oA Z Z (oA Z Z (eN (sR (.fl 0 (.fx 1 (wHk (.nil)) .stop)) Z (oL Z (be.ldBA (j:=0) Z Z Z yh Zp (vs:=B0) Z Z) ?_))))
 have q:=bnd hm
 obtain ⟨⟨x5,x6⟩,h7,ag⟩:=q
 try dsimp only at ag
 refine zI 0 Z Z Z Z (zJ Z Z Tryz.call63 (zA Z zM) Z) be (fun hs=>wFc p0 ak an am ao W1 U hs bT bU h7) (.inr Z) ?_
 rintro U9 cm cx ai cr bb ba
 rcases x5 with _ | ab
 try dsimp only at ag
 obtain ⟨rfl,rfl⟩:=ba
 have bG:sW w U U9 [.blk b2 89 B0] ai:=bb
 refine oM Z Z (oR Z (ZL Z Z (v:=.pointer none) Z) (oR Z (ZL Z Z (v:=jV x6) Z) (oA Z Z (oA Z Z (eN (zK (sR fL2 Z (oM Z Z (oR Z (Ze Z Z Z) (eN (ifc ag ?_ ?_)))))))))))
 intro ay bV
 refine zg (zo (fun h=>h ay.out)) (kN (sR (.fl 0 (.fx 1 (.fx 2 (wNG (.nil)) .stop) .stop)) Z (oM Z Z ?_)))
 cases bV
 intro ay bW
 refine cT Z ay (sR fL3 Z (oM Z Z (oA Z Z (oA Z Z (eN (zP (zZ ?_)))))))
 have bH:=bG.nilrow 181 4
 cases bW
 exact ⟨rfl,_,(wHm rfl rfl),U9,_,(bH.pick [0] _ (by decide) rfl),none,0,rfl,rfl⟩
 try dsimp only at ag
 obtain ⟨aw,aP,aW,aQ,aX,aq,ax,br,rfl,rfl,bs,bu,bw⟩:=ba
 let B1:Res:=.blk aw 183 [.slice aP ab.Race.Rules.Classes.length aW,jV ab.Race.Rules.Each,jV ab.Race.Rules.Laps,jV ab.Race.Rules.Spare,jV ab.Race.Rules.Loop,jV ab.Race.Rules.Unused,jV ab.Race.Start,.slice aQ ab.Race.Teams.length aX,.slice aq ab.after.length ax]
 have bg:sW w U U9 [B1,.row aq ax 31 1 br,.blk b2 89 B0] ai:=bb
 refine oM Z Z (oR Z (ZL Z Z (v:=.pointer (some ⟨aw,0,none⟩)) Z) (oR Z (ZL Z Z (v:=jV x6) Z) (oA Z Z (oA Z Z (eN (zK (sR fL2 Z (oM Z Z (oR Z (Ze Z Z Z) (eN (ifc ag ?_ ?_)))))))))))
 intro az bX
 refine zg (zo (fun h=>h az.out)) (kN (sR (.fl 0 (.fx 1 (.fx 2 (wNG (.nil)) .stop) .stop)) Z (oM Z Z ?_)))
 have q:=bg.freezeRR (R:=wFw) (k:=1) rfl bw rfl (by decide)
 obtain ⟨aS,bi,ca,bI⟩:=q
 have bJ:sW w U aS [B1,.blk b2 89 B0] ai:=bI
 have bx:=bs.le bi
 have bz:=bu.le bi
 refine bnK bX fun ap bA bY=>zI 1 Z Z Z Z (zJ Z Z Tryz.call66 (zA Z zM) Z) bJ (fun hs=>wFQ ab aw aP aW aQ aX aq ax ai aS hs bx bz ca bA) (.inl Z) ?_
 rintro bm co cy aj ct bK ⟨aR,aY,au,aM,aZ,rfl,rfl,bB⟩
 have bL:sW w U bm [.row aR aY 3 1 (hD KL.encI ap.Bibs),.row au aM 31 1 aZ,B1,.blk b2 89 B0] aj:=bK
 have q:=bL.freezeR (k:=0) (n:=ap.Bibs.length) rfl (wAG (f:=KL.encI) (sz:=1) (fun _=>rfl) ap.Bibs) (by decide)
 obtain ⟨bn,cg,cc,bM⟩:=q
 have bN:sW w U bn [.row au aM 31 1 aZ,B1,.blk b2 89 B0] aj:=bM
 have bD:=bB.le cg
 have q:=bN.freezeRR (R:=wFw) (k:=0) rfl bD rfl (by decide)
 obtain ⟨aT,ch,cd,bO⟩:=q
 have bP:sW w U aT [B1,.blk b2 89 B0] aj:=bO
 have bE:=cc.le ch
 have q:=bnd bY
 obtain ⟨⟨bk,cj⟩,bF,bh⟩:=q
 try dsimp only at bh
 refine zI 0 Z Z Z Z (zJ Z Z Tryz.call65 (zA Z zM) Z) bP (fun hs=>wGX ap aR aY au aM aj aT hs bE cd bF) (.inr Z) ?_
 rintro aU cp cz bq cw bQ ⟨av,aN,rfl,rfl⟩
 have bR:sW w U aU [.row av aN 181 4 (hD wAb bk),B1,.blk b2 89 B0] bq:=bQ
 refine oR Z (ZL Z Z (v:=.slice av bk.length aN) Z) (oR Z (ZL Z Z (v:=jV cj) Z) (oA Z Z (oA Z Z (eN (zP ?_)))))
 cases bh
 exact ⟨rfl,_,(wHm rfl rfl),aU,_,(bR.pick [0] _ (by decide) rfl),av,aN,rfl,rfl⟩
 intro az bZ
 refine cT Z az (sR fL3 Z (oM Z Z (oA Z Z (oA Z Z (eN (zP (zZ ?_)))))))
 have bS:=bg.nilrow 181 4
 cases bZ
 exact ⟨rfl,_,(wHm rfl rfl),U9,_,(bS.pick [0] _ (by decide) rfl),none,0,rfl,rfl⟩
theorem wII (p0:wAT) (ae:Option Addr) (ag:Nat) (af:Option Addr) (ah:Nat) (w:World) (U:PHeap) (hS:St0 w U []) (aP:Sl U 1 ae ag p0.Bibs.length (hD KL.encI p0.Bibs)) (aQ:SlR U wFw af ah p0.Times) {r:(List Int) × Int} (hm:wDL p0=some r):Gv Tryz.prog 67 [.agg #[jV p0.Laps,.slice ae p0.Bibs.length ag,.slice af p0.Times.length ah]] w (wBj w [] U (fun U_ L_ v=>∃ (A0:Option Addr) (c0:Nat),v=.tuple #[.slice A0 r.1.length c0,jV r.2]/\L_=[.row A0 c0 3 1 (hD KL.encI r.1)])):=by
 unfold wDL at hm
 refine Gv.of Tryz.func67 Z Tryz.ntmps67 Tryz.results67 Z (sR gBi Z ?_)
 let B0:List Value:=[jV p0.Laps,.slice ae p0.Bibs.length ag,.slice af p0.Times.length ah]
 refine ZB (cs:=B0) rfl rfl rfl rfl rfl rfl (by rfl) hS ?_
 intro W1 b2 aN
 refine oA Z Z (oA Z Z (eN (zK (sR gBg Z (oL Z (aN.ldBA (j:=0) Z Z Z yp Zn (vs:=B0) Z Z) (bnK hm fun x5 h6 bn=>zI 0 Z Z Z Z (zJ Z Z Tryz.call118 (zA Z zM) Z) aN (fun hs=>wFR p0 ae ag af ah W1 U hs aP aQ h6) (.inr Z) ?_))))))
 rintro U8 L9 bw av aS bh ⟨rfl,rfl⟩
 have an:sW w U U8 [.blk b2 175 B0] av:=bh
 refine oA Z Z (eN (sR fL2 Z (oM Z Z (oR Z (Ze Z Z Z) (eN (ifc bn ?_ ?_))))))
 intro am bk
 refine zg (zo (fun h=>h am.out)) (kN (sR (.fl 0 (.fx 1 (wHk (.nil)) .stop)) Z (oL Z (an.ldBA (j:=0) Z Z Z yp Zn (vs:=B0) Z Z) ?_)))
 have ba:=aP.le aS
 have bb:=aQ.le aS
 have q:=bnd bk
 obtain ⟨⟨ab,aT⟩,be,aR⟩:=q
 try dsimp only at aR
 refine zI 0 Z Z Z Z (zJ Z Z Tryz.call119 (zA Z zM) Z) an (fun hs=>wIH p0 ae ag af ah av U8 hs ba bb be) (.inr Z) ?_
 rintro au bp bx aX bu bi ⟨ax,aU,aY,aV,aZ,ai,aj,ap,az,aq,aM,rfl,rfl,br,bs⟩
 have aO:sW w U au [.blk ax 243 [jV ab.Race.Laps,.slice aU ab.Race.Bibs.length aY,.slice aV ab.Race.Times.length aZ,.slice ai ab.done.length aj,.slice ap ab.out.length az],.row ai aj 3 1 (hD KL.encI ab.done),.row ap az 4 1 (hD KL.encT ab.out),.row aq aM 181 4 (hD wAb aT),.blk b2 175 B0] aX:=bi
 refine oM Z Z (oR Z (ZL Z Z (v:=.pointer (some ⟨ax,0,none⟩)) Z) (oR Z (ZL Z Z (v:=.slice aq aT.length aM) Z) (oA Z Z (oA Z Z (eN (sR fL6 Z (oM Z Z (oR Z (ZJ Z Z) (oR Z (zC Z Z ZY Z zk) (oL Z (aO.ldB (j:=0) Z Z Z zu (v:=.slice ai ab.done.length aj) Z) (oA Z Z (oA Z Z (eN (zP ?_))))))))))))))
 cases aR
 exact ⟨rfl,_,(wHm rfl rfl),au,_,(aO.pick [1] _ (by decide) rfl),ai,aj,rfl,rfl⟩
 intro am bm
 refine cT Z am (sR fL3 Z (oM Z Z (oA Z Z (oA Z Z (eN (zP (zZ ?_)))))))
 have bj:=an.nilrow 3 1
 cases bm
 exact ⟨rfl,_,(wHm rfl rfl),U8,_,(bj.pick [0] _ (by decide) rfl),none,0,rfl,rfl⟩
theorem wGg (p0:wAJ) (aX:Option Addr) (ba:Nat) (ak:Option Addr) (am:Nat) (w:World) (U:PHeap) (hS:St0 w U []) (dx:Sl U 1 aX ba p0.Classes.length (hD KL.encI p0.Classes)) (cI:SlR U wLd ak am p0.Legs) {r:Int} (hm:wCK p0=some r):Gv Tryz.prog 68 [.agg #[jV p0.Bib,.slice aX p0.Classes.length ba,.slice ak p0.Legs.length am]] w (wBj w [] U (fun U_ L_ v=>v=jV r/\L_=[])):=by
 unfold wCK at hm
 refine Gv.of Tryz.func68 Z Tryz.ntmps68 Tryz.results68 Z (sR gBa Z ?_)
 let B0:List Value:=[jV p0.Bib,.slice aX p0.Classes.length ba,.slice ak p0.Legs.length am]
 refine ZB (cs:=B0) rfl rfl rfl rfl rfl rfl (by rfl) hS ?_
 intro W1 b2 cD
 refine oA Z Z (eN (sR (.fl 0 (.fx 1 (.fx 2 .nil .stop) .stop)) Z ?_))
 let B1:List Value:=[jV 0,jV 0,jV 0]
 refine oR Z (ZI (pv:=[]) (z:=B1) (cs:=B1) Z wAY yO wHp Z Z) (zy (cs:=B1) Z Z Z Z Z yO Z cD ?_)
 intro W5 b6 cH
 refine ZA (j:=0) (vs:=B1) Z Z Z Z cH Z Z Z Z Zv (zB Z) Z Z Z ?_
 intro W9 cw
 have bw:sW w U U [.blk b6 93 B1,.blk b2 101 B0] W9:=cw
 refine eN (sR fL1 Z (oA Z Z (eN (zK (sR fL4 Z (oR Z (zC Z Z ZX Z Tryz.sizeOf99) (oL Z (bw.ldB (j:=1) Z Z Z Tryz.isAgg99 (v:=.slice ak p0.Legs.length am) Z) (oR Z (ze Z Z Zu) (oM Z Z (eN (zU (bnK hm fun dE cJ cQ=>?_))))))))))))
 have q:=wBM cJ
 obtain ⟨aU,cK⟩:=q
 replace aU:=zG aU
 refine CK.forN' (fun ah bF J_ w_=>∃ (U_:PHeap),J_ 15=jV (↑ah:Int)/\J_ 3=.pointer (some ⟨b6,0,none⟩)/\J_ 4=jV bF/\J_ 13=.slice ak p0.Legs.length am/\J_ 14=jV (↑p0.Legs.length:Int)/\PHeap.Le U U_/\sW w U U_ [.blk b6 93 B1,.blk b2 101 B0] w_) cK ?_ ?_ ?_
 exact ⟨U,Z,Z,Z,Z,Z,(zQ _),bw⟩
 rintro ah bF dC de dp aS ⟨av,aP,cc,cd,bk,bm,bE,bx⟩ cX
 have bi:Hid ((↑ah:Int) < (↑p0.Legs.length:Int)):=zG (wBR aS)
 replace aS:=zG aS
 have cN:Hid (w64 ((↑ah:Int) + 1)=(↑(ah + 1):Int)):=zG (by have h1:=aU.out;have h2:=bi.out;rw [wAa] <;> omega)
 refine sR fL1 Z (oR Z (zR Z aP bm) (eN (zK (cT Z bi (kN (zK (zU (sR gBu Z (bnK cX fun ab bs cR=>?_)))))))))
 have cm:=cI.le bE
 have q:=cm.el (wAk bs)
 obtain ⟨bP,c7,dB,ct,aR,cW⟩:=q
 obtain ⟨aZ,be,ap,aq,rfl,dw,co⟩:=cW
 replace aR:Cl av bP (c7 + ah * 3) [jV ab.Skier,.slice aZ ab.Loops.length be,.slice ap ab.Bouts.length aq]:=aR
 refine oR Z (ZD Z bk ct aP Zu Zh (wBi bs)) (oL Z (bx.ldCA (f:=0) aR Z Z Tryz.isAgg98 Zh (us:=[jV ab.Skier,.slice aZ ab.Loops.length be,.slice ap ab.Bouts.length aq]) Z Z) (zy (cs:=[jV 0,.slice none 0 0,.slice none 0 0]) Z Z Z Z Z yK Z bx ?_))
 intro dr aw cE
 let B2:List Value:=[jV ab.Skier,.slice aZ ab.Loops.length be,.slice ap ab.Bouts.length aq]
 refine ZA (j:=0) (vs:=B2) Z Z Z Z cE Z Z Z Z Zh (zB Z) Z Z Z ?_
 intro bL cG
 have bz:sW w U av [.blk aw 98 B2,.blk b6 93 B1,.blk b2 101 B0] bL:=cG
 refine eN (sR fL4 Z (oR Z (zC Z Z Zd Z Tryz.sizeOf96) (oL Z (bz.ldB (j:=0) Z Z Z Tryz.isAgg96 (v:=.slice ap ab.Bouts.length aq) Z) (oR Z (ze Z Z yX) (oM Z Z (eN (zU (bnK cR fun dF cL cS=>?_))))))))
 have q:=wBM cL
 obtain ⟨aV,cM⟩:=q
 replace aV:=zG aV
 refine CK.forN' (fun aj bG J_ w_=>∃ (U_:PHeap),J_ 22=jV (↑aj:Int)/\J_ 3=.pointer (some ⟨b6,0,none⟩)/\J_ 4=jV bG/\J_ 13=.slice ak p0.Legs.length am/\J_ 14=jV (↑p0.Legs.length:Int)/\J_ 15=jV (↑ah:Int)/\J_ 20=.slice ap ab.Bouts.length aq/\J_ 21=jV (↑ab.Bouts.length:Int)/\PHeap.Le av U_/\sW w U U_ [.blk aw 98 B2,.blk b6 93 B1,.blk b2 101 B0] w_) cM ?_ ?_ ?_
 exact ⟨av,Z,cc,cd,bk,bm,aP,Z,Z,(zQ _),bz⟩
 rintro aj bG dD df bM aT ⟨bh,ax,aM,bn,bp,bq,br,aN,aO,aW,bA⟩ cY
 have bj:Hid ((↑aj:Int) < (↑ab.Bouts.length:Int)):=zG (wBR aT)
 replace aT:=zG aT
 have bB:Hid (w64 ((↑aj:Int) + 1)=(↑(aj + 1):Int)):=zG (by have h1:=aV.out;have h2:=bj.out;rw [wAa] <;> omega)
 refine sR fL1 Z (oR Z (zR Z ax aO) (eN (zK (cT Z bj (kN (zK (zU (sR fL3 Z (bnK cY fun bg bu cU=>?_)))))))))
 have cp:=co.le aW
 have q:=cp.el (wAk bu)
 obtain ⟨bQ,c8,dA,cr,aQ,cV⟩:=q
 obtain ⟨aY,bb,rfl,ci⟩:=cV
 replace aQ:Cl bh bQ (c8 + aj * 1) [.slice aY bg.length bb]:=aQ
 refine oR Z (ZD Z aN cr ax yX YG (wBi bu)) (oL Z (bA.ldC (f:=0) aQ (v:=.slice aY bg.length bb) Z Z Tryz.isAgg90 Z) (oA Z Z (eN (sR (.fl 0 (.fx 1 (wNy gBj) .stop)) Z (oM Z Z ?_)))))
 have q:=bnd cU
 obtain ⟨⟨af,da⟩,cj,bC⟩:=q
 try dsimp only at bC
 refine zI 0 Z Z Z Z (zJ Z Z Tryz.call25 (zA Z zM) Z) bA (fun hs=>wFF bg aY bb bM bh hs ci cj) (.inr Z) ?_
 rintro au dg dz bJ bD cx ⟨rfl,rfl⟩
 have cy:sW w U au [.blk aw 98 B2,.blk b6 93 B1,.blk b2 101 B0] bJ:=cx
 refine oM Z Z (oR Z (ZL Z Z (v:=.agg #[jV af.Spares,jV af.Loops,jV af.Unused]) Z) (oR Z (ZL Z Z (v:=jV da) Z) (zy (cs:=B1) Z Z Z Z Z yO Z cy ?_)))
 intro di bO cz
 let B3:List Value:=[jV af.Spares,jV af.Loops,jV af.Unused]
 refine ZA (j:=0) (vs:=B3) Z Z Z Z cz Z Z Z Z Zv (zB Z) Z Z Z ?_
 intro bK cA
 have ao:sW w U au [.blk bO 93 B3,.blk aw 98 B2,.blk b6 93 B1,.blk b2 101 B0] bK:=cA
 refine oA Z Z (eN (sR fL3 Z (oL Z (ao.ldBA (j:=0) Z Z Z YO Zv (vs:=B3) Z Z) (oL Z (ao.ldBA (j:=2) Z Z aM YO Zv (vs:=B1) Z Z) (oR Z (zr (Runs.neS (enc:=wCj) (a:=af) (b:=(⟨0,0,0⟩:wAj)) Z Z Z eqT93 eqG93) (congrArg hM (decide_not).symm)) (eN (ifc bC ?_ ?_)))))))
 intro az cO
 refine zg (zo (fun h=>h az.out)) (ZE (za (zF (rR fL2 Z (oR Z (zr (zX Z ax Z) (congrArg (jV) bB.out)) (oM Z Z (zb ?_)))))))
 cases cO
 exact zF ⟨rfl,⟨au,rfl,aM,bn,bp,bq,br,aN,aO,(aW.trans bD),(ao.pick [1,2,3] _ (by decide) rfl)⟩⟩
 intro az cP
 refine cT Z az (rR fL5 Z (oM Z bn (oR Z (zC Z Z yV Z zD) (oL Z (ao.ldB (j:=0) Z Z Z zN (v:=jV af.Unused) Z) (oR Z (zX Z Z Z) (oA Z Z (zb (za (zF (rR fL2 Z (oR Z (zr (zX Z ax Z) (congrArg (jV) bB.out)) (oM Z Z (zb ?_)))))))))))))
 cases cP
 exact zF ⟨rfl,⟨au,rfl,aM,rfl,bp,bq,br,aN,aO,(aW.trans bD),(ao.pick [1,2,3] _ (by decide) rfl)⟩⟩
 rintro db dm ⟨bH,cg,bT,bU,bV,bW,bX,dt,bY,cZ,cB⟩
 have bR:Hid (¬ ((↑(((↑ab.Bouts.length:Int):Int) - 0).toNat:Int) < (↑ab.Bouts.length:Int))):=zG (wAr)
 refine sR fL1 Z (oR Z (zR Z cg bY) (eN (zK (cF Z bR (ZG (zc (zc (zz (za (zF (rR fL2 Z (oR Z (zr (zX Z bX Z) (congrArg (jV) cN.out)) (oM Z Z (zb ?_))))))))))))))
 cases cS
 exact zF ⟨rfl,⟨bH,rfl,bT,bU,bV,bW,(bE.trans cZ),(cB.pick [1,2] _ (by decide) rfl)⟩⟩
 rintro dd dn ⟨bI,ch,du,bZ,dv,ca,dy,cC⟩
 have bS:Hid (¬ ((↑(((↑p0.Legs.length:Int):Int) - 0).toNat:Int) < (↑p0.Legs.length:Int))):=zG (wAr)
 refine sR fL1 Z (oR Z (zR Z ch ca) (eN (zK (cF Z bS (ZG (zc (zc (zz (zF (sR fL2 Z (oM Z bZ (oA Z Z (eN (zP ?_))))))))))))))
 have hE:=nB cQ;first | subst r | cases hE
 exact ⟨rfl,_,(zj rfl),bI,_,(cC.pick [] _ (by decide) rfl),rfl,rfl⟩
theorem wBw (p0:List wAD) (ab:Option Addr) (ac:Nat) (p1:((wAD × wAD)->Option Int)) (ae:Value) (w:World) (U:PHeap) (hS:St ⟨w,[.row ab ac 111 3 (hD wAM p0)],U⟩ U [.row ab ac 111 3 (hD wAM p0)] w) (ag:FnOK Tryz.prog U ae wOW wOX p1) (ah:∃ g cb,ae=.func (.func g) #[] cb) {r:List wAD} (hm:wAd p0 p1=some r):Gv Tryz.prog 69 [.slice ab p0.length ac,ae] w (wBj w [.row ab ac 111 3 (hD wAM p0)] U (fun U_ L_ v=>v=.tuple #[]/\L_=[.row ab ac 111 3 (hD wAM r)]/\r.length=p0.length)) :=
 wGq (sz:=3) (fun _=>rfl) (fun x v h=>nM.1 (show (wAM x).all (·.oneCell')=true from rfl) v h) (fun _ _ _=>rfl) (fun _ _ _ _ h=>h.1) (fun enc a1 a2 cf b g cb k1 k2 k3 d w h1 h2 h3 h4 h5 h6=>Go.Proofs.Tryz.slices_SortFunc_total_f69 3 Tryz.isAgg111 Tryz.sizeOf111 enc a1 a2 cf b g cb k1 k2 k3 d w h1 h2 h3 h4 h5 h6) (fun p c v w=>Go.Proofs.Tryz.slices_SortFunc_none_f69 (α:=Int) p c v w) hS ag (by decide) ah hm
theorem wHO (p0:wAD) (p1:wAD) (w:World) (U:PHeap) (hS:St0 w U [])  {r:Int} (hm:wBe p0 p1=some r):Gv Tryz.prog 70 [.agg #[jV p0.Bib,jV p0.Place,jV p0.Time],.agg #[jV p1.Bib,jV p1.Place,jV p1.Time]] w (wBj w [] U (fun U_ L_ v=>v=jV r/\L_=[])):=by
 unfold wBe at hm
 refine Gv.of Tryz.func70 Z Tryz.ntmps70 Tryz.results70 Z (sR gBh Z ?_)
 let B0:List Value:=[jV p0.Bib,jV p0.Place,jV p0.Time]
 refine ZB (cs:=B0) rfl rfl rfl rfl rfl rfl (by rfl) hS ?_
 intro W1 b2 aR
 let B1:List Value:=[jV p1.Bib,jV p1.Place,jV p1.Time]
 refine ZB (cs:=B1) rfl rfl rfl rfl rfl rfl (by rfl) aR ?_
 intro W5 b6 aZ
 refine ye rfl rfl rfl rfl rfl rfl (eN (zK (ZQ ZK [3,1,3,1,2,3,1,3,1,2,2,2,3] (wEv (wHl gBw)) (by kernel_rfl) ?_)))
 have af:=aZ.drew
 generalize hw_W10:({ W5 with drawn:=W5.drawn + 1 }:World)=aw at af ⊢
 refine oR Z (zC Z Z ZH Z zD) (oL Z (af.ldB (j:=1) Z Z Z zN (v:=jV p0.Time) Z) (oR Z (zC Z Z ZH Z zD) (oL Z (af.ldB (j:=0) Z Z Z zN (v:=jV p1.Time) Z) (oR Z (zC Z Z ZH Z zD) (oL Z (af.ldB (j:=1) Z Z Z zN (v:=jV p0.Bib) Z) (oR Z (zC Z Z ZH Z zD) (oL Z (af.ldB (j:=0) Z Z Z zN (v:=jV p1.Bib) Z) (bnK hm fun ag az ba=>zI 0 Z Z Z Z (zJ Z Z YL (zA Z (zA Z zM)) Z) af (fun hs=>wBg p0.Time p1.Time aw U hs az) (.inr Z) ?_))))))))
 rintro am bh br aq bm aO ⟨rfl,rfl⟩
 have aP:sW w U am [.blk b6 111 B1,.blk b2 111 B0] aq:=aO
 refine bnK ba fun ah aM bb=>zI 0 Z Z Z Z (zJ Z Z YL (zA Z (zA Z zM)) Z) aP (fun hs=>wBg p0.Bib p1.Bib aq am hs aM) (.inr Z) ?_
 rintro an bi bs ax bn aQ ⟨rfl,rfl⟩
 have aS:sW w U an [.blk b6 111 B1,.blk b2 111 B0] ax:=aQ
 refine ZF (pv:=[(0,jV ag),(1,jV ah)]) (zs:=[jV 0,jV 0]) (cs:=[jV ag,jV ah]) Z Z Z Z Z (wAH Z (wAH Z wAY)) zH zD Zr Z Z Z Z Z aS ?_
 intro ak av aT
 have aU:sW w U an [.row (some ⟨av,0,none⟩) 2 3 1 (hD KL.encI [ag,ah]),.blk b6 111 B1,.blk b2 111 B0] ak:=aT
 have q:=aU.freezeR (k:=0) (n:=[ag,ah].length) rfl (wAG (f:=KL.encI) (sz:=1) (fun _=>rfl) [ag,ah]) (by decide)
 obtain ⟨ao,bp,bg,aV⟩:=q
 have aW:sW w U ao [.blk b6 111 B1,.blk b2 111 B0] ak:=aV
 refine bnK bb fun bw aN be=>zI 0 Z Z Z Z (zJ Z Z Tryz.call40 (zA Z zM) Z) aW (fun hs=>wGI [ag,ah] (some ⟨av,0,none⟩) 2 ak ao hs bg aN) (.inr Z) ?_
 rintro ap bj bu ay bq aX ⟨rfl,rfl⟩
 have aY:sW w U ap [.blk b6 111 B1,.blk b2 111 B0] ay:=aX
 refine oA Z Z (eN (zP ?_))
 have hE:=nB be;first | subst r | cases hE
 exact ⟨rfl,_,(zj rfl),ap,_,(aY.pick [] _ (by decide) rfl),rfl,rfl⟩
theorem wHP (p0:wAD) (p1:wAD) (p2:List (Int × Int)) (aM:Nat) (am:Nat) (bn:Array MapEntry) (bp:Nat) (w:World) (U:PHeap) (hS:St0 w U []) (ay:Cl U aM 0 [.map (some am)]) (az:MpF U am bn bp wKY wLe p2) {r:Int} (hm:wBf p0 p1 p2=some r):Gv Tryz.prog 71 [.agg #[jV p0.Bib,jV p0.Place,jV p0.Time],.agg #[jV p1.Bib,jV p1.Place,jV p1.Time],.pointer (some ⟨aM,0,none⟩)] w (wBj w [] U (fun U_ L_ v=>v=jV r/\L_=[])):=by
 unfold wBf at hm
 refine Gv.of Tryz.func71 Z Tryz.ntmps71 Tryz.results71 Z (sR gBh Z ?_)
 let B0:List Value:=[jV p0.Bib,jV p0.Place,jV p0.Time]
 refine ZB (cs:=B0) rfl rfl rfl rfl rfl rfl (by rfl) hS ?_
 intro W1 b2 aW
 let B1:List Value:=[jV p1.Bib,jV p1.Place,jV p1.Time]
 refine ZB (cs:=B1) rfl rfl rfl rfl rfl rfl (by rfl) aW ?_
 intro W5 b6 bh
 refine ye rfl rfl rfl rfl rfl rfl (eN (zK (ZQ ZK [1,3,1,1,1,3,1,1,2,3,1,3,1,2,2,2,3] (wPB (wQH (.fx 8 (.fx 13 (.fx 14 (.fx 15 (.fl 16 .nil) .stop) .stop) .stop) .stop))) (by kernel_rfl) ?_)))
 have ac:=bh.drew
 generalize hw_W10:({ W5 with drawn:=W5.drawn + 1 }:World)=aN at ac ⊢
 refine oL Z (ac.ldC (f:=0) ay (v:=.map (some am)) Z Z Tryz.isAgg179 Z) (oR Z (zC Z Z ZH Z zD) (oL Z (ac.ldB (j:=0) Z Z Z zN (v:=jV p1.Bib) Z) (oL Z (ac.lookupF1 (mk:=wKY) (mv:=wLe) (a:=p1.Bib) (z:=0) az Z Z Z (wBq Tryz.runUnderlying179) wKb Zr) (oL Z (ac.ldC (f:=0) ay (v:=.map (some am)) Z Z Tryz.isAgg179 Z) (oR Z (zC Z Z ZH Z zD) (oL Z (ac.ldB (j:=1) Z Z Z zN (v:=jV p0.Bib) Z) (oL Z (ac.lookupF1 (mk:=wKY) (mv:=wLe) (a:=p0.Bib) (z:=0) az Z Z Z (wBq Tryz.runUnderlying179) wKb Zr) (oR Z (zC Z Z ZH Z zD) (oL Z (ac.ldB (j:=1) Z Z Z zN (v:=jV p0.Bib) Z) (oR Z (zC Z Z ZH Z zD) (oL Z (ac.ldB (j:=0) Z Z Z zN (v:=jV p1.Bib) Z) (bnK hm fun ag aQ bi=>zI 0 Z Z Z Z (zJ Z Z YL (zA Z (zA Z zM)) Z) ac (fun hs=>wBg (wDn p2 p1.Bib 0) (wDn p2 p0.Bib 0) aN U hs aQ) (.inr Z) ?_))))))))))))
 rintro ao bq bB av bw aT ⟨rfl,rfl⟩
 have aU:sW w U ao [.blk b6 111 B1,.blk b2 111 B0] av:=aT
 refine bnK bi fun ah aR bj=>zI 0 Z Z Z Z (zJ Z Z YL (zA Z (zA Z zM)) Z) aU (fun hs=>wBg p0.Bib p1.Bib av ao hs aR) (.inr Z) ?_
 rintro ap br bC aO bx aV ⟨rfl,rfl⟩
 have aX:sW w U ap [.blk b6 111 B1,.blk b2 111 B0] aO:=aV
 refine ZF (pv:=[(0,jV ag),(1,jV ah)]) (zs:=[jV 0,jV 0]) (cs:=[jV ag,jV ah]) Z Z Z Z Z (wAH Z (wAH Z wAY)) zH zD Zr Z Z Z Z Z aX ?_
 intro an ax aY
 have aZ:sW w U ap [.row (some ⟨ax,0,none⟩) 2 3 1 (hD KL.encI [ag,ah]),.blk b6 111 B1,.blk b2 111 B0] an:=aY
 have q:=aZ.freezeR (k:=0) (n:=[ag,ah].length) rfl (wAG (f:=KL.encI) (sz:=1) (fun _=>rfl) [ag,ah]) (by decide)
 obtain ⟨aq,bz,bm,ba⟩:=q
 have bb:sW w U aq [.blk b6 111 B1,.blk b2 111 B0] an:=ba
 refine bnK bj fun bE aS bk=>zI 0 Z Z Z Z (zJ Z Z Tryz.call40 (zA Z zM) Z) bb (fun hs=>wGI [ag,ah] (some ⟨ax,0,none⟩) 2 an aq hs bm aS) (.inr Z) ?_
 rintro au bs bD aP bA be ⟨rfl,rfl⟩
 have bg:sW w U au [.blk b6 111 B1,.blk b2 111 B0] aP:=be
 refine oA Z Z (eN (zP ?_))
 have hE:=nB bk;first | subst r | cases hE
 exact ⟨rfl,_,(zj rfl),au,_,(bg.pick [] _ (by decide) rfl),rfl,rfl⟩
theorem wIJ (p0:wAS) (cE:Option Addr) (cI:Nat) (bp:Option Addr) (bq:Nat) (w:World) (U:PHeap) (hS:St0 w U []) (lj:Sl U 1 cE cI p0.Rules.Classes.length (hD KL.encI p0.Rules.Classes)) (fC:SlR U wFJ bp bq p0.Teams) {r:(List wAD) × Int} (hm:wCi p0=some r):Gv Tryz.prog 28 [.agg #[.slice cE p0.Rules.Classes.length cI,jV p0.Rules.Each,jV p0.Rules.Laps,jV p0.Rules.Spare,jV p0.Rules.Loop,jV p0.Rules.Unused,jV p0.Start,.slice bp p0.Teams.length bq]] w (wBj w [] U (fun U_ L_ v=>∃ (A0:Option Addr) (c0:Nat),v=.tuple #[.slice A0 r.1.length c0,jV r.2]/\L_=[.row A0 c0 111 3 (hD wAM r.1)])):=by
 unfold wCi at hm
 refine Gv.of Tryz.func28 Z Tryz.ntmps28 Tryz.results28 Z (sR gBi Z ?_)
 let B0:List Value:=[.slice cE p0.Rules.Classes.length cI,jV p0.Rules.Each,jV p0.Rules.Laps,jV p0.Rules.Spare,jV p0.Rules.Loop,jV p0.Rules.Unused,jV p0.Start,.slice bp p0.Teams.length bq]
 refine ZB (cs:=B0) rfl rfl rfl rfl rfl rfl (by rfl) hS ?_
 intro W1 b2 fm
 refine oA Z Z (oA Z Z (eN (sR (.fl 0 (.fx 1 (wHk (.nil)) .stop)) Z (oL Z (fm.ldBA (j:=0) Z Z Z yh Zp (vs:=B0) Z Z) ?_))))
 have q:=bnd hm
 obtain ⟨⟨x5,x6⟩,h7,bR⟩:=q
 try dsimp only at bR
 refine zI 0 Z Z Z Z (zJ Z Z Tryz.call63 (zA Z zM) Z) fm (fun hs=>wFc p0 cE cI bp bq W1 U hs lj fC h7) (.inr Z) ?_
 rintro U9 mJ oq cd mq fg ff
 rcases x5 with _ | aP
 try dsimp only at bR
 obtain ⟨rfl,rfl⟩:=ff
 have jr:sW w U U9 [.blk b2 89 B0] cd:=fg
 refine oM Z Z (oR Z (ZL Z Z (v:=.pointer none) Z) (oR Z (ZL Z Z (v:=jV x6) Z) (oA Z Z (oA Z Z (eN (zK (sR fL2 Z (oM Z Z (oR Z (Ze Z Z Z) (eN (ifc bR ?_ ?_)))))))))))
 intro cZ lG
 refine zg (zo (fun h=>h cZ.out)) (kN (sR gBv Z (oM Z Z ?_)))
 cases lG
 intro cZ lH
 refine cT Z cZ (sR fL3 Z (oM Z Z (oA Z Z (oA Z Z (eN (zP (zZ ?_)))))))
 have jv:=jr.nilrow 111 3
 cases lH
 exact ⟨rfl,_,(wHm rfl rfl),U9,_,(jv.pick [0] _ (by decide) rfl),none,0,rfl,rfl⟩
 try dsimp only at bR
 obtain ⟨bx,dR,eG,dS,eH,bG,bO,gD,rfl,rfl,iB,iC,iE⟩:=ff
 let B1:Res:=.blk bx 183 [.slice dR aP.Race.Rules.Classes.length eG,jV aP.Race.Rules.Each,jV aP.Race.Rules.Laps,jV aP.Race.Rules.Spare,jV aP.Race.Rules.Loop,jV aP.Race.Rules.Unused,jV aP.Race.Start,.slice dS aP.Race.Teams.length eH,.slice bG aP.after.length bO]
 have ft:sW w U U9 [B1,.row bG bO 31 1 gD,.blk b2 89 B0] cd:=fg
 refine oM Z Z (oR Z (ZL Z Z (v:=.pointer (some ⟨bx,0,none⟩)) Z) (oR Z (ZL Z Z (v:=jV x6) Z) (oA Z Z (oA Z Z (eN (zK (sR fL2 Z (oM Z Z (oR Z (Ze Z Z Z) (eN (ifc bR ?_ ?_)))))))))))
 intro c7 lP
 refine zg (zo (fun h=>h c7.out)) (kN (sR gBv Z (oM Z Z ?_)))
 have q:=ft.freezeRR (R:=wFw) (k:=1) rfl iE rfl (by decide)
 obtain ⟨ed,dJ,fH,jH⟩:=q
 have jI:sW w U ed [B1,.blk b2 89 B0] cd:=jH
 have iN:=iB.le dJ
 have iP:=iC.le dJ
 refine bnK lP fun aY iR lW=>zI 1 Z Z Z Z (zJ Z Z Tryz.call66 (zA Z zM) Z) jI (fun hs=>wFQ aP bx dR eG dS eH bG bO cd ed hs iN iP fH iR) (.inl Z) ?_
 rintro ee mM ou gq fO jY ⟨bW,ch,bX,ci,gF,rfl,rfl,iY⟩
 let B2:Res:=.row bW ch 3 1 (hD KL.encI aY.Bibs)
 let B3:Res:=.row bX ci 31 1 gF
 have k6:sW w U ee [B2,B3,B1,.blk b2 89 B0] gq:=jY
 let B4:List Value:=[jV 0,.slice none 0 0,.slice none 0 0]
 refine zy (cs:=B4) Z Z Z Z Z Tryz.zeroValue175 Z k6 ?_
 intro m4 ai k9
 let B5:List Value:=[jV aY.Laps,.slice bW aY.Bibs.length ch,.slice bX aY.Times.length ci]
 refine ZA (j:=0) (vs:=B5) Z Z Z Z k9 Z Z Z Z Zn (zB Z) Z Z Z ?_
 intro cg la
 have fA:sW w U ee [.blk ai 175 B5,B2,B3,B1,.blk b2 89 B0] cg:=la
 refine eN (sR (.fl 0 (.fx 1 (wHk (.nil)) .stop)) Z (oL Z (fA.ldBA (j:=0) Z Z Z yp Zn (vs:=B5) Z Z) ?_))
 have q:=fA.freezeR (k:=1) (n:=aY.Bibs.length) rfl (wAG (f:=KL.encI) (sz:=1) (fun _=>rfl) aY.Bibs) (by decide)
 obtain ⟨f3,dL,mn,lb⟩:=q
 have lc:sW w U f3 [.blk ai 175 B5,B3,B1,.blk b2 89 B0] cg:=lb
 have i4:=iY.le dL
 have q:=lc.freezeRR (R:=wFw) (k:=1) rfl i4 rfl (by decide)
 obtain ⟨ep,dM,fI,lg⟩:=q
 have lh:sW w U ep [.blk ai 175 B5,B1,.blk b2 89 B0] cg:=lg
 have fc:=mn.le dM
 have q:=bnd lW
 obtain ⟨⟨az,mB⟩,i5,fG⟩:=q
 try dsimp only at fG
 refine zI 0 Z Z Z Z (zJ Z Z Tryz.call65 (zA Z zM) Z) lh (fun hs=>wGX aY bW ch bX ci cg ep hs fc fI i5) (.inr Z) ?_
 rintro eu mP ox eB cD li ⟨cM,dd,rfl,rfl⟩
 let B6:Res:=.row cM dd 181 4 (hD wAb az)
 have fB:sW w U eu [B6,.blk ai 175 B5,B1,.blk b2 89 B0] eB:=li
 refine oM Z Z (oR Z (ZL Z Z (v:=.slice cM az.length dd) Z) (oR Z (ZL Z Z (v:=jV mB) Z) (oA Z Z (oA Z Z (eN (sR (.fl 0 (.fx 1 (wHk (.nil)) .stop)) Z (oL Z (fB.ldBA (j:=1) Z Z Z yp Zn (vs:=B5) Z Z) ?_)))))))
 have i6:=fc.le cD
 have i7:=fI.le cD
 have q:=bnd fG
 obtain ⟨⟨bg,mz⟩,ik,fD⟩:=q
 try dsimp only at fD
 refine zI 0 Z Z Z Z (zJ Z Z Tryz.call67 (zA Z zM) Z) fB (fun hs=>wII aY bW ch bX ci eB eu hs i6 i7 ik) (.inr Z) ?_
 rintro bZ mK om f7 fM jf ⟨bF,bN,rfl,rfl⟩
 let B7:Res:=.row bF bN 3 1 (hD KL.encI bg)
 have jg:sW w U bZ [B7,B6,.blk ai 175 B5,B1,.blk b2 89 B0] f7:=jf
 refine oM Z Z (oR Z (ZL Z Z (v:=.slice bF bg.length bN) Z) (oR Z (ZL Z Z (v:=jV mz) Z) (oA Z Z (oA Z Z (eN (sR (.fx 0 (.fx 1 (.fx 2 (.fl 3 (.fx 4 .nil .stop)) .stop) .stop) .stop) Z (OKS.makeMap Z Z Z Z Z jg ?_)))))))
 intro mQ am jh
 have mg:=MpR.nil wED wEL
 refine OKS.makeMap Z Z Z Z Z jh ?_
 intro mR ay ji
 have mh:=MpR.nil wKY wLe
 refine zy (cs:=[.map none]) Z Z Z Z Z Tryz.zeroValue179 Z ji ?_
 intro mS ap jj
 refine oA Z Z ?_
 let B8:List Value:=[.map (some ay)]
 refine ZA (j:=0) (vs:=B8) Z Z Z Z jj Z Z Z Z Tryz.sizeOf179 (zB Z) Z Z Z ?_
 intro f8 jk
 have jl:sW w U bZ [.blk ap 179 B8,.obj ay (.map #[] 0),.obj am (.map #[] 0),B7,B6,.blk ai 175 B5,B1,.blk b2 89 B0] f8:=jk
 refine eN (zK (sR fL3 Z (oM Z Z (oR Z (ze Z Z Tryz.runUnderlying104) (oM Z Z (eN (zU (bnK fD fun oG lk lD=>?_))))))))
 have q:=wBM lk
 obtain ⟨dF,lm⟩:=q
 replace dF:=zG dF
 refine CK.forN' (fun aU fK J_ w_=>∃ (U_:PHeap) (cj:Array MapEntry) (de:Nat),J_ 44=jV (↑aU:Int)/\J_ 1=.pointer (some ⟨b2,0,none⟩)/\J_ 4=.pointer (some ⟨bx,0,none⟩)/\J_ 6=.pointer (some ⟨ai,0,none⟩)/\J_ 9=.slice bF bg.length bN/\J_ 11=.map (some am)/\J_ 12=.pointer (some ⟨ap,0,none⟩)/\J_ 42=.slice cM az.length dd/\J_ 43=jV (↑az.length:Int)/\PHeap.Le bZ U_/\sW w U U_ [.blk ap 179 B8,.obj ay (.map #[] 0),.obj am (.map cj de),.blk ai 175 B5,B1,.blk b2 89 B0,B7,B6] w_/\MpR cj wED wEL fK) lm ?_ ?_ ?_
 exact ⟨bZ,#[],0,rfl,rfl,rfl,rfl,rfl,rfl,rfl,rfl,rfl,(zQ _),(jl.pick [0,1,2,5,6,7,3,4] _ (by decide) rfl),mg⟩
 rintro aU fK oC mD mT dC ⟨cS,cj,de,dq,gH,gI,gJ,gK,eS,gL,eT,eU,mr,dA,il⟩ mo
 have eF:Hid ((↑aU:Int) < (↑az.length:Int)):=zG (wBR dC)
 replace dC:=zG dC
 have lC:Hid (w64 ((↑aU:Int) + 1)=(↑(aU + 1):Int)):=zG (by have h1:=dF.out;have h2:=eF.out;rw [wAa] <;> omega)
 refine sR fL1 Z (oR Z (zR Z dq eU) (eN (zK (cT Z eF (kN (zK (zU (sR gBu Z (bnK mo fun _ dr lE=>?_)))))))))
 obtain ⟨m5,fd⟩:=dA.rowSome (j:=7) rfl (by rw [wAG (f:=wAb) (sz:=4) (fun _=>rfl) az];have hz:=wAU dr;omega)
 refine oR Z (ZD Z eT fd dq Tryz.runUnderlying104 Tryz.sizeOf181 (wAU dr)) ?_
 have lv:=wBY (xs:=az) (wAU dr)
 let B9:List Value:=[jV ((gd az aU).Bib),jV ((gd az aU).Done),jV ((gd az aU).Time),jV ((gd az aU).By)]
 refine zn rfl rfl rfl rfl (dA.ldRA (j:=7) rfl fd rfl rfl Tryz.isAgg181 Tryz.sizeOf181 (vs:=B9) (wBE (sz:=4) (fun _=>rfl) _ _ _ lv (by first | omega | rfl | simp) rfl) rfl) rfl (zy (cs:=[jV 0,jV 0,jV 0,jV 0]) rfl rfl rfl rfl rfl Tryz.zeroValue181 rfl dA ?_)
 intro mU eC jm
 refine ZA (j:=0) (vs:=B9) Z Z Z Z jm Z Z Z Z Tryz.sizeOf181 (zB Z) Z Z Z ?_
 intro f9 jo
 have fh:sW w U cS [.blk eC 181 B9,.blk ap 179 B8,.obj ay (.map #[] 0),.obj am (.map cj de),.blk ai 175 B5,B1,.blk b2 89 B0,B7,B6] f9:=jo
 refine eN (rR (wEz (.fx 3 .nil .stop)) rfl (zO rfl rfl rfl rfl rfl eS (zT rfl rfl rfl rfl (fun _=>zC rfl rfl YF rfl zD) (zn rfl rfl rfl rfl (fh.ldB (j:=0) rfl rfl rfl zN (v:=jV ((gd az aU).Bib)) rfl) rfl (OKS.mapPut (x:=.tmp 48) (y:=.tmp 50) (j:=3) (mk:=wED) (mv:=wEL) (a:=(gd az aU).Bib) (v:=true) rfl rfl rfl (by first | exact .inl rfl | exact .inr rfl) fh rfl rfl rfl rfl (wBq yD) wFb il rfl ?_)))))
 intro eR eQ gb mi jp
 have jq:sW w U cS [.blk eC 181 B9,.blk ap 179 B8,.obj ay (.map #[] 0),.obj am (.map eR eQ),.blk ai 175 B5,B1,.blk b2 89 B0,B7,B6] gb:=jp
 refine zb (za (zF (rR fL2 Z (oR Z (zr (zX Z dq Z) (congrArg (jV) lC.out)) (oM Z Z (zb ?_))))))
 cases lE
 exact zF ⟨rfl,⟨cS,eR,eQ,rfl,gH,gI,gJ,gK,eS,gL,eT,eU,mr,(jq.pick [1,2,3,4,5,6,7,8] _ (by decide) rfl),mi⟩⟩
 rintro mE mV ⟨eb,aw,av,ig,eV,gM,gN,gO,gP,gQ,m9,gR,fN,fj,im⟩
 have gC:Hid (¬ ((↑(((↑az.length:Int):Int) - 0).toNat:Int) < (↑az.length:Int))):=zG (wAr)
 refine sR fL1 Z (oR Z (zR Z ig gR) (eN (zK (cF Z gC (ZG (zc (zc (zz (zF (sR fL2 Z (oA Z Z (oA Z Z (eN (zK (sR fL4 Z (oR Z (zC Z eV zt Z Zt) (oL Z (fj.ldB (j:=5) Z Z Z yM (v:=.slice bp p0.Teams.length bq) Z) (oR Z (ze Z Z ZS) (oM Z Z (eN (zU ?_)))))))))))))))))))))
 have q:=bnd lD
 obtain ⟨⟨dO,bV,dP⟩,ln,fE⟩:=q
 try dsimp only at fE
 have q:=wBM ln
 obtain ⟨dG,lp⟩:=q
 replace dG:=zG dG
 refine CK.forN' (fun aV (fL,bD,bn) J_ w_=>∃ (U_:PHeap) (cm:Array MapEntry) (df:Nat) (bh:Option Addr) (bj:Nat) (bs:Option Addr) (bz:Nat),J_ 55=jV (↑aV:Int)/\J_ 1=.pointer (some ⟨b2,0,none⟩)/\J_ 4=.pointer (some ⟨bx,0,none⟩)/\J_ 6=.pointer (some ⟨ai,0,none⟩)/\J_ 9=.slice bF bg.length bN/\J_ 11=.map (some am)/\J_ 12=.pointer (some ⟨ap,0,none⟩)/\J_ 15=.slice bh bD.length bj/\J_ 16=.slice bs bn.length bz/\J_ 53=.slice bp p0.Teams.length bq/\J_ 54=jV (↑p0.Teams.length:Int)/\PHeap.Le eb U_/\sW w U U_ [.blk ap 179 B8,.obj ay (.map cm df),.obj am (.map aw av),.blk ai 175 B5,B1,.blk b2 89 B0,B7,.row bh bj 111 3 (hD wAM bD),.row bs bz 111 3 (hD wAM bn)] w_/\MpR cm wKY wLe fL) lp ?_ ?_ ?_
 have jt:=fj.nilrow 111 3
 have ju:=jt.nilrow 111 3
 exact ⟨eb,#[],0,none,0,none,0,rfl,eV,gM,gN,gO,gP,gQ,rfl,rfl,rfl,rfl,(zQ _),(ju.pick [2,3,4,5,6,7,8,1,0] _ (by decide) rfl),mh⟩
 rintro aV ⟨fL,bD,bn⟩ oD mF mW dD ⟨aO,cm,df,bh,bj,bs,bz,bB,dh,co,cp,cr,ct,cw,di,dm,cx,cy,bS,fk,io⟩ fJ
 try dsimp only at fJ
 have eI:Hid ((↑aV:Int) < (↑p0.Teams.length:Int)):=zG (wBR dD)
 replace dD:=zG dD
 have dB:Hid (w64 ((↑aV:Int) + 1)=(↑(aV + 1):Int)):=zG (by have h1:=dG.out;have h2:=eI.out;rw [wAa] <;> omega)
 refine sR fL1 Z (oR Z (zR Z bB cy) (eN (zK (cT Z eI (kN (zK (zU (sR (wEz (.fx 3 (.fl 4 (.fx 5 .nil .stop)) .stop)) Z (oM Z bB (bnK fJ fun aj e9 lI=>?_))))))))))
 have ip:=fC.le mq
 have iq:=ip.le dJ
 have ir:=iq.le fO
 have it:=ir.le dL
 have iu:=it.le dM
 have iv:=iu.le cD
 have iw:=iv.le fM
 have ix:=iw.le fN
 have iy:=ix.le bS
 have q:=iy.el (wAk e9)
 obtain ⟨gw,mw,oy,i8,dx,mj⟩:=q
 obtain ⟨cG,cJ,cH,cK,rfl,iz,iA⟩:=mj
 replace dx:Cl aO gw (mw + aV * 3) [jV aj.Bib,.slice cG aj.Classes.length cJ,.slice cH aj.Legs.length cK]:=dx
 refine oR Z (ZD Z cx i8 bB ZS Zc (wBi e9)) (oL Z (fk.ldCA (f:=0) dx Z Z yy Zc (us:=[jV aj.Bib,.slice cG aj.Classes.length cJ,.slice cH aj.Legs.length cK]) Z Z) (zy (cs:=B4) Z Z Z Z Z yQ Z fk ?_))
 intro mX aW jw
 refine oA Z Z ?_
 let aQ:List Value:=[jV aj.Bib,.slice cG aj.Classes.length cJ,.slice cH aj.Legs.length cK]
 refine ZA (j:=0) (vs:=aQ) Z Z Z Z jw Z Z Z Z Zc (zB Z) Z Z Z ?_
 intro cW jx
 let ba:Res:=.row bh bj 111 3 (hD wAM bD)
 let bi:Res:=.row bs bz 111 3 (hD wAM bn)
 have jy:sW w U aO [.blk aW 101 aQ,.blk ap 179 B8,.obj ay (.map cm df),.obj am (.map aw av),.blk ai 175 B5,B1,.blk b2 89 B0,B7,ba,bi] cW:=jx
 refine eN (zK (ZQ ZK [1,3,1,3,3,3,1,0] (wMF (.fx 7 .nil .stop)) (by kernel_rfl) ?_))
 have bC:=jy.drew
 generalize hw_W325:({ cW with drawn:=cW.drawn + 1 }:World)=mY at bC ⊢
 refine oL Z (bC.ldB (j:=1) Z Z cw Tryz.isAgg179 (v:=.map (some ay)) Z) (oR Z (zC Z Z ZX Z zD) (oL Z (bC.ldB (j:=0) Z Z Z zN (v:=jV aj.Bib) Z) (oM Z cr (oM Z Z (bnK lI fun _ dt lJ=>?_)))))
 obtain ⟨m6,fe⟩:=bC.rowSome (j:=7) rfl (by rw [wAG (f:=KL.encI) (sz:=1) (fun _=>rfl) bg];have hz:=wAU dt;omega)
 refine oR Z (ZD Z Z fe Z zH zD (wAU dt)) ?_
 have lw:=wBY (xs:=bg) (wAU dt)
 refine zn rfl rfl rfl rfl (bC.ldR (j:=7) rfl fe rfl rfl zN (wBS (sz:=1) (fun _=>rfl) _ _ 0 _ lw (by first | omega | rfl | simp) rfl)) rfl (OKS.mapPut (x:=.tmp 60) (y:=.tmp 62) (z:=.tmp 66) (j:=2) (mk:=wKY) (mv:=wLe) (a:=aj.Bib) (v:=(gd bg aV)) rfl rfl rfl (by first | exact .inl rfl | exact .inr rfl) bC rfl rfl rfl rfl (wBq Tryz.runUnderlying179) wKb io rfl ?_)
 intro aS aR cX dI jz
 have jA:sW w U aO [.blk aW 101 aQ,.blk ap 179 B8,.obj ay (.map aS aR),.obj am (.map aw av),.blk ai 175 B5,B1,.blk b2 89 B0,B7,ba,bi] cX:=jz
 refine eN (zK (zK (ZQ ZK [3,3,1,1,3,3,3,3,1,3,3,1,3,3,1,3,3] fL17 (by kernel_rfl) ?_)))
 have aT:=jA.drew
 generalize hw_W338:({ cX with drawn:=cX.drawn + 1 }:World)=ey at aT ⊢
 refine oM Z ct (oR Z (zC Z Z ZX Z zD) (oL Z (aT.ldB (j:=0) Z Z Z zN (v:=jV aj.Bib) Z) (oL Z (aT.lookup1 (j:=3) (mk:=wED) (mv:=wEL) (a:=aj.Bib) (z:=false) Z Z Z Z (wBq yD) wFb Tryz.zeroValue4 im) (oM Z Z (ifc lJ ?_ ?_)))))
 intro aq lK
 refine zW Z Z Z (zY Z Z (congrArg hM aq.out) Z) (zW Z Z Z (zY Z Z (congrArg hM aq.out) Z) (zW Z Z Z (zY Z Z (congrArg hM aq.out) Z) (zW Z Z Z (zY Z Z (congrArg hM aq.out) Z) (zW Z Z Z (zY Z Z (congrArg hM aq.out) Z) (zW Z Z Z (zY Z Z (congrArg hM aq.out) Z) (zW Z Z Z (zY Z Z (congrArg hM aq.out) Z) (zW Z Z Z (zY Z Z (congrArg hM aq.out) Z) (zW Z Z Z (zY Z Z (congrArg hM aq.out) Z) (zW Z Z Z (zY Z Z (congrArg hM aq.out) Z) (zW Z Z Z (zY Z Z (congrArg hM aq.out) Z) (oR Z (zV Z (congrArg hM aq.out) Z) (eN (zx Z (sR (wEv gBk) Z (oM Z dm (oR Z (zC Z Z ZX Z zD) (oL Z (aT.ldB (j:=0) Z Z Z zN (v:=jV aj.Bib) Z) ?_)))))))))))))))))
 let cN:List Value:=[jV aj.Bib,jV 0,jV 0]
 let dX:List Value:=[jV 0,jV 0,jV 0]
 refine oR Z (ZI (pv:=[(0,jV aj.Bib)]) (z:=dX) (cs:=cN) Z (wAH Z wAY) yw wIB Z Z) (ZF (pv:=[(0,.agg cN.toArray)]) (zs:=dX) (cs:=cN) Z Z Z Z Z (wAH Z wAY) Zk yT yw Z Z Z Z Z aT ?_)
 intro gc gx jB
 let dY:Res:=.row (some ⟨gx,0,none⟩) 1 111 3 (hD wAM [(⟨aj.Bib,0,0⟩:wAD)])
 have fq:sW w U aO [dY,.blk aW 101 aQ,.blk ap 179 B8,.obj ay (.map aS aR),.obj am (.map aw av),.blk ai 175 B5,B1,.blk b2 89 B0,B7,ba,bi] gc:=jB
 refine bnK lK fun fT iD lL=>yE (j:=10) (enc:=wAM) (xs:=bn) (ys:=[(⟨aj.Bib,0,0⟩:wAD)]) (zs:=fT) rfl rfl rfl rfl rfl Tryz.underlying107 wJF rfl rfl rfl rfl rfl rfl fq rfl rfl rfl (fq.srcR (j:=0) rfl (by decide) (wAG (f:=wAM) (sz:=3) (fun _=>rfl) [(⟨aj.Bib,0,0⟩:wAD)])) (fun _=>rfl) (fun _=>rfl) iD rfl ?_
 intro dT eJ ge jC
 have jD:sW w U aO [dY,.blk aW 101 aQ,.blk ap 179 B8,.obj ay (.map aS aR),.obj am (.map aw av),.blk ai 175 B5,B1,.blk b2 89 B0,B7,ba,.row dT eJ 111 3 (hD wAM fT)] ge:=jC
 refine oA Z Z (eN (ZG (zc (zz (zF (rR fL2 Z (oR Z (zr (zX Z bB Z) (congrArg (jV) dB.out)) (oM Z Z (zb ?_)))))))))
 cases lL
 exact zF ⟨rfl,⟨aO,aS,aR,bh,bj,dT,eJ,rfl,dh,co,cp,cr,ct,cw,di,rfl,cx,cy,bS,(jD.pick [2,3,4,5,6,7,8,9,10] _ (by decide) rfl),dI⟩⟩
 intro aq lM
 refine zO Z Z Z (zL Z Z (congrArg hM (nA.2 aq.out))) Z co (zT Z Z Z (zL Z Z (congrArg hM (nA.2 aq.out))) (fun _=>ZJ Z Z) (zT Z Z Z (zL Z Z (congrArg hM (nA.2 aq.out))) (fun _=>zC Z Z Zf Z Zz) (zn Z Z Z (zL Z Z (congrArg hM (nA.2 aq.out))) (aT.ldB (j:=5) Z Z Z yY (v:=.slice bG aP.after.length bO) Z) Z (zO Z Z Z (zL Z Z (congrArg hM (nA.2 aq.out))) Z Z (bnK lM fun cL cA lN=>?_)))))
 have iF:=fH.le fO
 have iG:=iF.le dL
 have iH:=iG.le dM
 have iI:=iH.le cD
 have iJ:=iI.le fM
 have iK:=iJ.le fN
 have fb:=iK.le bS
 have q:=fb.el (wAk cA)
 obtain ⟨gy,mx,oz,i9,dy,ml⟩:=q
 obtain ⟨fP,fR,rfl,n9⟩:=ml
 replace dy:Cl aO gy (mx + aV * 1) [.slice fP cL.length fR]:=dy
 refine zT Z Z Z (zL Z Z (congrArg hM (nA.2 aq.out))) (fun _=>ZD Z Z i9 Z ZM zk (wBi cA)) (zn Z Z Z (zL Z Z (congrArg hM (nA.2 aq.out))) (aT.ldC (f:=0) dy (v:=.slice fP cL.length fR) Z Z zu Z) Z (zT Z Z Z (zL Z Z (congrArg hM (nA.2 aq.out))) (fun _=>ze Z Z zH) (zT Z Z Z (zL Z Z (congrArg hM (nA.2 aq.out))) (fun _=>zC Z cp ZC Z zD) (zn Z Z Z (zL Z Z (congrArg hM (nA.2 aq.out))) (aT.ldB (j:=4) Z Z Z zN (v:=jV aY.Laps) Z) Z (zT Z Z Z (zL Z Z (congrArg hM (nA.2 aq.out))) (fun _=>zR Z Z Z) (oR Z (zS Z (congrArg hM (nA.2 aq.out)) Z) (eN (ifc lN ?_ ?_))))))))
 intro c8 lQ
 refine cT Z c8 (sR (wEv gBk) Z (oM Z dm (oR Z (zC Z Z ZX Z zD) (oL Z (aT.ldB (j:=0) Z Z Z zN (v:=jV aj.Bib) Z) ?_))))
 let cO:List Value:=[jV aj.Bib,jV 0,jV 0]
 let dZ:List Value:=[jV 0,jV 0,jV 0]
 refine oR Z (ZI (pv:=[(0,jV aj.Bib)]) (z:=dZ) (cs:=cO) Z (wAH Z wAY) yw wIB Z Z) (ZF (pv:=[(0,.agg cO.toArray)]) (zs:=dZ) (cs:=cO) Z Z Z Z Z (wAH Z wAY) Zk yT yw Z Z Z Z Z aT ?_)
 intro gf gz jE
 let d5:Res:=.row (some ⟨gz,0,none⟩) 1 111 3 (hD wAM [(⟨aj.Bib,0,0⟩:wAD)])
 have fu:sW w U aO [d5,.blk aW 101 aQ,.blk ap 179 B8,.obj ay (.map aS aR),.obj am (.map aw av),.blk ai 175 B5,B1,.blk b2 89 B0,B7,ba,bi] gf:=jE
 refine bnK lQ fun fU iL lR=>yE (j:=10) (enc:=wAM) (xs:=bn) (ys:=[(⟨aj.Bib,0,0⟩:wAD)]) (zs:=fU) rfl rfl rfl rfl rfl Tryz.underlying107 wJF rfl rfl rfl rfl rfl rfl fu rfl rfl rfl (fu.srcR (j:=0) rfl (by decide) (wAG (f:=wAM) (sz:=3) (fun _=>rfl) [(⟨aj.Bib,0,0⟩:wAD)])) (fun _=>rfl) (fun _=>rfl) iL rfl ?_
 intro dU eK gg jF
 have jG:sW w U aO [d5,.blk aW 101 aQ,.blk ap 179 B8,.obj ay (.map aS aR),.obj am (.map aw av),.blk ai 175 B5,B1,.blk b2 89 B0,B7,ba,.row dU eK 111 3 (hD wAM fU)] gg:=jF
 refine oA Z Z (eN (ZG (zc (zz (zF (rR fL2 Z (oR Z (zr (zX Z bB Z) (congrArg (jV) dB.out)) (oM Z Z (zb ?_)))))))))
 cases lR
 exact zF ⟨rfl,⟨aO,aS,aR,bh,bj,dU,eK,rfl,dh,co,cp,cr,ct,cw,di,rfl,cx,cy,bS,(jG.pick [2,3,4,5,6,7,8,9,10] _ (by decide) rfl),dI⟩⟩
 intro c8 lS
 refine cF Z c8 (kN (yg fun aN aM=>?_))
 have eW:aN 1=.pointer (some ⟨b2,0,none⟩):=(aM 1).trans dh
 have eX:aN 4=.pointer (some ⟨bx,0,none⟩):=(aM 4).trans co
 have eY:aN 6=.pointer (some ⟨ai,0,none⟩):=(aM 6).trans cp
 have gS:aN 9=.slice bF bg.length bN:=(aM 9).trans cr
 have gT:aN 11=.map (some am):=(aM 11).trans ct
 have gU:aN 12=.pointer (some ⟨ap,0,none⟩):=(aM 12).trans cw
 have gV:aN 15=.slice bh bD.length bj:=(aM 15).trans di
 have gW:aN 16=.slice bs bn.length bz:=(aM 16).trans dm
 have gX:aN 17=jV (↑aV:Int):=(aM 17).trans rfl
 have e7:aN 18=.pointer (some ⟨aW,0,none⟩):=(aM 18).trans rfl
 have gY:aN 53=.slice bp p0.Teams.length bq:=(aM 53).trans cx
 have g6:aN 54=jV (↑p0.Teams.length:Int):=(aM 54).trans cy
 have g7:aN 55=jV (↑aV:Int):=(aM 55).trans bB
 clear aM
 refine ZQ ZK [3,3,1,3,3,3,1,3,3,1,3,1,3,3,1,1,2,3,3,1,3,3,3,2,0,3] (wPu (wNK (.fx 16 (wPE (.fx 23 (.fx 24 (.fl 25 .nil) .stop) .stop)) .stop))) (by kernel_rfl) ?_
 have aZ:=aT.drew
 generalize hw_W424:({ ey with drawn:=ey.drawn + 1 }:World)=gh at aZ ⊢
 refine oM Z gV (oR Z (zC Z e7 ZX Z zD) (oL Z (aZ.ldB (j:=0) Z Z Z zN (v:=jV aj.Bib) Z) (oM Z eX (oR Z (ZJ Z Z) (oR Z (zC Z Z Zf Z Zz) (oL Z (aZ.ldB (j:=5) Z Z Z yY (v:=.slice bG aP.after.length bO) Z) (oM Z gX ?_)))))))
 have q:=fb.el (wAk cA)
 obtain ⟨gA,my,oB,ja,dz,mm⟩:=q
 obtain ⟨fQ,fS,rfl,iM⟩:=mm
 replace dz:Cl aO gA (my + aV * 1) [.slice fQ cL.length fS]:=dz
 refine oR Z (ZD Z Z ja Z ZM zk (wBi cA)) (oL Z (aZ.ldC (f:=0) dz (v:=.slice fQ cL.length fS) Z Z zu Z) (oR Z (zC Z eY ZC Z zD) (oL Z (aZ.ldB (j:=4) Z Z Z zN (v:=jV aY.Laps) Z) (oR Z (ZN Z Z Z) (bnK lS fun bE du lT=>?_)))))
 have q:=iM.el (fun _=>rfl) (wAk du)
 obtain ⟨m7,oj,jb,jc⟩:=q
 refine oR Z (ZU Z Z jb Z zH zD (wFN du) (wFh du)) (oL Z (aZ.ldC (f:=0) jc (v:=jV bE) Z Z zN Z) (oL Z (aZ.ldBA (j:=0) Z Z e7 yy Zc (vs:=aQ) Z Z) (oR Z (zC Z eW zt Z yS) (oR Z (zC Z Z ZW Z zD) (oL Z (aZ.ldB (j:=6) Z Z Z zN (v:=jV p0.Rules.Unused) Z) (bnK lT fun bT iO lU=>zI 0 Z Z Z Z (zJ Z Z Tryz.call68 (zA Z zM) Z) aZ (fun hs=>wGg aj cG cJ cH cK gh aO hs iz iA iO) (.inr Z) ?_))))))
 rintro ca mL ot gi ms jJ ⟨rfl,rfl⟩
 have jK:sW w U ca [.blk aW 101 aQ,.blk ap 179 B8,.obj ay (.map aS aR),.obj am (.map aw av),.blk ai 175 B5,B1,.blk b2 89 B0,B7,ba,bi] gi:=jJ
 refine oR Z (YK Z Z Z) (oR Z (zX Z Z Z) ?_)
 let cP:List Value:=[jV aj.Bib,jV 0,jV (w64 (bE + (w64 (bT * p0.Rules.Unused))))]
 let d7:List Value:=[jV 0,jV 0,jV 0]
 refine oR Z (ZI (pv:=[(0,jV aj.Bib),(2,jV (w64 (bE + (w64 (bT * p0.Rules.Unused)))))]) (z:=d7) (cs:=cP) Z (wAH Z (wAH Z wAY)) yw wIB Z Z) (ZF (pv:=[(0,.agg cP.toArray)]) (zs:=d7) (cs:=cP) Z Z Z Z Z (wAH Z wAY) Zk yT yw Z Z Z Z Z jK ?_)
 intro gj gB jL
 let d8:Res:=.row (some ⟨gB,0,none⟩) 1 111 3 (hD wAM [(⟨aj.Bib,0,w64 (bE + (w64 (bT * p0.Rules.Unused)))⟩:wAD)])
 have fw:sW w U ca [d8,.blk aW 101 aQ,.blk ap 179 B8,.obj ay (.map aS aR),.obj am (.map aw av),.blk ai 175 B5,B1,.blk b2 89 B0,B7,ba,bi] gj:=jL
 refine bnK lU fun fV iQ lV=>yE (j:=9) (enc:=wAM) (xs:=bD) (ys:=[(⟨aj.Bib,0,w64 (bE + (w64 (bT * p0.Rules.Unused)))⟩:wAD)]) (zs:=fV) rfl rfl rfl rfl rfl Tryz.underlying107 wJF rfl rfl rfl rfl rfl rfl fw rfl rfl rfl (fw.srcR (j:=0) rfl (by decide) (wAG (f:=wAM) (sz:=3) (fun _=>rfl) [(⟨aj.Bib,0,w64 (bE + (w64 (bT * p0.Rules.Unused)))⟩:wAD)])) (fun _=>rfl) (fun _=>rfl) iQ rfl ?_
 intro dV eM gm jM
 have jN:sW w U ca [d8,.blk aW 101 aQ,.blk ap 179 B8,.obj ay (.map aS aR),.obj am (.map aw av),.blk ai 175 B5,B1,.blk b2 89 B0,B7,.row dV eM 111 3 (hD wAM fV),bi] gm:=jM
 refine oA Z Z (zb (za (zF (rR fL2 Z (oR Z (zr (zX Z g7 Z) (congrArg (jV) dB.out)) (oM Z Z (zb ?_)))))))
 cases lV
 exact zF ⟨rfl,⟨ca,aS,aR,dV,eM,bs,bz,rfl,eW,eX,eY,gS,gT,gU,rfl,gW,gY,g6,(bS.trans ms),(jN.pick [2,3,4,5,6,7,8,9,10] _ (by decide) rfl),dI⟩⟩
 rintro mG eA ⟨cU,dg,da,ak,an,bu,bA,ii,n2,n3,n4,n5,n7,g8,dn,e8,n8,g9,oc,jO,iS⟩
 have gE:Hid (¬ ((↑(((↑p0.Teams.length:Int):Int) - 0).toNat:Int) < (↑p0.Teams.length:Int))):=zG (wAr)
 refine sR fL1 Z (oR Z (zR Z ii g9) (eN (zK (cF Z gE (ZG (zc (zc (zz (zF (sR gAz Z (oM Z dn ?_)))))))))))
 have jd:FnOK Tryz.prog cU (.func (.func 70) #[] #[]) wOW wOX (fun x=>wBe x.1 x.2):=⟨70,[],[],rfl,Tryz.call70,fun U1 w1 x y vs le hs ha hm=>by obtain rfl:=ha;exact wHO x.1 x.2 w1 U1 hs  hm⟩
 refine bnK fE fun br iT lX=>?_
 let bH:Res:=.row bu bA 111 3 (hD wAM dP)
 have jP:sW w U cU [.row ak an 111 3 (hD wAM bV),.blk ap 179 B8,.obj ay (.map dg da),.obj am (.map aw av),.blk ai 175 B5,B1,.blk b2 89 B0,B7,bH] eA:=jO.pick [7,0,1,2,3,4,5,6,8] _ (by decide) rfl
 refine zI 1 Z Z Z Z (zJ Z Z Tryz.call69 (zA Z (zA Z zM)) Z) jP (fun hs=>wBw bV ak an (fun x=>wBe x.1 x.2) (.func (.func 70) #[] #[]) eA cU hs jd ⟨_,_,Z⟩ iT) (.inl Z) ?_
 rintro fZ mN ov bM od jQ ⟨rfl,rfl,dv⟩
 let bI:Res:=.row ak an 111 3 (hD wAM br)
 have jR:sW w U fZ [bI,.blk ap 179 B8,.obj ay (.map dg da),.obj am (.map aw av),.blk ai 175 B5,B1,.blk b2 89 B0,B7,bH] bM:=jQ
 refine eN (sR gBl Z (oM Z e8 ?_))
 have q:=jR.freezeM (k:=2) rfl iS
 obtain ⟨f0,oe,lq,jT⟩:=q
 have jU:sW w U f0 [bI,.blk ap 179 B8,.obj am (.map aw av),.blk ai 175 B5,B1,.blk b2 89 B0,B7,bH] bM:=jT
 have q:=jU.freeze (k:=1) rfl
 obtain ⟨bK,mu,bQ,jS⟩:=q
 replace bQ:=Cl.of bQ
 have jW:sW w U bK [bI,.obj am (.map aw av),.blk ai 175 B5,B1,.blk b2 89 B0,B7,bH] bM:=jS
 replace bQ:Cl bK ap 0 B8:=bQ
 refine oR Z (yW Z zM (zA g8 zM)) ?_
 have iU:=lq.le mu
 have je:FnOK Tryz.prog bK (.func (.func 71) #[] #[.pointer (some ⟨ap,0,none⟩)]) wOW wOX (fun x=>wBf x.1 x.2 dO):=⟨71,[],[.pointer (some ⟨ap,0,none⟩)],rfl,Tryz.call71,fun U1 w1 x y vs le hs ha hm=>by obtain rfl:=ha;exact wHP x.1 x.2 dO ap ay dg da w1 U1 hs (bQ.le le) (iU.le le) hm⟩
 refine bnK lX fun bU iV lY=>?_
 have jX:sW w U bK [bH,bI,.obj am (.map aw av),.blk ai 175 B5,B1,.blk b2 89 B0,B7] bM:=jW.pick [6,0,1,2,3,4,5] _ (by decide) rfl
 refine zI 1 Z Z Z Z (zJ Z Z Tryz.call69 (zA Z (zA Z zM)) Z) jX (fun hs=>wBw dP bu bA (fun x=>wBf x.1 x.2 dO) (.func (.func 71) #[] #[.pointer (some ⟨ap,0,none⟩)]) bM bK hs je ⟨_,_,Z⟩ iV) (.inl Z) ?_
 rintro cV mO ow gr og jZ ⟨rfl,rfl,iW⟩
 let bJ:Res:=.row bu bA 111 3 (hD wAM bU)
 have j4:sW w U cV [bJ,bI,.obj am (.map aw av),.blk ai 175 B5,B1,.blk b2 89 B0,B7] gr:=jZ
 refine eN (zK (sR fL3 rfl (zO rfl rfl rfl rfl rfl (nL (b:=(.slice ak bV.length an:Value)) (c:=(.slice ak br.length an:Value)) dn (by rw [dv])) (zT rfl rfl rfl rfl (fun _=>ze rfl rfl Zk) (zO rfl rfl rfl rfl rfl rfl (eN (zU (bnK lY fun mC ls l0=>?_))))))))
 have q:=wBM ls
 obtain ⟨dH,lu⟩:=q
 replace dH:=zG dH
 refine CK.forN' (fun aa ab J_ w_=>∃ (U_:PHeap),J_ 123=jV (↑aa:Int)/\J_ 15=.slice ak ab.length an/\J_ 16=.slice bu bU.length bA/\J_ 122=jV (↑br.length:Int)/\PHeap.Le cV U_/\sW w U U_ [.obj am (.map aw av),.blk ai 175 B5,B1,.blk b2 89 B0,.row ak an 111 3 (hD wAM ab),bJ] w_/\ab.length=bV.length) lu ?_ ?_ ?_
 exact ⟨cV,rfl,(nL (b:=(.slice ak bV.length an:Value)) (c:=(.slice ak br.length an:Value)) dn (by rw [dv])),(nL (b:=(.slice bu dP.length bA:Value)) (c:=(.slice bu bU.length bA:Value)) e8 (by rw [iW])),rfl,(zQ _),(j4.pick [2,3,4,5,1,0] _ (by decide) rfl),dv⟩
 rintro aa ab oE mH mZ dE ⟨bL,bP,bb,dp,cz,dK,fy,dw⟩ mp
 have eO:Hid ((↑aa:Int) < (↑br.length:Int)):=zG (wBR dE)
 replace dE:=zG dE
 have cC:Hid (w64 ((↑aa:Int) + 1)=(↑(aa + 1):Int)):=zG (by have h1:=dH.out;have h2:=eO.out;rw [wAa] <;> omega)
 refine sR fL1 Z (oR Z (zR Z bP cz) (eN (zK (cT Z eO (kN (zK (zU (sR fL2 Z (oM Z bP (oA Z Z (eN (sR (wJb (.fx 6 .nil .stop)) Z (oM Z bb (oM Z Z (oM Z Z (oR Z (zr (zX Z Z Z) (congrArg (jV) cC.out)) (bnK mp fun _ cB l4=>?_)))))))))))))))))
 obtain ⟨m8,aX⟩:=fy.rowSome (j:=4) rfl (by rw [wAG (f:=wAM) (sz:=3) (fun _=>rfl) ab];have hz:=wAU cB;omega)
 refine oR Z (ZD Z Z aX Z Zk yT (wAU cB)) (oR Z (zC Z Z ZH Z zD) ?_)
 have lx:=wBY (xs:=ab) (wAU cB)
 refine YE (j:=4) (vs:=[jV (↑(aa + 1):Int)]) (cs':=hD wAM (nE ab aa (⟨(gd ab aa).Bib,(↑(aa + 1):Int),(gd ab aa).Time⟩:wAD))) rfl rfl rfl rfl fy rfl aX rfl rfl rfl zD (by rw [wAG (f:=wAM) (sz:=3) (fun _=>rfl)];have hz:=wAU cB;show _ + 1 <= _;first | omega | (simp only [nJ];omega) | (simp only [nI,nG,nH];omega)) rfl (wEK (sz:=3) (fo:=1) (fun _=>rfl) _ _ _ _ lx (by first | omega | (simp only [nJ];omega) | (simp only [nI,nG,nH];omega)) (zB rfl) rfl) rfl ?_
 intro cY j5
 have j6:sW w U bL [.obj am (.map aw av),.blk ai 175 B5,B1,.blk b2 89 B0,.row ak an 111 3 (hD wAM (nE ab aa (⟨(gd ab aa).Bib,(↑(aa + 1):Int),(gd ab aa).Time⟩:wAD))),bJ] cY:=j5
 refine eN (zK (ZQ ZK [3,3,3,3,3,3,3,1,3,3,3,3,3,1,3,3] fL16 (by kernel_rfl) ?_))
 have bm:=j6.drew
 generalize hw_W581:({ cY with drawn:=cY.drawn + 1 }:World)=m2 at bm ⊢
 refine oM Z Z (oR Z (yP Z Z Z) (oM Z Z (ifc l4 ?_ ?_)))
 intro ao l5
 refine zO rfl rfl rfl (zL rfl rfl (ZO ao.out)) rfl (nL (b:=(.slice ak ab.length an:Value)) (c:=(.slice ak ((nE ab aa (⟨(gd ab aa).Bib,(↑(aa + 1):Int),(gd ab aa).Time⟩:wAD)).length) an:Value)) bb (by simp only [nD])) (zO rfl rfl rfl (zL rfl rfl (ZO ao.out)) rfl rfl (bnK l5 fun _ bk l6=>zT rfl rfl rfl (zL rfl rfl (ZO ao.out)) (fun _=>ZD rfl rfl aX rfl Zk yT (wAU bk)) (zT rfl rfl rfl (zL rfl rfl (ZO ao.out)) (fun _=>zC rfl rfl ZH rfl zD) ?_)))
 have ly:=wBY (xs:=(nE ab aa (⟨(gd ab aa).Bib,(↑(aa + 1):Int),(gd ab aa).Time⟩:wAD))) (by first | exact wAU bk | (have hz:=wAU bk;simpa only [nD] using hz))
 refine zn rfl rfl rfl (zL rfl rfl (ZO ao.out)) (bm.ldR (j:=4) rfl aX rfl rfl zN (wBS (sz:=3) (fun _=>rfl) _ _ 2 _ ly (by first | omega | rfl | simp) rfl)) rfl (zO rfl rfl rfl (zL rfl rfl (ZO ao.out)) rfl (nL (b:=(.slice ak ab.length an:Value)) (c:=(.slice ak ((nE ab aa (⟨(gd ab aa).Bib,(↑(aa + 1):Int),(gd ab aa).Time⟩:wAD)).length) an:Value)) bb (by simp only [nD])) (zO rfl rfl rfl (zL rfl rfl (ZO ao.out)) rfl rfl (zT rfl rfl rfl (zL rfl rfl (ZO ao.out)) (fun _=>ZN rfl rfl rfl) (bnK l6 fun _ be ma=>zT rfl rfl rfl (zL rfl rfl (ZO ao.out)) (fun _=>ZU rfl rfl aX rfl Zk yT (wCS be) (wCT be)) (zT rfl rfl rfl (zL rfl rfl (ZO ao.out)) (fun _=>zC rfl rfl ZH rfl zD) ?_)))))
 have lz:=wBY (xs:=(nE ab aa (⟨(gd ab aa).Bib,(↑(aa + 1):Int),(gd ab aa).Time⟩:wAD))) (by first | exact wAU be | (have hz:=wAU be;simpa only [nD] using hz))
 refine zn rfl rfl rfl (zL rfl rfl (ZO ao.out)) (bm.ldR (j:=4) rfl aX rfl rfl zN (wBS (sz:=3) (fun _=>rfl) _ _ 2 _ lz (by first | omega | rfl | simp) rfl)) rfl (zT rfl rfl rfl (zL rfl rfl (ZO ao.out)) (fun _=>Zw rfl rfl rfl) (zT rfl rfl rfl rfl (fun _=>zV rfl (ZO ao.out) rfl) (eN (ifc ma ?_ ?_))))
 intro db mb
 refine cT Z db (rR (wPs (.fx 10 .nil .stop)) rfl (zO rfl rfl rfl rfl rfl (nL (b:=(.slice ak ab.length an:Value)) (c:=(.slice ak ((nE ab aa (⟨(gd ab aa).Bib,(↑(aa + 1):Int),(gd ab aa).Time⟩:wAD)).length) an:Value)) bb (by simp only [nD])) (zO rfl rfl rfl rfl rfl rfl (zO rfl rfl rfl rfl rfl (nL (b:=(.slice ak ab.length an:Value)) (c:=(.slice ak ((nE ab aa (⟨(gd ab aa).Bib,(↑(aa + 1):Int),(gd ab aa).Time⟩:wAD)).length) an:Value)) bb (by simp only [nD])) (zO rfl rfl rfl rfl rfl rfl (zT rfl rfl rfl rfl (fun _=>ZN rfl rfl rfl) (zT rfl rfl rfl rfl (fun _=>ZU rfl rfl aX rfl Zk yT (wCS be) (wCT be)) (zT rfl rfl rfl rfl (fun _=>zC rfl rfl ZH rfl zD) ?_))))))))
 have lA:=wBY (xs:=(nE ab aa (⟨(gd ab aa).Bib,(↑(aa + 1):Int),(gd ab aa).Time⟩:wAD))) (by first | exact wAU be | (have hz:=wAU be;simpa only [nD] using hz))
 refine zn rfl rfl rfl rfl (bm.ldR (j:=4) rfl aX rfl rfl zN (wBS (sz:=3) (fun _=>rfl) _ _ 1 _ lA (by first | omega | rfl | simp) rfl)) rfl (zT rfl rfl rfl rfl (fun _=>ZD rfl rfl aX rfl Zk yT (wAU bk)) (zT rfl rfl rfl rfl (fun _=>zC rfl rfl ZH rfl zD) ?_))
 have lB:=wBY (xs:=(nE ab aa (⟨(gd ab aa).Bib,(↑(aa + 1):Int),(gd ab aa).Time⟩:wAD))) (by first | exact wAU bk | (have hz:=wAU bk;simpa only [nD] using hz))
 refine YE (j:=4) (vs:=[jV ((gd (nE ab aa (⟨(gd ab aa).Bib,(↑(aa + 1):Int),(gd ab aa).Time⟩:wAD)) (w64 ((↑aa:Int) - 1)).toNat).Place)]) (cs':=hD wAM (nE (nE ab aa (⟨(gd ab aa).Bib,(↑(aa + 1):Int),(gd ab aa).Time⟩:wAD)) aa (⟨(gd (nE ab aa (⟨(gd ab aa).Bib,(↑(aa + 1):Int),(gd ab aa).Time⟩:wAD)) aa).Bib,(gd (nE ab aa (⟨(gd ab aa).Bib,(↑(aa + 1):Int),(gd ab aa).Time⟩:wAD)) (w64 ((↑aa:Int) - 1)).toNat).Place,(gd (nE ab aa (⟨(gd ab aa).Bib,(↑(aa + 1):Int),(gd ab aa).Time⟩:wAD)) aa).Time⟩:wAD))) rfl rfl rfl rfl bm rfl aX rfl rfl rfl zD (by rw [wAG (f:=wAM) (sz:=3) (fun _=>rfl)];have hz:=wAU bk;show _ + 1 <= _;first | omega | (simp only [nD];omega) | (simp only [nI,nG,nH,nD];omega) | (simp only [nJ];omega) | (simp only [nI,nG,nH];omega)) rfl (wEK (sz:=3) (fo:=1) (fun _=>rfl) _ _ _ _ lB (by first | omega | (simp only [nJ];omega) | (simp only [nI,nG,nH];omega)) (zB rfl) rfl) rfl ?_
 intro gu j7
 have j8:sW w U bL [.obj am (.map aw av),.blk ai 175 B5,B1,.blk b2 89 B0,.row ak an 111 3 (hD wAM (nE (nE ab aa (⟨(gd ab aa).Bib,(↑(aa + 1):Int),(gd ab aa).Time⟩:wAD)) aa (⟨(gd (nE ab aa (⟨(gd ab aa).Bib,(↑(aa + 1):Int),(gd ab aa).Time⟩:wAD)) aa).Bib,(gd (nE ab aa (⟨(gd ab aa).Bib,(↑(aa + 1):Int),(gd ab aa).Time⟩:wAD)) (w64 ((↑aa:Int) - 1)).toNat).Place,(gd (nE ab aa (⟨(gd ab aa).Bib,(↑(aa + 1):Int),(gd ab aa).Time⟩:wAD)) aa).Time⟩:wAD))),bJ] gu:=j7
 refine zb (za (zF (rR fL2 Z (oR Z (zr (zX Z bP Z) (congrArg (jV) cC.out)) (oM Z Z (zb ?_))))))
 cases mb
 exact zF ⟨rfl,⟨bL,rfl,(nL (b:=(.slice ak ((nE ab aa (⟨(gd ab aa).Bib,(↑(aa + 1):Int),(gd ab aa).Time⟩:wAD)).length) an:Value)) (c:=(.slice ak ((nE (nE ab aa (⟨(gd ab aa).Bib,(↑(aa + 1):Int),(gd ab aa).Time⟩:wAD)) aa (⟨(gd (nE ab aa (⟨(gd ab aa).Bib,(↑(aa + 1):Int),(gd ab aa).Time⟩:wAD)) aa).Bib,(gd (nE ab aa (⟨(gd ab aa).Bib,(↑(aa + 1):Int),(gd ab aa).Time⟩:wAD)) (w64 ((↑aa:Int) - 1)).toNat).Place,(gd (nE ab aa (⟨(gd ab aa).Bib,(↑(aa + 1):Int),(gd ab aa).Time⟩:wAD)) aa).Time⟩:wAD)).length) an:Value)) (nL (b:=(.slice ak ab.length an:Value)) (c:=(.slice ak ((nE ab aa (⟨(gd ab aa).Bib,(↑(aa + 1):Int),(gd ab aa).Time⟩:wAD)).length) an:Value)) bb (by simp only [nD])) (by simp only [nD])),dp,cz,dK,j8,((nD.trans nD).trans dw)⟩⟩
 intro db mc
 refine cF Z db (ZE (za (zF (rR fL2 Z (oR Z (zr (zX Z bP Z) (congrArg (jV) cC.out)) (oM Z Z (zb ?_)))))))
 cases mc
 exact zF ⟨rfl,⟨bL,rfl,(nL (b:=(.slice ak ab.length an:Value)) (c:=(.slice ak ((nE ab aa (⟨(gd ab aa).Bib,(↑(aa + 1):Int),(gd ab aa).Time⟩:wAD)).length) an:Value)) bb (by simp only [nD])),dp,cz,dK,bm,(nD.trans dw)⟩⟩
 intro ao md
 refine oF Z ao (oF Z ao (oF Z ao (oF Z ao (oF Z ao (oF Z ao (oF Z ao (oF Z ao (oF Z ao (oF Z ao (oF Z ao (oF Z ao (oR Z (zS Z (zo ao.out) Z) (eN (zg Z (ZE (za (zF (rR fL2 Z (oR Z (zr (zX Z bP Z) (congrArg (jV) cC.out)) (oM Z Z (zb ?_)))))))))))))))))))))
 cases md
 exact zF ⟨rfl,⟨bL,rfl,(nL (b:=(.slice ak ab.length an:Value)) (c:=(.slice ak ((nE ab aa (⟨(gd ab aa).Bib,(↑(aa + 1):Int),(gd ab aa).Time⟩:wAD)).length) an:Value)) bb (by simp only [nD])),dp,cz,dK,bm,(nD.trans dw)⟩⟩
 rintro mI m3 ⟨eh,ij,ib,ic,ie,oh,fz,oa⟩
 have gG:Hid (¬ ((↑(((↑br.length:Int):Int) - 0).toNat:Int) < (↑br.length:Int))):=zG (wAr)
 refine sR fL1 rfl (zT rfl rfl rfl rfl (fun _=>zR rfl ij ie) (eN (zK (cF Z gG (ZG (zc (zc (zz (zF (sR gBy rfl (zO rfl rfl rfl rfl rfl ib (zO rfl rfl rfl rfl rfl ic (bnK l0 fun fY iX me=>yE (j:=4) (enc:=wAM) (xs:=mC) (ys:=bU) (zs:=fY) rfl rfl rfl rfl rfl Tryz.underlying107 wJF rfl rfl rfl rfl rfl rfl fz rfl rfl rfl (fz.srcR (j:=5) rfl (by decide) (wAG (f:=wAM) (sz:=3) (fun _=>rfl) bU)) (fun _=>rfl) (fun _=>rfl) iX rfl ?_)))))))))))))
 intro dW eP gv j9
 have k4:sW w U eh [.obj am (.map aw av),.blk ai 175 B5,B1,.blk b2 89 B0,.row dW eP 111 3 (hD wAM fY),bJ] gv:=j9
 refine oA Z Z (oA Z Z (eN (zP ?_)))
 cases me
 exact ⟨rfl,_,(wHm rfl rfl),eh,_,(k4.pick [4] _ (by decide) rfl),dW,eP,rfl,rfl⟩
 intro c7 mf
 refine cT Z c7 (sR fL3 Z (oM Z Z (oA Z Z (oA Z Z (eN (zP (zZ ?_)))))))
 have k5:=ft.nilrow 111 3
 cases mf
 exact ⟨rfl,_,(wHm rfl rfl),U9,_,(k5.pick [0] _ (by decide) rfl),none,0,rfl,rfl⟩
end Go.Proofs.YtlmekamhphnmjaaGreat
namespace Go.Proofs.YtlmekamhphnmjaaGreat
open Go.KL
set_option maxHeartbeats 4000000
theorem wBh (p0:Int) (p1:Int) (p2:Int) (w:World) (U:PHeap) (hS:St0 w U [])  {r:Bool} (hm:wBC p0 p1 p2=some r):Gv Tryz.prog 202 [jV p0,jV p1,jV p2] w (wBj w [] U (fun U_ L_ v=>v=.bool r/\L_=[])):=by
 unfold wBC at hm
 refine Gv.of Tryz.func202 Z Tryz.ntmps202 Tryz.results202 Z (sR fL1 Z (oA Z Z (eN (sR fL9 Z (oM Z Z (oM Z Z (oR Z (yz Z Z Z) (oM Z Z ?_))))))))
 by_cases c1:p1 <= p0
 have ab:=hm;rw [if_pos c1] at ab;replace c1:=zG c1
 refine zO Z Z Z (wT Z c1) Z Z (zO Z Z Z (wT Z c1) Z Z (rU Z (wT Z c1) (Runs.leq Z Z Z) (oR Z (zV Z (ZO c1.out) Z) (oA Z Z (eN (zP ?_))))))
 first | (obtain rfl:=nB ab) | cases ab
 exact ⟨Z,_,(zj Z),U,_,hS,Z,Z⟩
 have af:=hm;rw [if_neg c1] at af;replace c1:=zG c1
 refine oF Z c1 (oF Z c1 (oF Z c1 (oR Z (zS Z (zo c1.out) Z) (oA Z Z (eN (zP ?_))))))
 have hE:=nB af;first | subst r | cases hE
 exact ⟨Z,_,(zj Z),U,_,hS,Z,Z⟩
theorem wFf (p0:wAI) (p1:(wAI->Option Bool)) (ah:Nat) (ae:Value) (w:World) (U:PHeap) (hS:St0 w U []) (ao:Cl U ah 0 [ae]) (ap:FnOK Tryz.prog U ae wLf wLg p1) {r:Bool} (hm:wBL p0 p1=some r):Gv Tryz.prog 249 [.agg #[jV p0.Bib,jV p0.Time],.pointer (some ⟨ah,0,none⟩)] w (wBj w [] U (fun U_ L_ v=>v=.bool r/\L_=[])):=by
 unfold wBL at hm
 refine Gv.of Tryz.func249 Z Tryz.ntmps249 Tryz.results249 Z (sR gBa Z ?_)
 let B0:List Value:=[jV p0.Bib,jV p0.Time]
 refine ZB (cs:=B0) rfl rfl rfl rfl rfl rfl (by rfl) hS ?_
 intro W1 b2 ac
 refine oA Z Z (eN (sR gBy Z (oL Z (ac.ldC (f:=0) ao (v:=ae) Z Z Tryz.isAgg329 Z) (oL Z (ac.ldBA (j:=0) Z Z Z Tryz.isAgg40 yI (vs:=B0) Z Z) (bnK hm fun x5 h6 aq=>yU (a:=p0) Z Z Z Z Z Z (zA Z zM) ac ap Z h6 ?_)))))
 rintro U8 L9 ax ai aw am ⟨rfl,rfl⟩
 have an:sW w U U8 [.blk b2 40 B0] ai:=am
 refine oR Z (ZR Z Z) (oA Z Z (eN (zP ?_)))
 cases aq
 exact ⟨rfl,_,(zj rfl),U8,_,(an.pick [] _ (by decide) rfl),rfl,rfl⟩
theorem wDp (p0:List wAI) (ak:Option Addr) (am:Nat) (p1:(wAI->Option Bool)) (an:Value) (w:World) (U:PHeap) (hS:St0 w U []) (bb:Sl U 2 ak am p0.length (hD wAF p0)) (be:FnOK Tryz.prog U an wLf wLg p1) {r:Int} (hm:wAm p0 p1=some r):Gv Tryz.prog 315 [.slice ak p0.length am,an] w (wBj w [] U (fun U_ L_ v=>v=jV r/\L_=[])):=by
 unfold wAm at hm
 refine Gv.of Tryz.func315 Z Tryz.ntmps315 Tryz.results315 Z (sR fL1 Z (oA Z Z (eN (zK (sR fL3 Z (oM Z Z (oR Z (ze Z Z Za) (oM Z Z (eN (zU ?_))))))))))
 have q:=wDA hm
 obtain ⟨r3,ag⟩:=q
 have q:=wCz ag
 obtain ⟨ai,bi⟩:=q
 replace ai:=zG ai
 refine ya (fun k2 _ J_ w_=>∃ (U_:PHeap),J_ 8=jV (↑k2:Int)/\J_ 0=.slice ak p0.length am/\J_ 1=an/\J_ 7=jV (↑p0.length:Int)/\PHeap.Le U U_/\sW w U U_ [] w_) bi ?_ ?_ ?_
 exact ⟨U,Z,Z,Z,Z,(zQ _),hS⟩
 rintro k2 ⟨⟩ bK J7 W8 ah ⟨bz,af,aq,au,av,aj,ax⟩ aM bg
 try dsimp only at aM
 have ap:Hid ((↑k2:Int) < (↑p0.length:Int)):=zG (wBR ah)
 replace ah:=zG ah
 have bj:Hid (w64 ((↑k2:Int) + 1)=(↑(k2 + 1):Int)):=zG (by have h1:=ai.out;have h2:=ap.out;rw [wAa] <;> omega)
 refine sR fL1 Z (oR Z (zR Z af av) (eN (zK (cT Z ap (kN (zK (zU (sR fL2 Z (oM Z af (oA Z Z (eN (sR (wEA (.fx 5 .nil .stop)) Z (oM Z au (oM Z aq (oM Z Z (bnK aM fun ao aw bk=>?_))))))))))))))))
 have aU:=bb.le aj
 have q:=aU.el (fun _=>rfl) (wAk aw)
 obtain ⟨bC,bG,aX,aY⟩:=q
 refine oR Z (ZD Z Z aX Z Za yI (wBi aw)) (oL Z (ax.ldCA (f:=0) aY Z Z Tryz.isAgg40 yI (us:=[jV ao.Bib,jV ao.Time]) Z Z) (bnK bk fun bJ aV bm=>?_))
 have aW:=be.le aj
 refine yU (a:=ao) Z Z Z Z Z Z (zA Z zM) ax aW Z aV ?_
 rintro ac bx bI aP br aZ ⟨rfl,rfl⟩
 have ay:sW w U ac [] aP:=aZ
 refine eN (ifc bm ?_ ?_)
 intro ae bn
 refine zx (congrArg hM ae.out) (sR fL2 Z (oM Z Z (oA Z Z (eN (zP (zm (zZ ?_)))))))
 have q:=wAq bn
 obtain ⟨bs,bp,aR⟩:=q
 have q:=wDj hm ag (bg bs aR)
 obtain rfl:=q
 refine zZ (zm (zZ ?_))
 cases bp
 exact ⟨Z,_,(zj Z),ac,_,ay,Z,Z⟩
 intro ae bq
 refine zg (congrArg hM (nA.2 ae.out)) (ZE (za (zF (rR fL2 Z (oR Z (zr (zX Z af Z) (congrArg (jV) bj.out)) (oM Z Z (zb ?_)))))))
 have q:=nB bq
 obtain rfl:=q
 exact zF ⟨Z,_,Z,⟨ac,Z,aq,au,av,(aj.trans br),ay⟩⟩
 rintro ⟨⟩ bu bA ⟨aO,aT,bD,bE,aS,bF,ba⟩ bh
 have az:=wEC hm ag bh
 try dsimp only at az
 have aQ:Hid (¬ ((↑(((↑p0.length:Int):Int) - 0).toNat:Int) < (↑p0.length:Int))):=zG (wAr)
 refine sR fL1 Z (oR Z (zR Z aT aS) (eN (zK (cF Z aQ (ZG (zc (zc (zz (zF (sR fL1 Z (oA Z Z (eN (zP ?_)))))))))))))
 cases az
 exact ⟨Z,_,(zj Z),aO,_,ba,Z,Z⟩
theorem wDZ (p0:List wAI) (ac:Option Addr) (ae:Nat) (p1:(wAI->Option Bool)) (af:Value) (w:World) (U:PHeap) (hS:St0 w U []) (an:Sl U 2 ac ae p0.length (hD wAF p0)) (ao:FnOK Tryz.prog U af wLf wLg p1) {r:Bool} (hm:wAu p0 p1=some r):Gv Tryz.prog 248 [.slice ac p0.length ae,af] w (wBj w [] U (fun U_ L_ v=>v=.bool r/\L_=[])):=by
 unfold wAu at hm
 refine Gv.of Tryz.func248 Z Tryz.ntmps248 Tryz.results248 Z (sR fL1 Z (oA Z Z (eN (sR gBy Z (oM Z Z (oM Z Z (bnK hm fun x1 h2 ah=>zI 0 Z Z Z Z (zJ Z Z Tryz.call315 (zA Z (zA Z zM)) Z) hS (fun hs=>wDp p0 ac ae p1 af w U hs an ao h2) (.inr Z) ?_)))))))
 rintro U4 L5 v6 W7 aq am ⟨rfl,rfl⟩
 have ak:sW w U U4 [] W7:=am
 refine oR Z (yz Z Z Z) (oA Z Z (eN (zP ?_)))
 first | (obtain rfl:=nB ah) | cases ah
 exact ⟨Z,_,(zj Z),U4,_,ak,Z,Z⟩
theorem wGJ (p0:List wAI) (ah:Option Addr) (ai:Nat) (p1:(wAI->Option Bool)) (af:Value) (w:World) (U:PHeap) (hS:St0 w U []) (aO:Sl U 2 ah ai p0.length (hD wAF p0)) (am:FnOK Tryz.prog U af wLf wLg p1) {r:Bool} (hm:wCO p0 p1=some r):Gv Tryz.prog 203 [.slice ah p0.length ai,af] w (wBj w [] U (fun U_ L_ v=>v=.bool r/\L_=[])):=by
 unfold wCO at hm
 refine Gv.of Tryz.func203 Z Tryz.ntmps203 Tryz.results203 Z (sR gBa Z (ZB (cs:=[af]) Z Z Z Z Z Z (FnOK.cells am) hS ?_))
 intro W1 b2 az
 have q:=az.freeze (k:=0) rfl
 obtain ⟨U5,an,ab,aM⟩:=q
 replace ab:=Cl.of ab
 have aN:sW w U U5 [] W1:=aM
 replace ab:Cl U5 b2 0 [af]:=ab
 refine oA Z Z (eN (sR gBy Z (oM Z Z (oR Z (yW Z zM (zA Z zM)) ?_))))
 have aq:=aO.le an
 have au:=am.le an
 have aw:FnOK Tryz.prog U5 (.func (.func 249) #[] #[.pointer (some ⟨b2,0,none⟩)]) wLf wLg (fun x=>wBL x p1):=⟨249,[],[.pointer (some ⟨b2,0,none⟩)],rfl,Tryz.call249,fun U1 w1 x y vs le hs ha hm=>by obtain rfl:=ha;exact wFf x p1 b2 af w1 U1 hs (ab.le le) (au.le le) hm⟩
 refine bnK hm fun aU av aP=>zI 0 Z Z Z Z (zJ Z Z Tryz.call248 (zA Z (zA Z zM)) Z) aN (fun hs=>wDZ p0 ah ai (fun x=>wBL x p1) (.func (.func 249) #[] #[.pointer (some ⟨b2,0,none⟩)]) W1 U5 hs aq aw av) (.inr Z) ?_
 rintro aj aR aT ap aS ax ⟨rfl,rfl⟩
 have ay:sW w U aj [] ap:=ax
 refine oR Z (ZR Z Z) (oA Z Z (eN (zP ?_)))
 cases aP
 exact ⟨Z,_,(zj Z),aj,_,ay,Z,Z⟩
theorem wIi (p0:wAI) (w:World) (U:PHeap) (hS:St0 w U [])  {r:Bool} (hm:wDe p0=some r):Gv Tryz.prog 204 [.agg #[jV p0.Bib,jV p0.Time]] w (wBj w [] U (fun U_ L_ v=>v=.bool r/\L_=[])):=by
 unfold wDe at hm
 refine Gv.of Tryz.func204 Z Tryz.ntmps204 Tryz.results204 Z (sR gBa Z ?_)
 let B0:List Value:=[jV p0.Bib,jV p0.Time]
 refine ZB (cs:=B0) rfl rfl rfl rfl rfl rfl (by rfl) hS ?_
 intro W1 b2 aj
 refine oA Z Z (eN (sR (.fl 0 (.fl 1 (.fx 2 (wNz gBm) .stop))) Z (oR Z (zC Z Z yB Z zD) (oL Z (aj.ldB (j:=0) Z Z Z zN (v:=jV p0.Bib) Z) (bnK hm fun x5 h6 ay=>zI 0 Z Z Z Z (zJ Z Z yZ (zA Z (zA Z (zA Z zM))) Z) aj (fun hs=>wBh p0.Bib 1 999 W1 U hs h6) (.inr Z) ?_)))))
 rintro U8 L9 aP ah aN ap ⟨rfl,rfl⟩
 have af:sW w U U8 [.blk b2 40 B0] ah:=ap
 refine oM Z Z (ifc ay ?_ ?_)
 intro aa av
 refine zT Z Z Z (zL Z Z (congrArg hM aa.out)) (fun _=>zC Z Z yB Z zD) (zn Z Z Z (zL Z Z (congrArg hM aa.out)) (af.ldB (j:=0) Z Z Z zN (v:=jV p0.Time) Z) Z (bnK av fun aR an aw=>zI 0 Z Z Z (zL Z Z (congrArg hM aa.out)) (zJ Z Z yZ (zA Z (zA Z (zA Z zM))) Z) af (fun hs=>wBh p0.Time (-1) 360000 ah U8 hs an) (.inr Z) ?_))
 rintro ag az aQ am aO aq ⟨rfl,rfl⟩
 have au:sW w U ag [.blk b2 40 B0] am:=aq
 refine oR Z (zV Z (congrArg hM aa.out) Z) (oA Z Z (eN (zP ?_)))
 have hE:=nB aw;first | subst r | cases hE
 exact ⟨rfl,_,(zj rfl),ag,_,(au.pick [] _ (by decide) rfl),rfl,rfl⟩
 intro aa ax
 refine zW Z Z Z (zY Z Z (congrArg hM (nA.2 aa.out)) Z) (zW Z Z Z (zY Z Z (congrArg hM (nA.2 aa.out)) Z) (Zl Z Z Z (zY Z Z (congrArg hM (nA.2 aa.out)) Z) (oR Z (zS Z (congrArg hM (nA.2 aa.out)) Z) (oA Z Z (eN (zP ?_))))))
 have hE:=nB ax;first | subst r | cases hE
 exact ⟨rfl,_,(zj rfl),U8,_,(af.pick [] _ (by decide) rfl),rfl,rfl⟩
theorem wEy (p0:wAC) (p1:(wAC->Option Bool)) (ah:Nat) (ae:Value) (w:World) (U:PHeap) (hS:St0 w U []) (ao:Cl U ah 0 [ae]) (ap:FnOK Tryz.prog U ae wJq wJr p1) {r:Bool} (hm:wBA p0 p1=some r):Gv Tryz.prog 251 [.agg #[jV p0.Number,jV p0.Kind,jV p0.Minute,jV p0.Bib,jV p0.Much,jV p0.About],.pointer (some ⟨ah,0,none⟩)] w (wBj w [] U (fun U_ L_ v=>v=.bool r/\L_=[])):=by
 unfold wBA at hm
 refine Gv.of Tryz.func251 Z Tryz.ntmps251 Tryz.results251 Z (sR gBa Z ?_)
 let B0:List Value:=[jV p0.Number,jV p0.Kind,jV p0.Minute,jV p0.Bib,jV p0.Much,jV p0.About]
 refine ZB (cs:=B0) rfl rfl rfl rfl rfl rfl (by rfl) hS ?_
 intro W1 b2 ac
 refine oA Z Z (eN (sR gBy Z (oL Z (ac.ldC (f:=0) ao (v:=ae) Z Z Tryz.isAgg133 Z) (oL Z (ac.ldBA (j:=0) Z Z Z ZZ zw (vs:=B0) Z Z) (bnK hm fun x5 h6 aq=>yU (a:=p0) Z Z Z Z Z Z (zA Z zM) ac ap Z h6 ?_)))))
 rintro U8 L9 ax ai aw am ⟨rfl,rfl⟩
 have an:sW w U U8 [.blk b2 46 B0] ai:=am
 refine oR Z (ZR Z Z) (oA Z Z (eN (zP ?_)))
 cases aq
 exact ⟨rfl,_,(zj rfl),U8,_,(an.pick [] _ (by decide) rfl),rfl,rfl⟩
theorem wDG (p0:List wAC) (am:Option Addr) (an:Nat) (p1:(wAC->Option Bool)) (ao:Value) (w:World) (U:PHeap) (hS:St0 w U []) (bb:Sl U 6 am an p0.length (hD wAE p0)) (be:FnOK Tryz.prog U ao wJq wJr p1) {r:Int} (hm:wAg p0 p1=some r):Gv Tryz.prog 316 [.slice am p0.length an,ao] w (wBj w [] U (fun U_ L_ v=>v=jV r/\L_=[])):=by
 unfold wAg at hm
 refine Gv.of Tryz.func316 Z Tryz.ntmps316 Tryz.results316 Z (sR fL1 Z (oA Z Z (eN (zK (sR fL3 Z (oM Z Z (oR Z (ze Z Z ZT) (oM Z Z (eN (zU ?_))))))))))
 have q:=wDA hm
 obtain ⟨r3,ah⟩:=q
 have q:=wCz ah
 obtain ⟨aj,bi⟩:=q
 replace aj:=zG aj
 refine ya (fun k2 _ J_ w_=>∃ (U_:PHeap),J_ 8=jV (↑k2:Int)/\J_ 0=.slice am p0.length an/\J_ 1=ao/\J_ 7=jV (↑p0.length:Int)/\PHeap.Le U U_/\sW w U U_ [] w_) bi ?_ ?_ ?_
 exact ⟨U,Z,Z,Z,Z,(zQ _),hS⟩
 rintro k2 ⟨⟩ bK J7 W8 ai ⟨bz,ag,aq,au,av,ak,ax⟩ aM bg
 try dsimp only at aM
 have ap:Hid ((↑k2:Int) < (↑p0.length:Int)):=zG (wBR ai)
 replace ai:=zG ai
 have bj:Hid (w64 ((↑k2:Int) + 1)=(↑(k2 + 1):Int)):=zG (by have h1:=aj.out;have h2:=ap.out;rw [wAa] <;> omega)
 refine sR fL1 Z (oR Z (zR Z ag av) (eN (zK (cT Z ap (kN (zK (zU (sR fL2 Z (oM Z ag (oA Z Z (eN (sR (wEA (.fx 5 .nil .stop)) Z (oM Z au (oM Z aq (oM Z Z (bnK aM fun ab aw bk=>?_))))))))))))))))
 have aU:=bb.le ak
 have q:=aU.el (fun _=>rfl) (wAk aw)
 obtain ⟨bC,bG,aX,aY⟩:=q
 refine oR Z (ZD Z Z aX Z ZT zw (wBi aw)) (oL Z (ax.ldCA (f:=0) aY Z Z ZZ zw (us:=[jV ab.Number,jV ab.Kind,jV ab.Minute,jV ab.Bib,jV ab.Much,jV ab.About]) Z Z) (bnK bk fun bJ aV bm=>?_))
 have aW:=be.le ak
 refine yU (a:=ab) Z Z Z Z Z Z (zA Z zM) ax aW Z aV ?_
 rintro ae bx bI aP br aZ ⟨rfl,rfl⟩
 have ay:sW w U ae [] aP:=aZ
 refine eN (ifc bm ?_ ?_)
 intro af bn
 refine zx (congrArg hM af.out) (sR fL2 Z (oM Z Z (oA Z Z (eN (zP (zm (zZ ?_)))))))
 have q:=wAq bn
 obtain ⟨bs,bp,aR⟩:=q
 have q:=wDj hm ah (bg bs aR)
 obtain rfl:=q
 refine zZ (zm (zZ ?_))
 cases bp
 exact ⟨Z,_,(zj Z),ae,_,ay,Z,Z⟩
 intro af bq
 refine zg (congrArg hM (nA.2 af.out)) (ZE (za (zF (rR fL2 Z (oR Z (zr (zX Z ag Z) (congrArg (jV) bj.out)) (oM Z Z (zb ?_)))))))
 have q:=nB bq
 obtain rfl:=q
 exact zF ⟨Z,_,Z,⟨ae,Z,aq,au,av,(ak.trans br),ay⟩⟩
 rintro ⟨⟩ bu bA ⟨aO,aT,bD,bE,aS,bF,ba⟩ bh
 have az:=wEC hm ah bh
 try dsimp only at az
 have aQ:Hid (¬ ((↑(((↑p0.length:Int):Int) - 0).toNat:Int) < (↑p0.length:Int))):=zG (wAr)
 refine sR fL1 Z (oR Z (zR Z aT aS) (eN (zK (cF Z aQ (ZG (zc (zc (zz (zF (sR fL1 Z (oA Z Z (eN (zP ?_)))))))))))))
 cases az
 exact ⟨Z,_,(zj Z),aO,_,ba,Z,Z⟩
theorem wCp (p0:List wAC) (ac:Option Addr) (ae:Nat) (p1:(wAC->Option Bool)) (af:Value) (w:World) (U:PHeap) (hS:St0 w U []) (an:Sl U 6 ac ae p0.length (hD wAE p0)) (ao:FnOK Tryz.prog U af wJq wJr p1) {r:Bool} (hm:wAl p0 p1=some r):Gv Tryz.prog 250 [.slice ac p0.length ae,af] w (wBj w [] U (fun U_ L_ v=>v=.bool r/\L_=[])):=by
 unfold wAl at hm
 refine Gv.of Tryz.func250 Z Tryz.ntmps250 Tryz.results250 Z (sR fL1 Z (oA Z Z (eN (sR gBy Z (oM Z Z (oM Z Z (bnK hm fun x1 h2 ah=>zI 0 Z Z Z Z (zJ Z Z Tryz.call316 (zA Z (zA Z zM)) Z) hS (fun hs=>wDG p0 ac ae p1 af w U hs an ao h2) (.inr Z) ?_)))))))
 rintro U4 L5 v6 W7 aq am ⟨rfl,rfl⟩
 have ak:sW w U U4 [] W7:=am
 refine oR Z (yz Z Z Z) (oA Z Z (eN (zP ?_)))
 first | (obtain rfl:=nB ah) | cases ah
 exact ⟨Z,_,(zj Z),U4,_,ak,Z,Z⟩
theorem wDR (p0:List wAC) (ah:Option Addr) (ai:Nat) (p1:(wAC->Option Bool)) (af:Value) (w:World) (U:PHeap) (hS:St0 w U []) (aO:Sl U 6 ah ai p0.length (hD wAE p0)) (am:FnOK Tryz.prog U af wJq wJr p1) {r:Bool} (hm:wBH p0 p1=some r):Gv Tryz.prog 205 [.slice ah p0.length ai,af] w (wBj w [] U (fun U_ L_ v=>v=.bool r/\L_=[])):=by
 unfold wBH at hm
 refine Gv.of Tryz.func205 Z Tryz.ntmps205 Tryz.results205 Z (sR gBa Z (ZB (cs:=[af]) Z Z Z Z Z Z (FnOK.cells am) hS ?_))
 intro W1 b2 az
 have q:=az.freeze (k:=0) rfl
 obtain ⟨U5,an,ab,aM⟩:=q
 replace ab:=Cl.of ab
 have aN:sW w U U5 [] W1:=aM
 replace ab:Cl U5 b2 0 [af]:=ab
 refine oA Z Z (eN (sR gBy Z (oM Z Z (oR Z (yW Z zM (zA Z zM)) ?_))))
 have aq:=aO.le an
 have au:=am.le an
 have aw:FnOK Tryz.prog U5 (.func (.func 251) #[] #[.pointer (some ⟨b2,0,none⟩)]) wJq wJr (fun x=>wBA x p1):=⟨251,[],[.pointer (some ⟨b2,0,none⟩)],rfl,Tryz.call251,fun U1 w1 x y vs le hs ha hm=>by obtain rfl:=ha;exact wEy x p1 b2 af w1 U1 hs (ab.le le) (au.le le) hm⟩
 refine bnK hm fun aU av aP=>zI 0 Z Z Z Z (zJ Z Z Tryz.call250 (zA Z (zA Z zM)) Z) aN (fun hs=>wCp p0 ah ai (fun x=>wBA x p1) (.func (.func 251) #[] #[.pointer (some ⟨b2,0,none⟩)]) W1 U5 hs aq aw av) (.inr Z) ?_
 rintro aj aR aT ap aS ax ⟨rfl,rfl⟩
 have ay:sW w U aj [] ap:=ax
 refine oR Z (ZR Z Z) (oA Z Z (eN (zP ?_)))
 cases aP
 exact ⟨Z,_,(zj Z),aj,_,ay,Z,Z⟩
theorem wDH (p0:Int) (w:World) (U:PHeap) (hS:St0 w U [])  {r:Bool} (hm:wAx p0=some r):Gv Tryz.prog 210 [jV p0] w (wBj w [] U (fun U_ L_ v=>v=.bool r/\L_=[])):=by
 unfold wAx at hm
 refine Gv.of Tryz.func210 Z Tryz.ntmps210 Tryz.results210 Z (sR fL1 Z (oA Z Z (eN (sR fL3 Z (oM Z Z (oR Z (Runs.leq Z Z Z) (oA Z Z (eN (zP ?_)))))))))
 first | (obtain rfl:=nB hm) | cases hm
 exact ⟨Z,_,(zj Z),U,_,hS,Z,Z⟩
theorem wFr (p0:wAC) (w:World) (U:PHeap) (hS:St0 w U [])  {r:Bool} (hm:wBU p0=some r):Gv Tryz.prog 206 [.agg #[jV p0.Number,jV p0.Kind,jV p0.Minute,jV p0.Bib,jV p0.Much,jV p0.About]] w (wBj w [] U (fun U_ L_ v=>v=.bool r/\L_=[])):=by
 unfold wBU at hm
 refine Gv.of Tryz.func206 Z Tryz.ntmps206 Tryz.results206 Z (sR gBa Z ?_)
 let B0:List Value:=[jV p0.Number,jV p0.Kind,jV p0.Minute,jV p0.Bib,jV p0.Much,jV p0.About]
 refine ZB (cs:=B0) rfl rfl rfl rfl rfl rfl (by rfl) hS ?_
 intro W1 b2 ao
 refine oA Z Z (eN (sR fL1 Z (oA Z Z (eN (zK (bnK hm fun b5 bk cr=>YC (fun J_ w_=>∃ (U_:PHeap),J_ 1=.pointer (some ⟨b2,0,none⟩)/\J_ 3=jV 36000/\J_ 17=.bool b5/\PHeap.Le U U_/\sW w U U_ [.blk b2 46 B0] w_) ?_ ?_))))))
 refine rR (wJb (.fx 6 (wQF (.nil)) .stop)) Z (oR Z (zC Z Z zd Z Zi) (oL Z (ao.ldB (j:=0) Z Z Z Zo (v:=jV p0.Kind) Z) (oR Z (Zw Z Z Z) (oM Z Z ?_))))
 by_cases c9:p0.Kind=3
 have bi:=bk;rw [if_pos c9] at bi;replace c9:=zG c9
 refine oT Z c9 (oT Z c9 (Zl Z Z Z (zY Z Z (ZO c9.out) Z) (oT Z c9 (oT Z c9 (zW Z Z Z (wAP Z Z Z) (zW Z Z Z (wAP Z Z Z) (zW Z Z Z (wAP Z Z Z) (oT Z c9 (oR Z (zV Z (ZO c9.out) Z) (zb ?_))))))))))
 cases bi
 exact zF ⟨Z,⟨U,Z,Z,Z,(zQ _),ao⟩⟩
 have bj:=bk;rw [if_neg c9] at bj;replace c9:=zG c9
 refine rU Z (wF Z c9) (zC Z Z zd Z Zi) (zn Z Z Z (wF Z c9) (ao.ldB (j:=0) Z Z Z Zo (v:=jV p0.Kind) Z) Z (bnK bj fun dh bA bZ=>zI 0 Z Z Z (wF Z c9) (zJ Z Z Tryz.call210 (zA Z zM) Z) ao (fun hs=>wDH p0.Kind W1 U hs bA) (.inr Z) ?_))
 rintro av cG cZ bq bm bK ⟨rfl,rfl⟩
 have aP:sW w U av [.blk b2 46 B0] bq:=bK
 refine rU Z (wF Z c9) (ZR Z Z) (zO Z Z Z (wF Z c9) Z Z (ifc bZ ?_ ?_))
 intro ai ca
 refine zW Z Z Z (zY Z Z (nC ai.out) Z) (zW Z Z Z (zY Z Z (nC ai.out) Z) (zW Z Z Z (zY Z Z (nC ai.out) Z) (rU Z (wF Z c9) (zS Z (nC ai.out) Z) (oR Z (zS Z (zo c9.out) Z) (zb ?_)))))
 cases ca
 exact zF ⟨Z,⟨av,Z,Z,Z,bm,aP⟩⟩
 intro ai cc
 refine zT Z Z Z (zL Z Z (nF (ai.out))) (fun _=>zC Z Z zd Z Zi) (zn Z Z Z (zL Z Z (nF (ai.out))) (aP.ldB (j:=0) Z Z Z Zo (v:=jV p0.Kind) Z) Z (zT Z Z Z (zL Z Z (nF (ai.out))) (fun _=>Ze Z Z Z) (rU Z (wF Z c9) (zV Z (nF (ai.out)) Z) (oR Z (zS Z (zo c9.out) Z) (zb ?_)))))
 have q:=nB cc
 obtain rfl:=q
 exact zF ⟨Z,⟨av,Z,Z,Z,bm,aP⟩⟩
 rintro cB aZ ⟨aV,an,bu,bh,cP,ap⟩
 refine ifc cr ?_ ?_
 intro aM cd
 refine zx (bh.trans (congrArg hM aM.out)) (rR fL1 Z (oA Z Z (eN (sR (.fl 0 (.fl 1 (.fx 2 (wNz (.fx 6 (wOO (.fx 11 (wNI gBn) .stop)) .stop)) .stop))) Z (oR Z (zC Z an zd Z zD) (oL Z (ap.ldB (j:=0) Z Z Z zN (v:=jV p0.Number) Z) (bnK cd fun di bB cg=>zI 0 Z Z Z Z (zJ Z Z yZ (zA Z (zA Z (zA Z zM))) Z) ap (fun hs=>wBh p0.Number 1 9999 aZ aV hs bB) (.inr Z) ?_)))))))
 rintro aw cH c7 ba cQ bL ⟨rfl,rfl⟩
 have aQ:sW w U aw [.blk b2 46 B0] ba:=bL
 refine oM Z Z (ifc cg ?_ ?_)
 intro aj ch
 refine zT Z Z Z (zL Z Z (congrArg hM aj.out)) (fun _=>zC Z an zd Z Zi) (zn Z Z Z (zL Z Z (congrArg hM aj.out)) (aQ.ldB (j:=0) Z Z Z Zo (v:=jV p0.Kind) Z) Z (bnK ch fun dm bC ci=>zI 0 Z Z Z (zL Z Z (congrArg hM aj.out)) (zJ Z Z yZ (zA Z (zA Z (zA Z zM))) Z) aQ (fun hs=>wBh p0.Kind 0 9 ba aw hs bC) (.inr Z) ?_))
 rintro ax cI c8 bb cR bM ⟨rfl,rfl⟩
 have aR:sW w U ax [.blk b2 46 B0] bb:=bM
 refine oR Z (zV Z (congrArg hM aj.out) Z) (oM Z Z (ifc ci ?_ ?_))
 intro ak cj
 refine zT Z Z Z (zL Z Z (congrArg hM ak.out)) (fun _=>zC Z an zd Z zD) (zn Z Z Z (zL Z Z (congrArg hM ak.out)) (aR.ldB (j:=0) Z Z Z zN (v:=jV p0.Minute) Z) Z (bnK cj fun dn bD cm=>zI 0 Z Z Z (zL Z Z (congrArg hM ak.out)) (zJ Z Z yZ (zA Z (zA Z (zA Z zM))) Z) aR (fun hs=>wBh p0.Minute 0 10000 bb ax hs bD) (.inr Z) ?_))
 rintro ay cJ da be cS bN ⟨rfl,rfl⟩
 have aS:sW w U ay [.blk b2 46 B0] be:=bN
 refine oR Z (zV Z (congrArg hM ak.out) Z) (oM Z Z (ifc cm ?_ ?_))
 intro ag co
 refine zT Z Z Z (zL Z Z (congrArg hM ag.out)) (fun _=>zC Z an zd Z zD) (zn Z Z Z (zL Z Z (congrArg hM ag.out)) (aS.ldB (j:=0) Z Z Z zN (v:=jV p0.Much) Z) Z (zO Z Z Z (zL Z Z (congrArg hM ag.out)) Z Z (bnK co fun dp bE cp=>zI 0 Z Z Z (zL Z Z (congrArg hM ag.out)) (zJ Z Z yZ (zA Z (zA Z (zA Z zM))) Z) aS (fun hs=>wBh p0.Much 0 0 be ay hs bE) (.inr Z) ?_)))
 rintro aW cK db br cU bO ⟨rfl,rfl⟩
 have bP:sW w U aW [.blk b2 46 B0] br:=bO
 refine oR Z (zV Z (congrArg hM ag.out) Z) (oA Z Z (eN (zP ?_)))
 have hE:=nB cp;first | subst r | cases hE
 exact ⟨rfl,_,(zj rfl),aW,_,(bP.pick [] _ (by decide) rfl),rfl,rfl⟩
 intro ag ct
 refine zW Z Z Z (zY Z Z (congrArg hM (nA.2 ag.out)) Z) (zW Z Z Z (zY Z Z (congrArg hM (nA.2 ag.out)) Z) (zW Z Z Z (zY Z Z (congrArg hM (nA.2 ag.out)) Z) (Zl Z Z Z (zY Z Z (congrArg hM (nA.2 ag.out)) Z) (oR Z (zS Z (congrArg hM (nA.2 ag.out)) Z) (oA Z Z (eN (zP ?_)))))))
 have hE:=nB ct;first | subst r | cases hE
 exact ⟨rfl,_,(zj rfl),ay,_,(aS.pick [] _ (by decide) rfl),rfl,rfl⟩
 intro ak cw
 refine zW Z Z Z (zY Z Z (congrArg hM (nA.2 ak.out)) Z) (zW Z Z Z (zY Z Z (congrArg hM (nA.2 ak.out)) Z) (Zl Z Z Z (zY Z Z (congrArg hM (nA.2 ak.out)) Z) (oR Z (zS Z (congrArg hM (nA.2 ak.out)) Z) (oM Z Z (oN Z (oN Z (oN Z (Zl Z Z Z (zY Z Z Z Z) (oR Z (zS Z Z Z) (oA Z Z (eN (zP ?_))))))))))))
 have hE:=nB cw;first | subst r | cases hE
 exact ⟨rfl,_,(zj rfl),ax,_,(aR.pick [] _ (by decide) rfl),rfl,rfl⟩
 intro aj cx
 refine zW Z Z Z (zY Z Z (congrArg hM (nA.2 aj.out)) Z) (zW Z Z Z (zY Z Z (congrArg hM (nA.2 aj.out)) Z) (Zl Z Z Z (zY Z Z (congrArg hM (nA.2 aj.out)) Z) (oR Z (zS Z (congrArg hM (nA.2 aj.out)) Z) (oM Z Z (oN Z (oN Z (Zl Z Z Z (zY Z Z Z Z) (oR Z (zS Z Z Z) (oM Z Z (oN Z (oN Z (oN Z (Zl Z Z Z (zY Z Z Z Z) (oR Z (zS Z Z Z) (oA Z Z (eN (zP ?_)))))))))))))))))
 have hE:=nB cx;first | subst r | cases hE
 exact ⟨rfl,_,(zj rfl),aw,_,(aQ.pick [] _ (by decide) rfl),rfl,rfl⟩
 intro aM cy
 refine zg (bh.trans (congrArg hM (nA.2 aM.out))) (kN (sR (.fl 0 (.fl 1 (.fx 2 (wNz (.fx 6 (wOO (.fx 11 (wNI gBn) .stop)) .stop)) .stop))) Z (oR Z (zC Z an zd Z zD) (oL Z (ap.ldB (j:=0) Z Z Z zN (v:=jV p0.Number) Z) (bnK cy fun dq bF cz=>zI 0 Z Z Z Z (zJ Z Z yZ (zA Z (zA Z (zA Z zM))) Z) ap (fun hs=>wBh p0.Number 1 9999 aZ aV hs bF) (.inr Z) ?_)))))
 rintro az cL dd bg cV bQ ⟨rfl,rfl⟩
 have aT:sW w U az [.blk b2 46 B0] bg:=bQ
 refine oM Z Z (ifc cz ?_ ?_)
 intro am cA
 refine zT Z Z Z (zL Z Z (congrArg hM am.out)) (fun _=>zC Z an zd Z Zi) (zn Z Z Z (zL Z Z (congrArg hM am.out)) (aT.ldB (j:=0) Z Z Z Zo (v:=jV p0.Kind) Z) Z (bnK cA fun de bw bR=>zI 0 Z Z Z (zL Z Z (congrArg hM am.out)) (zJ Z Z yZ (zA Z (zA Z (zA Z zM))) Z) aT (fun hs=>wBh p0.Kind 0 9 bg az hs bw) (.inr Z) ?_))
 rintro aq cC cW aX cM bG ⟨rfl,rfl⟩
 have aN:sW w U aq [.blk b2 46 B0] aX:=bG
 refine oR Z (zV Z (congrArg hM am.out) Z) (oM Z Z (ifc bR ?_ ?_))
 intro ah bS
 refine zT Z Z Z (zL Z Z (congrArg hM ah.out)) (fun _=>zC Z an zd Z zD) (zn Z Z Z (zL Z Z (congrArg hM ah.out)) (aN.ldB (j:=0) Z Z Z zN (v:=jV p0.Minute) Z) Z (bnK bS fun df bx bT=>zI 0 Z Z Z (zL Z Z (congrArg hM ah.out)) (zJ Z Z yZ (zA Z (zA Z (zA Z zM))) Z) aN (fun hs=>wBh p0.Minute 0 10000 aX aq hs bx) (.inr Z) ?_))
 rintro au cD cX aY cN bH ⟨rfl,rfl⟩
 have aO:sW w U au [.blk b2 46 B0] aY:=bH
 refine oR Z (zV Z (congrArg hM ah.out) Z) (oM Z Z (ifc bT ?_ ?_))
 intro af bU
 refine zT Z Z Z (zL Z Z (congrArg hM af.out)) (fun _=>zC Z an zd Z zD) (zn Z Z Z (zL Z Z (congrArg hM af.out)) (aO.ldB (j:=0) Z Z Z zN (v:=jV p0.Much) Z) Z (zO Z Z Z (zL Z Z (congrArg hM af.out)) Z bu (bnK bU fun dg bz bV=>zI 0 Z Z Z (zL Z Z (congrArg hM af.out)) (zJ Z Z yZ (zA Z (zA Z (zA Z zM))) Z) aO (fun hs=>wBh p0.Much 0 36000 aY au hs bz) (.inr Z) ?_)))
 rintro aU cE cY bp cO bI ⟨rfl,rfl⟩
 have bJ:sW w U aU [.blk b2 46 B0] bp:=bI
 refine oR Z (zV Z (congrArg hM af.out) Z) (oA Z Z (eN (zP ?_)))
 have hE:=nB bV;first | subst r | cases hE
 exact ⟨rfl,_,(zj rfl),aU,_,(bJ.pick [] _ (by decide) rfl),rfl,rfl⟩
 intro af bW
 refine zW Z Z Z (zY Z Z (congrArg hM (nA.2 af.out)) Z) (zW Z Z Z (zY Z Z (congrArg hM (nA.2 af.out)) Z) (zW Z Z Z (zY Z Z (congrArg hM (nA.2 af.out)) Z) (Zl Z Z Z (zY Z Z (congrArg hM (nA.2 af.out)) Z) (oR Z (zS Z (congrArg hM (nA.2 af.out)) Z) (oA Z Z (eN (zP ?_)))))))
 have hE:=nB bW;first | subst r | cases hE
 exact ⟨rfl,_,(zj rfl),au,_,(aO.pick [] _ (by decide) rfl),rfl,rfl⟩
 intro ah bX
 refine zW Z Z Z (zY Z Z (congrArg hM (nA.2 ah.out)) Z) (zW Z Z Z (zY Z Z (congrArg hM (nA.2 ah.out)) Z) (Zl Z Z Z (zY Z Z (congrArg hM (nA.2 ah.out)) Z) (oR Z (zS Z (congrArg hM (nA.2 ah.out)) Z) (oM Z Z (oN Z (oN Z (oN Z (Zl Z Z Z (zY Z Z Z Z) (oR Z (zS Z Z Z) (oA Z Z (eN (zP ?_))))))))))))
 have hE:=nB bX;first | subst r | cases hE
 exact ⟨rfl,_,(zj rfl),aq,_,(aN.pick [] _ (by decide) rfl),rfl,rfl⟩
 intro am bY
 refine zW Z Z Z (zY Z Z (congrArg hM (nA.2 am.out)) Z) (zW Z Z Z (zY Z Z (congrArg hM (nA.2 am.out)) Z) (Zl Z Z Z (zY Z Z (congrArg hM (nA.2 am.out)) Z) (oR Z (zS Z (congrArg hM (nA.2 am.out)) Z) (oM Z Z (oN Z (oN Z (Zl Z Z Z (zY Z Z Z Z) (oR Z (zS Z Z Z) (oM Z Z (oN Z (oN Z (oN Z (Zl Z Z Z (zY Z Z Z Z) (oR Z (zS Z Z Z) (oA Z Z (eN (zP ?_)))))))))))))))))
 have hE:=nB bY;first | subst r | cases hE
 exact ⟨rfl,_,(zj rfl),az,_,(aT.pick [] _ (by decide) rfl),rfl,rfl⟩
theorem wFG (p0:wAV) (ag:Option Addr) (ah:Nat) (av:Option Addr) (aw:Nat) (w:World) (U:PHeap) (hS:St0 w U []) (bE:Sl U 2 ag ah p0.Skiers.length (hD wAF p0.Skiers)) (bU:Sl U 6 av aw p0.Decisions.length (hD wAE p0.Decisions)) {r:(List Int)} (hm:wCY p0=some r):Gv Tryz.prog 163 [.agg #[jV p0.Deadline,.slice ag p0.Skiers.length ah,.slice av p0.Decisions.length aw]] w (wBj w [] U (fun U_ L_ v=>∃ (A0:Option Addr) (c0:Nat),v=.slice A0 r.length c0/\L_=[.row A0 c0 3 1 (hD KL.encI r)])):=by
 unfold wCY at hm
 refine Gv.of Tryz.func163 Z Tryz.ntmps163 Tryz.results163 Z (sR gBa Z ?_)
 let B0:List Value:=[jV p0.Deadline,.slice ag p0.Skiers.length ah,.slice av p0.Decisions.length aw]
 refine ZB (cs:=B0) rfl rfl rfl rfl rfl rfl (by rfl) hS ?_
 intro W1 b2 aT
 refine oA Z Z (eN (sR fL1 Z (oA Z Z (eN (zK (sR fL4 Z (oR Z (zC Z Z zq Z yJ) (oL Z (aT.ldB (j:=0) Z Z Z yk (v:=.slice ag p0.Skiers.length ah) Z) (oR Z (ze Z Z Za) (oM Z Z (eN (zU (bnK hm fun bY bF bI=>?_)))))))))))))
 have q:=wBM bF
 obtain ⟨au,bG⟩:=q
 replace au:=zG au
 refine CK.forN' (fun ae af J_ w_=>∃ (U_:PHeap) (ai:Option Addr) (an:Nat),J_ 9=jV (↑ae:Int)/\J_ 3=.slice ai af.length an/\J_ 7=.slice ag p0.Skiers.length ah/\J_ 8=jV (↑p0.Skiers.length:Int)/\PHeap.Le U U_/\sW w U U_ [.blk b2 28 B0,.row ai an 3 1 (hD KL.encI af)] w_) bG ?_ ?_ ?_
 have bw:=aT.nilrow 3 1
 exact ⟨U,none,0,rfl,rfl,rfl,rfl,(zQ _),(bw.pick [1,0] _ (by decide) rfl)⟩
 rintro ae af bX bM bP aq ⟨ak,ai,an,ap,bk,aQ,aR,aX,aU⟩ bL
 have aO:Hid ((↑ae:Int) < (↑p0.Skiers.length:Int)):=zG (wBR aq)
 replace aq:=zG aq
 have bH:Hid (w64 ((↑ae:Int) + 1)=(↑(ae + 1):Int)):=zG (by have h1:=au.out;have h2:=aO.out;rw [wAa] <;> omega)
 refine sR fL1 Z (oR Z (zR Z ap aR) (eN (zK (cT Z aO (kN (zK (zU (sR gBu Z (bnK bL fun ab aS bJ=>?_)))))))))
 have bq:=bE.le aX
 have q:=bq.el (fun _=>rfl) (wAk aS)
 obtain ⟨bS,bW,bs,bu⟩:=q
 refine oR Z (ZD Z aQ bs ap Za yI (wBi aS)) (oL Z (aU.ldCA (f:=0) bu Z Z Tryz.isAgg40 yI (us:=[jV ab.Bib,jV ab.Time]) Z Z) (zy (cs:=[jV 0,jV 0]) Z Z Z Z Z YP Z aU ?_))
 intro bQ ao bx
 let B1:List Value:=[jV ab.Bib,jV ab.Time]
 refine ZA (j:=0) (vs:=B1) Z Z Z Z bx Z Z Z Z yI (zB Z) Z Z Z ?_
 intro bb bz
 let B2:Res:=.row ai an 3 1 (hD KL.encI af)
 have aV:sW w U ak [.blk ao 40 B1,.blk b2 28 B0,B2] bb:=bz
 refine eN (rR (wEz gBo) Z (oM Z bk (oR Z (zC Z Z yB Z zD) (oL Z (aV.ldB (j:=0) Z Z Z zN (v:=jV ab.Bib) Z) (ZF (pv:=[(0,jV ab.Bib)]) (zs:=[jV 0]) (cs:=[jV ab.Bib]) Z Z Z Z Z (wAH Z wAY) zH zD Zr Z Z Z Z Z aV ?_)))))
 intro be bh bA
 let B3:Res:=.row (some ⟨bh,0,none⟩) 1 3 1 (hD KL.encI [ab.Bib])
 have aW:sW w U ak [B3,.blk ao 40 B1,.blk b2 28 B0,B2] be:=bA
 refine bnK bJ fun aY br bK=>yE (j:=3) (enc:=KL.encI) (xs:=af) (ys:=[ab.Bib]) (zs:=aY) rfl rfl rfl rfl rfl yR wGs rfl rfl rfl rfl rfl rfl aW rfl rfl rfl (aW.srcR (j:=0) rfl (by decide) (wAG (f:=KL.encI) (sz:=1) (fun _=>rfl) [ab.Bib])) (fun _=>rfl) (fun _=>rfl) br rfl ?_
 intro ay aP bg bB
 have bC:sW w U ak [B3,.blk ao 40 B1,.blk b2 28 B0,.row ay aP 3 1 (hD KL.encI aY)] bg:=bB
 refine oA Z Z (zb (za (zF (rR fL2 Z (oR Z (zr (zX Z ap Z) (congrArg (jV) bH.out)) (oM Z Z (zb ?_)))))))
 cases bK
 exact zF ⟨rfl,⟨ak,ay,aP,rfl,rfl,aQ,aR,aX,(bC.pick [2,3] _ (by decide) rfl)⟩⟩
 rintro bN bR ⟨ba,aZ,bi,bp,bm,bT,bn,bV,bD⟩
 have bj:Hid (¬ ((↑(((↑p0.Skiers.length:Int):Int) - 0).toNat:Int) < (↑p0.Skiers.length:Int))):=zG (wAr)
 refine sR fL1 Z (oR Z (zR Z bp bn) (eN (zK (cF Z bj (ZG (zc (zc (zz (zF (sR fL2 Z (oM Z bm (oA Z Z (eN (zP ?_))))))))))))))
 have hE:=nB bI;first | subst r | cases hE
 exact ⟨rfl,_,(zj rfl),ba,_,(bD.pick [1] _ (by decide) rfl),aZ,bi,rfl,rfl⟩
theorem wHa (p0:List Int) (ao:Option Addr) (ap:Nat) (w:World) (U:PHeap) (hS:St0 w U []) (bg:Sl U 1 ao ap p0.length (hD KL.encI p0)) {r:Bool} (hm:wEN p0=some r):Gv Tryz.prog 207 [.slice ao p0.length ap] w (wBj w [] U (fun U_ L_ v=>v=.bool r/\L_=[])):=by
 unfold wEN at hm
 refine Gv.of Tryz.func207 Z Tryz.ntmps207 Tryz.results207 Z (sR fL1 Z (oA Z Z (eN (sR gBa Z (OKS.makeMap Z Z Z Z Z hS ?_)))))
 intro W1 b2 aZ
 have bs:=MpR.nil wED wEL
 refine oA Z Z (eN (zK (sR fL3 Z (oM Z Z (oR Z (ze Z Z zH) (oM Z Z (eN (zU ?_))))))))
 have q:=wDA hm
 obtain ⟨bM,ak⟩:=q
 have q:=wCz ak
 obtain ⟨an,bj⟩:=q
 replace an:=zG an
 refine ya (fun ab aO J_ w_=>∃ (U_:PHeap) (ah:Array MapEntry) (av:Nat),J_ 9=jV (↑ab:Int)/\J_ 3=.map (some b2)/\J_ 7=.slice ao p0.length ap/\J_ 8=jV (↑p0.length:Int)/\PHeap.Le U U_/\sW w U U_ [.obj b2 (.map ah av)] w_/\MpR ah wED wEL aO) bj ?_ ?_ ?_
 exact ⟨U,#[],0,Z,Z,Z,Z,(zQ _),aZ,bs⟩
 rintro ab aO bN bz bC am ⟨ae,ah,av,aj,ai,ay,az,aP,ac,aM⟩ bw bh
 have au:Hid ((↑ab:Int) < (↑p0.length:Int)):=zG (wBR am)
 replace am:=zG am
 have bk:Hid (w64 ((↑ab:Int) + 1)=(↑(ab + 1):Int)):=zG (by have h1:=an.out;have h2:=au.out;rw [wAa] <;> omega)
 refine sR fL1 Z (oR Z (zR Z aj az) (eN (zK (cT Z au (kN (zK (zU (sR fL3 Z (bnK bw fun aq aN bm=>?_)))))))))
 have aW:=bg.le aP
 have q:=aW.el (fun _=>rfl) (wAk aN)
 obtain ⟨bE,bL,aX,aY⟩:=q
 refine oR Z (ZD Z ay aX aj zH zD (wBi aN)) (oL Z (ac.ldC (f:=0) aY (v:=jV aq) Z Z zN Z) (oA Z Z (eN (zK (sR fL3 Z (oM Z ai (oM Z Z (oL Z (ac.lookup1 (j:=0) (mk:=wED) (mv:=wEL) (a:=aq) (z:=false) Z Z Z Z (wBq yD) wFb Tryz.zeroValue4 aM) (eN (ifc bm ?_ ?_))))))))))
 intro ag bn
 refine zx (congrArg hM ag.out) (sR fL1 Z (oA Z Z (eN (zP (zZ (zm (zZ ?_)))))))
 have q:=wAq bn
 obtain ⟨bx,bp,aT⟩:=q
 have q:=wDj hm ak (bh bx aT)
 obtain rfl:=q
 refine zZ (zm (zZ ?_))
 have hE:=nB bp;first | subst r | cases hE
 exact ⟨rfl,_,(zj rfl),ae,_,(ac.pick [] _ (by decide) rfl),rfl,rfl⟩
 intro ag bq
 refine zg (congrArg hM (nA.2 ag.out)) (kN (rR gBl rfl (zO rfl rfl rfl rfl rfl ai (zO rfl rfl rfl rfl rfl rfl (OKS.mapPut (x:=.tmp 16) (y:=.tmp 17) (j:=0) (mk:=wED) (mv:=wEL) (a:=aq) (v:=true) rfl rfl rfl (by first | exact .inl rfl | exact .inr rfl) ac rfl rfl rfl rfl (wBq yD) wFb aM rfl ?_)))))
 intro ax aw aR bu ba
 have bb:sW w U ae [.obj b2 (.map ax aw)] aR:=ba
 refine zb (za (zF (rR fL2 Z (oR Z (zr (zX Z aj Z) (congrArg (jV) bk.out)) (oM Z Z (zb ?_))))))
 have q:=nB bq
 obtain rfl:=q
 exact zF ⟨Z,_,Z,⟨ae,ax,aw,Z,ai,ay,az,aP,bb,bu⟩⟩
 rintro bO bA bD ⟨aQ,bG,bF,aV,bH,bI,aU,bK,be,bJ⟩ bi
 have br:=wEC hm ak bi
 have aS:Hid (¬ ((↑(((↑p0.length:Int):Int) - 0).toNat:Int) < (↑p0.length:Int))):=zG (wAr)
 refine sR fL1 Z (oR Z (zR Z aV aU) (eN (zK (cF Z aS (ZG (zc (zc (zz (zF (sR fL1 Z (oA Z Z (eN (zP ?_)))))))))))))
 have hE:=nB br;first | subst r | cases hE
 exact ⟨rfl,_,(zj rfl),aQ,_,(be.pick [] _ (by decide) rfl),rfl,rfl⟩
end Go.Proofs.YtlmekamhphnmjaaGreat
namespace Go.Proofs.YtlmekamhphnmjaaGreat
open Go.KL
set_option maxHeartbeats 4000000
theorem wGK (p0:wAV) (av:Option Addr) (aw:Nat) (ag:Option Addr) (ah:Nat) (w:World) (U:PHeap) (hS:St0 w U []) (bU:Sl U 2 av aw p0.Skiers.length (hD wAF p0.Skiers)) (bE:Sl U 6 ag ah p0.Decisions.length (hD wAE p0.Decisions)) {r:(List Int)} (hm:wCP p0=some r):Gv Tryz.prog 208 [.agg #[jV p0.Deadline,.slice av p0.Skiers.length aw,.slice ag p0.Decisions.length ah]] w (wBj w [] U (fun U_ L_ v=>∃ (A0:Option Addr) (c0:Nat),v=.slice A0 r.length c0/\L_=[.row A0 c0 3 1 (hD KL.encI r)])):=by
 unfold wCP at hm
 refine Gv.of Tryz.func208 Z Tryz.ntmps208 Tryz.results208 Z (sR gBa Z ?_)
 let B0:List Value:=[jV p0.Deadline,.slice av p0.Skiers.length aw,.slice ag p0.Decisions.length ah]
 refine ZB (cs:=B0) rfl rfl rfl rfl rfl rfl (by rfl) hS ?_
 intro W1 b2 aT
 refine oA Z Z (eN (sR fL1 Z (oA Z Z (eN (zK (sR fL4 Z (oR Z (zC Z Z zq Z yA) (oL Z (aT.ldB (j:=0) Z Z Z yN (v:=.slice ag p0.Decisions.length ah) Z) (oR Z (ze Z Z ZT) (oM Z Z (eN (zU (bnK hm fun bY bF bI=>?_)))))))))))))
 have q:=wBM bF
 obtain ⟨au,bG⟩:=q
 replace au:=zG au
 refine CK.forN' (fun ae af J_ w_=>∃ (U_:PHeap) (ai:Option Addr) (an:Nat),J_ 9=jV (↑ae:Int)/\J_ 3=.slice ai af.length an/\J_ 7=.slice ag p0.Decisions.length ah/\J_ 8=jV (↑p0.Decisions.length:Int)/\PHeap.Le U U_/\sW w U U_ [.blk b2 28 B0,.row ai an 3 1 (hD KL.encI af)] w_) bG ?_ ?_ ?_
 have bw:=aT.nilrow 3 1
 exact ⟨U,none,0,rfl,rfl,rfl,rfl,(zQ _),(bw.pick [1,0] _ (by decide) rfl)⟩
 rintro ae af bX bM bP aq ⟨ak,ai,an,ap,bk,aQ,aR,aX,aU⟩ bL
 have aO:Hid ((↑ae:Int) < (↑p0.Decisions.length:Int)):=zG (wBR aq)
 replace aq:=zG aq
 have bH:Hid (w64 ((↑ae:Int) + 1)=(↑(ae + 1):Int)):=zG (by have h1:=au.out;have h2:=aO.out;rw [wAa] <;> omega)
 refine sR fL1 Z (oR Z (zR Z ap aR) (eN (zK (cT Z aO (kN (zK (zU (sR gBu Z (bnK bL fun aa aS bJ=>?_)))))))))
 have bq:=bE.le aX
 have q:=bq.el (fun _=>rfl) (wAk aS)
 obtain ⟨bS,bW,bs,bu⟩:=q
 refine oR Z (ZD Z aQ bs ap ZT zw (wBi aS)) (oL Z (aU.ldCA (f:=0) bu Z Z ZZ zw (us:=[jV aa.Number,jV aa.Kind,jV aa.Minute,jV aa.Bib,jV aa.Much,jV aa.About]) Z Z) (zy (cs:=[jV 0,jV 0,jV 0,jV 0,jV 0,jV 0]) Z Z Z Z Z yH Z aU ?_))
 intro bQ ao bx
 let B1:List Value:=[jV aa.Number,jV aa.Kind,jV aa.Minute,jV aa.Bib,jV aa.Much,jV aa.About]
 refine ZA (j:=0) (vs:=B1) Z Z Z Z bx Z Z Z Z zw (zB Z) Z Z Z ?_
 intro bb bz
 let B2:Res:=.row ai an 3 1 (hD KL.encI af)
 have aV:sW w U ak [.blk ao 46 B1,.blk b2 28 B0,B2] bb:=bz
 refine eN (rR (wEz gBo) Z (oM Z bk (oR Z (zC Z Z zd Z zD) (oL Z (aV.ldB (j:=0) Z Z Z zN (v:=jV aa.Number) Z) (ZF (pv:=[(0,jV aa.Number)]) (zs:=[jV 0]) (cs:=[jV aa.Number]) Z Z Z Z Z (wAH Z wAY) zH zD Zr Z Z Z Z Z aV ?_)))))
 intro be bh bA
 let B3:Res:=.row (some ⟨bh,0,none⟩) 1 3 1 (hD KL.encI [aa.Number])
 have aW:sW w U ak [B3,.blk ao 46 B1,.blk b2 28 B0,B2] be:=bA
 refine bnK bJ fun aY br bK=>yE (j:=3) (enc:=KL.encI) (xs:=af) (ys:=[aa.Number]) (zs:=aY) rfl rfl rfl rfl rfl yR wGs rfl rfl rfl rfl rfl rfl aW rfl rfl rfl (aW.srcR (j:=0) rfl (by decide) (wAG (f:=KL.encI) (sz:=1) (fun _=>rfl) [aa.Number])) (fun _=>rfl) (fun _=>rfl) br rfl ?_
 intro ay aP bg bB
 have bC:sW w U ak [B3,.blk ao 46 B1,.blk b2 28 B0,.row ay aP 3 1 (hD KL.encI aY)] bg:=bB
 refine oA Z Z (zb (za (zF (rR fL2 Z (oR Z (zr (zX Z ap Z) (congrArg (jV) bH.out)) (oM Z Z (zb ?_)))))))
 cases bK
 exact zF ⟨rfl,⟨ak,ay,aP,rfl,rfl,aQ,aR,aX,(bC.pick [2,3] _ (by decide) rfl)⟩⟩
 rintro bN bR ⟨ba,aZ,bi,bp,bm,bT,bn,bV,bD⟩
 have bj:Hid (¬ ((↑(((↑p0.Decisions.length:Int):Int) - 0).toNat:Int) < (↑p0.Decisions.length:Int))):=zG (wAr)
 refine sR fL1 Z (oR Z (zR Z bp bn) (eN (zK (cF Z bj (ZG (zc (zc (zz (zF (sR fL2 Z (oM Z bm (oA Z Z (eN (zP ?_))))))))))))))
 have hE:=nB bI;first | subst r | cases hE
 exact ⟨rfl,_,(zj rfl),ba,_,(bD.pick [1] _ (by decide) rfl),aZ,bi,rfl,rfl⟩
theorem wFs (p0:List Int) (ak:Option Addr) (am:Nat) (p1:Int) (w:World) (U:PHeap) (hS:St0 w U []) (aU:Sl U 1 ak am p0.length (hD KL.encI p0)) {r:Int} (hm:wCl p0 p1=some r):Gv Tryz.prog 74 [.slice ak p0.length am,jV p1] w (wBj w [] U (fun U_ L_ v=>v=jV r/\L_=[])):=by
 unfold wCl at hm
 refine Gv.of Tryz.func74 Z Tryz.ntmps74 Tryz.results74 Z (sR fL1 Z (oA Z Z (eN (zK (sR fL3 Z (oM Z Z (oR Z (ze Z Z zH) (oM Z Z (eN (zU ?_))))))))))
 have q:=wDA hm
 obtain ⟨r3,ag⟩:=q
 have q:=wCz ag
 obtain ⟨ai,aX⟩:=q
 replace ai:=zG ai
 refine ya (fun k2 _ J_ w_=>∃ (U_:PHeap),J_ 8=jV (↑k2:Int)/\J_ 0=.slice ak p0.length am/\J_ 1=jV p1/\J_ 7=jV (↑p0.length:Int)/\PHeap.Le U U_/\sW w U U_ [] w_) aX ?_ ?_ ?_
 exact ⟨U,Z,Z,Z,Z,(zQ _),hS⟩
 rintro k2 ⟨⟩ bw J7 W8 ah ⟨an,ae,ap,aq,au,ay,af⟩ ax aV
 try dsimp only at ax
 have ao:Hid ((↑k2:Int) < (↑p0.length:Int)):=zG (wBR ah)
 replace ah:=zG ah
 have aY:Hid (w64 ((↑k2:Int) + 1)=(↑(k2 + 1):Int)):=zG (by have h1:=ai.out;have h2:=ao.out;rw [wAa] <;> omega)
 refine sR fL1 Z (oR Z (zR Z ae au) (eN (zK (cT Z ao (kN (zK (zU (sR fL2 Z (oM Z ae (oA Z Z (eN (sR fL6 Z (oM Z aq (oM Z ap (oM Z Z (bnK ax fun bh av aZ=>?_))))))))))))))))
 have aQ:=aU.le ay
 have q:=aQ.el (fun _=>rfl) (wAk av)
 obtain ⟨bn,bs,aR,aS⟩:=q
 refine oR Z (ZD Z Z aR Z zH zD (wBi av)) (oL Z (af.ldC (f:=0) aS (v:=jV bh) Z Z zN Z) (oR Z (Zw Z Z Z) (eN (ifc aZ ?_ ?_))))
 intro ac ba
 refine cT Z ac (sR fL2 Z (oM Z Z (oA Z Z (eN (zP (zm (zZ ?_)))))))
 have q:=wAq ba
 obtain ⟨bg,bb,aN⟩:=q
 have q:=wDj hm ag (aV bg aN)
 obtain rfl:=q
 refine zZ (zm (zZ ?_))
 cases bb
 exact ⟨Z,_,(zj Z),an,_,af,Z,Z⟩
 intro ac be
 refine cF Z ac (ZE (za (zF (rR fL2 Z (oR Z (zr (zX Z ae Z) (congrArg (jV) aY.out)) (oM Z Z (zb ?_)))))))
 have q:=nB be
 obtain rfl:=q
 exact zF ⟨Z,_,Z,⟨an,Z,ap,aq,au,ay,af⟩⟩
 rintro ⟨⟩ bi bk ⟨az,aP,bp,bq,aO,br,aT⟩ aW
 have aw:=wEC hm ag aW
 try dsimp only at aw
 have aM:Hid (¬ ((↑(((↑p0.length:Int):Int) - 0).toNat:Int) < (↑p0.length:Int))):=zG (wAr)
 refine sR fL1 Z (oR Z (zR Z aP aO) (eN (zK (cF Z aM (ZG (zc (zc (zz (zF (sR fL1 Z (oA Z Z (eN (zP ?_)))))))))))))
 cases aw
 exact ⟨Z,_,(zj Z),az,_,aT,Z,Z⟩
theorem wEE (p0:List Int) (ac:Option Addr) (ae:Nat) (p1:Int) (w:World) (U:PHeap) (hS:St0 w U []) (am:Sl U 1 ac ae p0.length (hD KL.encI p0)) {r:Bool} (hm:wBQ p0 p1=some r):Gv Tryz.prog 32 [.slice ac p0.length ae,jV p1] w (wBj w [] U (fun U_ L_ v=>v=.bool r/\L_=[])):=by
 unfold wBQ at hm
 refine Gv.of Tryz.func32 Z Tryz.ntmps32 Tryz.results32 Z (sR fL1 Z (oA Z Z (eN (sR gBy Z (oM Z Z (oM Z Z (bnK hm fun x1 h2 ag=>zI 0 Z Z Z Z (zJ Z Z Tryz.call74 (zA Z (zA Z zM)) Z) hS (fun hs=>wFs p0 ac ae p1 w U hs am h2) (.inr Z) ?_)))))))
 rintro U4 L5 v6 W7 ao ak ⟨rfl,rfl⟩
 have aj:sW w U U4 [] W7:=ak
 refine oR Z (yz Z Z Z) (oA Z Z (eN (zP ?_)))
 first | (obtain rfl:=nB ag) | cases ag
 exact ⟨Z,_,(zj Z),U4,_,aj,Z,Z⟩
theorem wIj (p0:wAC) (p1:wAV) (aN:Nat) (ag:Option Addr) (ai:Nat) (ah:Option Addr) (aj:Nat) (w:World) (U:PHeap) (hS:St0 w U []) (bi:Cl U aN 0 [jV p1.Deadline,.slice ag p1.Skiers.length ai,.slice ah p1.Decisions.length aj]) (bj:Sl U 2 ag ai p1.Skiers.length (hD wAF p1.Skiers)) (bk:Sl U 6 ah aj p1.Decisions.length (hD wAE p1.Decisions)) {r:Bool} (hm:wDf p0 p1=some r):Gv Tryz.prog 209 [.agg #[jV p0.Number,jV p0.Kind,jV p0.Minute,jV p0.Bib,jV p0.Much,jV p0.About],.pointer (some ⟨aN,0,none⟩)] w (wBj w [] U (fun U_ L_ v=>v=.bool r/\L_=[])):=by
 unfold wDf at hm
 refine Gv.of Tryz.func209 Z Tryz.ntmps209 Tryz.results209 Z (sR gBa Z ?_)
 let B0:List Value:=[jV p0.Number,jV p0.Kind,jV p0.Minute,jV p0.Bib,jV p0.Much,jV p0.About]
 refine ZB (cs:=B0) rfl rfl rfl rfl rfl rfl (by rfl) hS ?_
 intro W1 b2 az
 refine oA Z Z (eN (zK (sR gBl Z (oR Z (zC Z Z zd Z Zi) (oL Z (az.ldB (j:=0) Z Z Z Zo (v:=jV p0.Kind) Z) (bnK hm fun x5 h6 bq=>zI 0 Z Z Z Z (zJ Z Z Tryz.call210 (zA Z zM) Z) az (fun hs=>wDH p0.Kind W1 U hs h6) (.inr Z) ?_))))))
 rintro U8 L9 bB an au aY ⟨rfl,rfl⟩
 have aq:sW w U U8 [.blk b2 46 B0] an:=aY
 refine eN (ifc bq ?_ ?_)
 intro ap bm
 refine zx (congrArg hM ap.out) (zK (ZQ ZK [1,2,3,1,2,3] (.fl 0 (.fl 2 (.fl 3 (.fx 1 gBe .stop)))) (by kernel_rfl) ?_))
 have af:=aq.drew
 generalize hw_W18:({ an with drawn:=an.drawn + 1 }:World)=aQ at af ⊢
 have aS:=bi.le au
 refine oL Z (af.ldCA (f:=0) aS Z Z ym Zb (us:=[jV p1.Deadline,.slice ag p1.Skiers.length ai,.slice ah p1.Decisions.length aj]) Z Z) (oR Z (zC Z Z zd Z zD) (oL Z (af.ldB (j:=0) Z Z Z zN (v:=jV p0.Bib) Z) ?_))
 have aT:=bj.le au
 have aU:=bk.le au
 refine bnK bm fun ak aV bn=>zI 0 Z Z Z Z (zJ Z Z Tryz.call163 (zA Z zM) Z) af (fun hs=>wFG p1 ag ai ah aj aQ U8 hs aT aU aV) (.inr Z) ?_
 rintro aO bs bC ao bx aZ ⟨av,ay,rfl,rfl⟩
 have ba:sW w U aO [.row av ay 3 1 (hD KL.encI ak),.blk b2 46 B0] ao:=aZ
 have q:=ba.freezeR (k:=0) (n:=ak.length) rfl (wAG (f:=KL.encI) (sz:=1) (fun _=>rfl) ak) (by decide)
 obtain ⟨aw,bz,br,bb⟩:=q
 have be:sW w U aw [.blk b2 46 B0] ao:=bb
 refine bnK bn fun bE aW bp=>zI 0 Z Z Z Z (zJ Z Z Tryz.call32 (zA Z (zA Z zM)) Z) be (fun hs=>wEE ak av ay p0.Bib ao aw hs br aW) (.inr Z) ?_
 rintro ax bu bD aR bA bg ⟨rfl,rfl⟩
 have bh:sW w U ax [.blk b2 46 B0] aR:=bg
 refine oA Z Z (eN (zP (zZ ?_)))
 have hE:=nB bp;first | subst r | cases hE
 exact ⟨rfl,_,(zj rfl),ax,_,(bh.pick [] _ (by decide) rfl),rfl,rfl⟩
 intro ap aM
 refine zg (congrArg hM (nA.2 ap.out)) (kN (sR fL4 Z (oR Z (zC Z Z zd Z zD) (oL Z (aq.ldB (j:=0) Z Z Z zN (v:=jV p0.Bib) Z) (oR Z (Zw Z Z Z) (oA Z Z (eN (zP ?_))))))))
 first | (obtain rfl:=nB aM) | cases aM
 exact ⟨rfl,_,(zj rfl),U8,_,(aq.pick [] _ (by decide) rfl),rfl,rfl⟩
theorem wIk (p0:wAC) (w:World) (U:PHeap) (hS:St0 w U [])  {r:Bool} (hm:wDg p0=some r):Gv Tryz.prog 211 [.agg #[jV p0.Number,jV p0.Kind,jV p0.Minute,jV p0.Bib,jV p0.Much,jV p0.About]] w (wBj w [] U (fun U_ L_ v=>v=.bool r/\L_=[])):=by
 unfold wDg at hm
 refine Gv.of Tryz.func211 Z Tryz.ntmps211 Tryz.results211 Z (sR gBa Z ?_)
 let B0:List Value:=[jV p0.Number,jV p0.Kind,jV p0.Minute,jV p0.Bib,jV p0.Much,jV p0.About]
 refine ZB (cs:=B0) rfl rfl rfl rfl rfl rfl (by rfl) hS ?_
 intro W1 b2 aj
 refine oA Z Z (eN (zK (sR gBl Z (oR Z (zC Z Z zd Z Zi) (oL Z (aj.ldB (j:=0) Z Z Z Zo (v:=jV p0.Kind) Z) (bnK hm fun x5 h6 ay=>zI 0 Z Z Z Z (zJ Z Z Tryz.call210 (zA Z zM) Z) aj (fun hs=>wDH p0.Kind W1 U hs h6) (.inr Z) ?_))))))
 rintro U8 L9 aP ah aN aq ⟨rfl,rfl⟩
 have ab:sW w U U8 [.blk b2 46 B0] ah:=aq
 refine eN (ifc ay ?_ ?_)
 intro af ak
 refine zx (congrArg hM af.out) (sR fL4 Z (oR Z (zC Z Z zd Z zD) (oL Z (ab.ldB (j:=0) Z Z Z zN (v:=jV p0.About) Z) (oR Z (Zw Z Z Z) (oA Z Z (eN (zP (zZ ?_))))))))
 first | (obtain rfl:=nB ak) | cases ak
 exact ⟨rfl,_,(zj rfl),U8,_,(ab.pick [] _ (by decide) rfl),rfl,rfl⟩
 intro af aw
 refine zg (congrArg hM (nA.2 af.out)) (kN (sR (wEA gBd) Z (oR Z (zC Z Z zd Z zD) (oL Z (ab.ldB (j:=0) Z Z Z zN (v:=jV p0.About) Z) (oR Z (zC Z Z zd Z zD) (oL Z (ab.ldB (j:=0) Z Z Z zN (v:=jV p0.Number) Z) (oR Z (ZN Z Z Z) (bnK aw fun aR ao ax=>zI 0 Z Z Z Z (zJ Z Z yZ (zA Z (zA Z (zA Z zM))) Z) ab (fun hs=>wBh p0.About 1 (w64 (p0.Number - 1)) ah U8 hs ao) (.inr Z) ?_))))))))
 rintro ag az aQ an aO au ⟨rfl,rfl⟩
 have av:sW w U ag [.blk b2 46 B0] an:=au
 refine oA Z Z (eN (zP ?_))
 have hE:=nB ax;first | subst r | cases hE
 exact ⟨rfl,_,(zj rfl),ag,_,(av.pick [] _ (by decide) rfl),rfl,rfl⟩
theorem wJu (p0:wAV) (ai:Option Addr) (aj:Nat) (ab:Option Addr) (ac:Nat) (w:World) (U:PHeap) (hS:St0 w U []) (dy:Sl U 2 ai aj p0.Skiers.length (hD wAF p0.Skiers)) (dz:Sl U 6 ab ac p0.Decisions.length (hD wAE p0.Decisions)) {r:Int} (hm:wEk p0=some r):Gv Tryz.prog 130 [.agg #[jV p0.Deadline,.slice ai p0.Skiers.length aj,.slice ab p0.Decisions.length ac]] w (wBj w [] U (fun U_ L_ v=>v=jV r/\L_=[])):=by
 unfold wEk at hm
 refine Gv.of Tryz.func130 Z Tryz.ntmps130 Tryz.results130 Z (sR gBa Z ?_)
 let B0:List Value:=[jV p0.Deadline,.slice ai p0.Skiers.length aj,.slice ab p0.Decisions.length ac]
 refine ZB (cs:=B0) rfl rfl rfl rfl rfl rfl (by rfl) hS ?_
 intro W1 b2 dn
 have q:=dn.freeze (k:=0) rfl
 obtain ⟨U5,cd,ao,dt⟩:=q
 replace ao:=Cl.of ao
 have ca:sW w U U5 [] W1:=dt
 replace ao:Cl U5 b2 0 B0:=ao
 refine oA Z Z (eN (zK (zU (sR (wEz (.fx 3 (wQC (.nil)) .stop)) Z (oR Z (zC Z Z zq Z yJ) (oL Z (ca.ldC (f:=1) ao (v:=.slice ai p0.Skiers.length aj) Z Z yk Z) (oR Z (ze Z Z Za) (bnK hm fun eQ cp dD=>zI 0 Z Z Z Z (zJ Z Z yZ (zA Z (zA Z (zA Z zM))) Z) ca (fun hs=>wBh (↑p0.Skiers.length:Int) 1 30 W1 U5 hs cp) (.inr Z) ?_))))))))
 rintro au ed eH bH br di ⟨rfl,rfl⟩
 have ap:sW w U au [] bH:=di
 refine oR Z (ZR Z Z) (oM Z Z (ifc dD ?_ ?_))
 intro ae dR
 refine zT Z Z Z (zL Z Z (nC ae.out)) (fun _=>zC Z Z zq Z yA) ?_
 have bb:=ao.le br
 refine zn Z Z Z (zL Z Z (nC ae.out)) (ap.ldC (f:=2) bb (v:=.slice ab p0.Decisions.length ac) Z Z yN Z) Z (zT Z Z Z (zL Z Z (nC ae.out)) (fun _=>ze Z Z ZT) (zT Z Z Z (zL Z Z (nC ae.out)) (fun _=>yP Z Z Z) (oR Z (zS Z (nC ae.out) Z) (oA Z Z (eN (ifc dR ?_ ?_))))))
 intro aW dS
 refine cT Z aW (sR fL1 Z (oA Z Z (eN (zP (zm (zZ ?_))))))
 cases dS
 exact ⟨Z,_,(zj Z),au,_,ap,Z,Z⟩
 intro aW dT
 refine cF Z aW (sR (.fl 0 (.fl 1 (.fx 2 (wNG (.fx 7 (wQG (.fx 13 (wNJ (.nil)) .stop)) .stop)) .stop))) Z (oR Z (zC Z Z zq Z zD) (oL Z (ap.ldC (f:=0) bb (v:=jV p0.Deadline) Z Z zN Z) (bnK dT fun eU cM dU=>zI 0 Z Z Z Z (zJ Z Z yZ (zA Z (zA Z (zA Z zM))) Z) ap (fun hs=>wBh p0.Deadline 0 10000 bH au hs cM) (.inr Z) ?_))))
 rintro ax ep eK bJ bs dp ⟨rfl,rfl⟩
 have bi:sW w U ax [] bJ:=dp
 refine oR Z (ZR Z Z) (oM Z Z (ifc dU ?_ ?_))
 intro af dV
 refine zT Z Z Z (zL Z Z (nC af.out)) (fun _=>zC Z Z zq Z yJ) ?_
 have bR:=bb.le bs
 refine zn Z Z Z (zL Z Z (nC af.out)) (bi.ldC (f:=1) bR (v:=.slice ai p0.Skiers.length aj) Z Z yk Z) Z ?_
 have cN:=dy.le cd
 have cO:=cN.le br
 have bS:=cO.le bs
 have c7:FnOK Tryz.prog ax (.func (.func 204) #[] #[]) wLf wLg wDe:=⟨204,[],[],rfl,Tryz.call204,fun U1 w1 x y vs le hs ha hm=>by obtain rfl:=ha;exact wIi x w1 U1 hs  hm⟩
 refine bnK dV fun eV cP dW=>zI 0 Z Z Z (zL Z Z (nC af.out)) (zJ Z Z Tryz.call203 (zA Z (zA Z zM)) Z) bi (fun hs=>wGJ p0.Skiers ai aj wDe (.func (.func 204) #[] #[]) bJ ax hs bS c7 cP) (.inr Z) ?_
 rintro ay eu eM bK bu dq ⟨rfl,rfl⟩
 have bj:sW w U ay [] bK:=dq
 refine zT Z Z Z (zL Z Z (nC af.out)) (fun _=>ZR Z Z) (oR Z (zS Z (nC af.out) Z) (oM Z Z (ifc dW ?_ ?_)))
 intro ag dX
 refine zT Z Z Z (zL Z Z (nC ag.out)) (fun _=>zC Z Z zq Z yA) ?_
 have bT:=bR.le bu
 refine zn Z Z Z (zL Z Z (nC ag.out)) (bj.ldC (f:=2) bT (v:=.slice ab p0.Decisions.length ac) Z Z yN Z) Z ?_
 have cQ:=dz.le cd
 have cR:=cQ.le br
 have cS:=cR.le bs
 have bU:=cS.le bu
 have c8:FnOK Tryz.prog ay (.func (.func 206) #[] #[]) wJq wJr wBU:=⟨206,[],[],rfl,Tryz.call206,fun U1 w1 x y vs le hs ha hm=>by obtain rfl:=ha;exact wFr x w1 U1 hs  hm⟩
 refine bnK dX fun eW cU dY=>zI 0 Z Z Z (zL Z Z (nC ag.out)) (zJ Z Z Tryz.call205 (zA Z (zA Z zM)) Z) bj (fun hs=>wDR p0.Decisions ab ac wBU (.func (.func 206) #[] #[]) bK ay hs bU c8 cU) (.inr Z) ?_
 rintro aP ey eO bL bw dr ⟨rfl,rfl⟩
 have bk:sW w U aP [] bL:=dr
 refine zT Z Z Z (zL Z Z (nC ag.out)) (fun _=>ZR Z Z) (oR Z (zS Z (nC ag.out) Z) (oA Z Z (eN (ifc dY ?_ ?_))))
 intro aX dZ
 refine zg (nC aX.out) (sR (.fl 0 (.fx 1 (.fx 2 (.fl 3 (.fl 4 (.fx 5 gBm .stop))) .stop) .stop)) Z ?_)
 have bV:=bT.le bw
 refine oL Z (bk.ldCA (f:=0) bV Z Z ym Zb (us:=B0) Z Z) ?_
 have cV:=bS.le bu
 have bW:=cV.le bw
 have bX:=bU.le bw
 refine bnK dZ fun aM cW d5=>zI 0 Z Z Z Z (zJ Z Z Tryz.call163 (zA Z zM) Z) bk (fun hs=>wFG p0 ai aj ab ac bL aP hs bW bX cW) (.inr Z) ?_
 rintro ci eA eP aS bx du ⟨bB,bN,rfl,rfl⟩
 have dv:sW w U ci [.row bB bN 3 1 (hD KL.encI aM)] aS:=du
 have q:=dv.freezeR (k:=0) (n:=aM.length) rfl (wAG (f:=KL.encI) (sz:=1) (fun _=>rfl) aM) (by decide)
 obtain ⟨bD,bz,d8,dw⟩:=q
 have dx:sW w U bD [] aS:=dw
 refine bnK d5 fun eX cX d6=>zI 0 Z Z Z Z (zJ Z Z Tryz.call207 (zA Z zM) Z) dx (fun hs=>wHa aM bB bN aS bD hs d8 cX) (.inr Z) ?_
 rintro aQ eB eD bF bm da ⟨rfl,rfl⟩
 have be:sW w U aQ [] bF:=da
 refine oM Z Z (ifc d6 ?_ ?_)
 intro ah dA
 refine zW Z Z Z (zY Z Z (congrArg hM ah.out) Z) (Zl Z Z Z (zY Z Z (congrArg hM ah.out) Z) (Zl Z Z Z (zY Z Z (congrArg hM ah.out) Z) (oR Z (zV Z (congrArg hM ah.out) Z) (oA Z Z (eN (zx Z (sR fL1 Z (oA Z Z (eN (zP (zm (zZ ?_))))))))))))
 cases dA
 exact ⟨Z,_,(zj Z),aQ,_,be,Z,Z⟩
 intro ah dB
 have cm:=bV.le bx
 have co:=cm.le bz
 have bO:=co.le bm
 refine zn Z Z Z (zL Z Z (congrArg hM (nA.2 ah.out))) (be.ldCA (f:=0) bO Z Z ym Zb (us:=B0) Z Z) Z ?_
 have cr:=bW.le bx
 have ct:=cr.le bz
 have bP:=ct.le bm
 have cw:=bX.le bx
 have cx:=cw.le bz
 have bQ:=cx.le bm
 refine bnK dB fun az cy dC=>zI 0 Z Z Z (zL Z Z (congrArg hM (nA.2 ah.out))) (zJ Z Z Tryz.call208 (zA Z zM) Z) be (fun hs=>wGK p0 ai aj ab ac bF aQ hs bP bQ cy) (.inr Z) ?_
 rintro ch d9 eF aR bn db ⟨bA,bM,rfl,rfl⟩
 have dd:sW w U ch [.row bA bM 3 1 (hD KL.encI az)] aR:=db
 have q:=dd.freezeR (k:=0) (n:=az.length) rfl (wAG (f:=KL.encI) (sz:=1) (fun _=>rfl) az) (by decide)
 obtain ⟨bC,bp,d7,de⟩:=q
 have df:sW w U bC [] aR:=de
 refine bnK dC fun eR cz dE=>zI 0 Z Z Z (zL Z Z (congrArg hM (nA.2 ah.out))) (zJ Z Z Tryz.call207 (zA Z zM) Z) df (fun hs=>wHa az bA bM aR bC hs d7 cz) (.inr Z) ?_
 rintro av eb eG bG bq dg ⟨rfl,rfl⟩
 have bg:sW w U av [] bG:=dg
 refine oR Z (zS Z (congrArg hM (nA.2 ah.out)) Z) (oA Z Z (eN (ifc dE ?_ ?_)))
 intro aT dF
 refine zx (congrArg hM aT.out) (sR fL1 Z (oA Z Z (eN (zP (zm (zZ ?_))))))
 cases dF
 exact ⟨Z,_,(zj Z),av,_,bg,Z,Z⟩
 intro aT dG
 refine zg (congrArg hM (nA.2 aT.out)) (zK (yg fun cg bY=>?_))
 have aY:cg 1=.pointer (some ⟨b2,0,none⟩):=(bY 1).trans rfl
 clear bY
 refine rR (wEz (.fx 3 (.fl 4 (.fl 5 .nil)) .stop)) Z (oR Z (zC Z aY zq Z yA) ?_)
 have cA:=bO.le bn
 have cB:=cA.le bp
 have aZ:=cB.le bq
 refine oL Z (bg.ldC (f:=2) aZ (v:=.slice ab p0.Decisions.length ac) Z Z yN Z) (oR Z (yW Z zM (zA aY zM)) ?_)
 have cC:=bQ.le bn
 have cD:=cC.le bp
 have ba:=cD.le bq
 have cE:=bP.le bn
 have cG:=cE.le bp
 have cH:=cG.le bq
 have cY:FnOK Tryz.prog av (.func (.func 209) #[] #[.pointer (some ⟨b2,0,none⟩)]) wJq wJr (fun x=>wDf x p0):=⟨209,[],[.pointer (some ⟨b2,0,none⟩)],rfl,Tryz.call209,fun U1 w1 x y vs le hs ha hm=>by obtain rfl:=ha;exact wIj x p0 b2 ai aj ab ac w1 U1 hs (aZ.le le) (cH.le le) (ba.le le) hm⟩
 refine bnK dG fun eS cI dH=>zI 0 Z Z Z Z (zJ Z Z Tryz.call205 (zA Z (zA Z zM)) Z) bg (fun hs=>wDR p0.Decisions ab ac (fun x=>wDf x p0) (.func (.func 209) #[] #[.pointer (some ⟨b2,0,none⟩)]) bG av hs ba cY cI) (.inr Z) ?_
 rintro aw ee eI bI cc dh ⟨rfl,rfl⟩
 have bh:sW w U aw [] bI:=dh
 refine oR Z (ZR Z Z) (oA Z Z (eN (ifc dH ?_ ?_)))
 intro aU dI
 refine zg (nC aU.out) (sR gBy Z (oR Z (zC Z aY zq Z yA) ?_))
 have cJ:=aZ.le cc
 refine oL Z (bh.ldC (f:=2) cJ (v:=.slice ab p0.Decisions.length ac) Z Z yN Z) ?_
 have cK:=ba.le cc
 have cZ:FnOK Tryz.prog aw (.func (.func 211) #[] #[]) wJq wJr wDg:=⟨211,[],[],rfl,Tryz.call211,fun U1 w1 x y vs le hs ha hm=>by obtain rfl:=ha;exact wIk x w1 U1 hs  hm⟩
 refine bnK dI fun eT cL dJ=>zI 0 Z Z Z Z (zJ Z Z Tryz.call205 (zA Z (zA Z zM)) Z) bh (fun hs=>wDR p0.Decisions ab ac wDg (.func (.func 211) #[] #[]) bI aw hs cK cZ cL) (.inr Z) ?_
 rintro aN eh eJ cj eC dm ⟨rfl,rfl⟩
 have bZ:sW w U aN [] cj:=dm
 refine oR Z (ZR Z Z) (oA Z Z (eN (ifc dJ ?_ ?_)))
 intro aV dK
 refine zg (nC aV.out) (ZE (za (zF (sR fL1 Z (oA Z Z (eN (zP ?_)))))))
 cases dK
 exact ⟨Z,_,(zj Z),aN,_,bZ,Z,Z⟩
 intro aV dL
 refine zx (nF (aV.out)) (sR fL1 Z (oA Z Z (eN (zP (zm (zZ ?_))))))
 cases dL
 exact ⟨Z,_,(zj Z),aN,_,bZ,Z,Z⟩
 intro aU dM
 refine zx (nF (aU.out)) (sR fL1 Z (oA Z Z (eN (zP (zm (zZ ?_))))))
 cases dM
 exact ⟨Z,_,(zj Z),aw,_,bh,Z,Z⟩
 intro aX dN
 refine zx (nF (aX.out)) (sR fL1 Z (oA Z Z (eN (zP (zm (zZ ?_))))))
 cases dN
 exact ⟨Z,_,(zj Z),aP,_,bk,Z,Z⟩
 intro ag dO
 refine zW Z Z Z (zY Z Z (nF (ag.out)) Z) (zW Z Z Z (zY Z Z (nF (ag.out)) Z) (Zl Z Z Z (zY Z Z (nF (ag.out)) Z) (zW Z Z Z (zY Z Z (nF (ag.out)) Z) (oR Z (zV Z (nF (ag.out)) Z) (oA Z Z (eN (zx Z (sR fL1 Z (oA Z Z (eN (zP (zm (zZ ?_)))))))))))))
 cases dO
 exact ⟨Z,_,(zj Z),ay,_,bj,Z,Z⟩
 intro af dP
 refine zW Z Z Z (zY Z Z (nF (af.out)) Z) (zW Z Z Z (zY Z Z (nF (af.out)) Z) (Zl Z Z Z (zY Z Z (nF (af.out)) Z) (zW Z Z Z (zY Z Z (nF (af.out)) Z) (oR Z (zV Z (nF (af.out)) Z) (oM Z Z (oN Z (oN Z (Zl Z Z Z (zY Z Z Z Z) (oN Z (oR Z (zV Z Z Z) (oA Z Z (eN (zx Z (sR fL1 Z (oA Z Z (eN (zP (zm (zZ ?_)))))))))))))))))))
 cases dP
 exact ⟨Z,_,(zj Z),ax,_,bi,Z,Z⟩
 intro ae dQ
 refine zW Z Z Z (zY Z Z (nF (ae.out)) Z) (zW Z Z Z (zY Z Z (nF (ae.out)) Z) (zW Z Z Z (zY Z Z (nF (ae.out)) Z) (zW Z Z Z (zY Z Z (nF (ae.out)) Z) (oR Z (zV Z (nF (ae.out)) Z) (oA Z Z (eN (zx Z (sR fL1 Z (oA Z Z (eN (zP (zm (zZ ?_)))))))))))))
 cases dQ
 exact ⟨Z,_,(zj Z),au,_,ap,Z,Z⟩
theorem wDu (p0:List wAI) (ab:Option Addr) (ac:Nat) (p1:((wAI × wAI)->Option Int)) (ae:Value) (w:World) (U:PHeap) (hS:St ⟨w,[.row ab ac 40 2 (hD wAF p0)],U⟩ U [.row ab ac 40 2 (hD wAF p0)] w) (ag:FnOK Tryz.prog U ae wPX wPY p1) (ah:∃ g cb,ae=.func (.func g) #[] cb) {r:List wAI} (hm:wBb p0 p1=some r):Gv Tryz.prog 131 [.slice ab p0.length ac,ae] w (wBj w [.row ab ac 40 2 (hD wAF p0)] U (fun U_ L_ v=>v=.tuple #[]/\L_=[.row ab ac 40 2 (hD wAF r)]/\r.length=p0.length)) :=
 wGq (sz:=2) (fun _=>rfl) (fun x v h=>nM.1 (show (wAF x).all (·.oneCell')=true from rfl) v h) (fun _ _ _=>rfl) (fun _ _ _ _ h=>h.1) (fun enc a1 a2 cf b g cb k1 k2 k3 d w h1 h2 h3 h4 h5 h6=>Go.Proofs.Tryz.slices_SortFunc_total_f131 2 Tryz.isAgg40 Tryz.sizeOf40 enc a1 a2 cf b g cb k1 k2 k3 d w h1 h2 h3 h4 h5 h6) (fun p c v w=>Go.Proofs.Tryz.slices_SortFunc_none_f131 (α:=Int) p c v w) hS ag (by decide) ah hm
theorem wIK (p0:wAI) (p1:wAI) (w:World) (U:PHeap) (hS:St0 w U [])  {r:Int} (hm:wDM p0 p1=some r):Gv Tryz.prog 132 [.agg #[jV p0.Bib,jV p0.Time],.agg #[jV p1.Bib,jV p1.Time]] w (wBj w [] U (fun U_ L_ v=>v=jV r/\L_=[])):=by
 unfold wDM at hm
 refine Gv.of Tryz.func132 Z Tryz.ntmps132 Tryz.results132 Z (sR gBh Z ?_)
 let B0:List Value:=[jV p0.Bib,jV p0.Time]
 refine ZB (cs:=B0) rfl rfl rfl rfl rfl rfl (by rfl) hS ?_
 intro W1 b2 ap
 let B1:List Value:=[jV p1.Bib,jV p1.Time]
 refine ZB (cs:=B1) rfl rfl rfl rfl rfl rfl (by rfl) ap ?_
 intro W5 b6 ac
 refine oA Z Z (eN (sR (wEv gBe) Z (oR Z (zC Z Z yB Z zD) (oL Z (ac.ldB (j:=1) Z Z Z zN (v:=jV p0.Bib) Z) (oR Z (zC Z Z yB Z zD) (oL Z (ac.ldB (j:=0) Z Z Z zN (v:=jV p1.Bib) Z) (bnK hm fun x9 am aq=>zI 0 Z Z Z Z (zJ Z Z YL (zA Z (zA Z zM)) Z) ac (fun hs=>wBg p0.Bib p1.Bib W5 U hs am) (.inr Z) ?_)))))))
 rintro ag au ax ah aw an ⟨rfl,rfl⟩
 have ao:sW w U ag [.blk b6 40 B1,.blk b2 40 B0] ah:=an
 refine oA Z Z (eN (zP ?_))
 have hE:=nB aq;first | subst r | cases hE
 exact ⟨rfl,_,(zj rfl),ag,_,(ao.pick [] _ (by decide) rfl),rfl,rfl⟩
theorem wDS (p0:List wAC) (ab:Option Addr) (ac:Nat) (p1:((wAC × wAC)->Option Int)) (ae:Value) (w:World) (U:PHeap) (hS:St ⟨w,[.row ab ac 46 6 (hD wAE p0)],U⟩ U [.row ab ac 46 6 (hD wAE p0)] w) (ag:FnOK Tryz.prog U ae wPZ wPa p1) (ah:∃ g cb,ae=.func (.func g) #[] cb) {r:List wAC} (hm:wBI p0 p1=some r):Gv Tryz.prog 133 [.slice ab p0.length ac,ae] w (wBj w [.row ab ac 46 6 (hD wAE p0)] U (fun U_ L_ v=>v=.tuple #[]/\L_=[.row ab ac 46 6 (hD wAE r)]/\r.length=p0.length)) :=
 wGq (sz:=6) (fun _=>rfl) (fun x v h=>nM.1 (show (wAE x).all (·.oneCell')=true from rfl) v h) (fun _ _ _=>rfl) (fun _ _ _ _ h=>h.1) (fun enc a1 a2 cf b g cb k1 k2 k3 d w h1 h2 h3 h4 h5 h6=>Go.Proofs.Tryz.slices_SortFunc_total_f133 6 Tryz.isAgg46 Tryz.sizeOf46 enc a1 a2 cf b g cb k1 k2 k3 d w h1 h2 h3 h4 h5 h6) (fun p c v w=>Go.Proofs.Tryz.slices_SortFunc_none_f133 (α:=Int) p c v w) hS ag (by decide) ah hm
theorem wIL (p0:wAC) (p1:wAC) (w:World) (U:PHeap) (hS:St0 w U [])  {r:Int} (hm:wDN p0 p1=some r):Gv Tryz.prog 134 [.agg #[jV p0.Number,jV p0.Kind,jV p0.Minute,jV p0.Bib,jV p0.Much,jV p0.About],.agg #[jV p1.Number,jV p1.Kind,jV p1.Minute,jV p1.Bib,jV p1.Much,jV p1.About]] w (wBj w [] U (fun U_ L_ v=>v=jV r/\L_=[])):=by
 unfold wDN at hm
 refine Gv.of Tryz.func134 Z Tryz.ntmps134 Tryz.results134 Z (sR gBh Z ?_)
 let B0:List Value:=[jV p0.Number,jV p0.Kind,jV p0.Minute,jV p0.Bib,jV p0.Much,jV p0.About]
 refine ZB (cs:=B0) rfl rfl rfl rfl rfl rfl (by rfl) hS ?_
 intro W1 b2 ap
 let B1:List Value:=[jV p1.Number,jV p1.Kind,jV p1.Minute,jV p1.Bib,jV p1.Much,jV p1.About]
 refine ZB (cs:=B1) rfl rfl rfl rfl rfl rfl (by rfl) ap ?_
 intro W5 b6 ac
 refine oA Z Z (eN (sR (wEv gBe) Z (oR Z (zC Z Z zd Z zD) (oL Z (ac.ldB (j:=1) Z Z Z zN (v:=jV p0.Number) Z) (oR Z (zC Z Z zd Z zD) (oL Z (ac.ldB (j:=0) Z Z Z zN (v:=jV p1.Number) Z) (bnK hm fun x9 am aq=>zI 0 Z Z Z Z (zJ Z Z YL (zA Z (zA Z zM)) Z) ac (fun hs=>wBg p0.Number p1.Number W5 U hs am) (.inr Z) ?_)))))))
 rintro ag au ax ah aw an ⟨rfl,rfl⟩
 have ao:sW w U ag [.blk b6 46 B1,.blk b2 46 B0] ah:=an
 refine oA Z Z (eN (zP ?_))
 have hE:=nB aq;first | subst r | cases hE
 exact ⟨rfl,_,(zj rfl),ag,_,(ao.pick [] _ (by decide) rfl),rfl,rfl⟩
theorem wJK (p0:wAV) (aP:Option Addr) (aR:Nat) (aQ:Option Addr) (aS:Nat) (w:World) (U:PHeap) (hS:St0 w U []) (cI:Sl U 2 aP aR p0.Skiers.length (hD wAF p0.Skiers)) (cJ:Sl U 6 aQ aS p0.Decisions.length (hD wAE p0.Decisions)) {r:wAV × Int} (hm:wES p0=some r):Gv Tryz.prog 78 [.agg #[jV p0.Deadline,.slice aP p0.Skiers.length aR,.slice aQ p0.Decisions.length aS]] w (wBj w [] U (fun U_ L_ v=>∃ (bQ:Option Addr) (cg:Nat) (bR:Option Addr) (ch:Nat),v=.tuple #[.agg #[jV r.1.Deadline,.slice bQ r.1.Skiers.length cg,.slice bR r.1.Decisions.length ch],jV r.2]/\L_=[.row bQ cg 40 2 (hD wAF r.1.Skiers),.row bR ch 46 6 (hD wAE r.1.Decisions)])):=by
 unfold wES at hm
 refine Gv.of Tryz.func78 Z Tryz.ntmps78 Tryz.results78 Z (sR gBh Z ?_)
 let B0:List Value:=[jV p0.Deadline,.slice aP p0.Skiers.length aR,.slice aQ p0.Decisions.length aS]
 refine ZB (cs:=B0) rfl rfl rfl rfl rfl rfl (by rfl) hS ?_
 intro W1 b2 eO
 let B1:List Value:=[jV 0,.slice none 0 0,.slice none 0 0]
 refine zy (cs:=B1) Z Z Z Z Z Zq Z eO ?_
 intro W5 b6 cH
 refine oA Z Z (eN (zK (sR gBg Z (oL Z (cH.ldBA (j:=1) Z Z Z ym Zb (vs:=B0) Z Z) (bnK hm fun x9 dh fb=>zI 0 Z Z Z Z (zJ Z Z Tryz.call130 (zA Z zM) Z) cH (fun hs=>wJu p0 aP aR aQ aS W5 U hs cI cJ dh) (.inr Z) ?_)))))
 rintro ai ft fJ bK cL dY ⟨rfl,rfl⟩
 have cz:sW w U ai [.blk b6 28 B1,.blk b2 28 B0] bK:=dY
 refine oA Z Z (eN (sR fL2 Z (oM Z Z (oR Z (Ze Z Z Z) (eN (ifc fb ?_ ?_))))))
 intro bN fc
 refine zg (zo (fun h=>h bN.out)) (kN ?_)
 have q:=bnd fc
 obtain ⟨⟨aO,au⟩,fk,cK⟩:=q
 try dsimp only at cK
 refine YC (fun J_ w_=>∃ (U_:PHeap) (ao:Nat) (am:Nat) (an:Nat) (aj:Nat) (ak:Nat),J_ 1=.pointer (some ⟨b2,0,none⟩)/\J_ 2=.pointer (some ⟨b6,0,none⟩)/\J_ 5=.pointer (some ⟨ao,0,none⟩)/\PHeap.Le ai U_/\sW w U U_ [.blk b6 28 B1,.blk b2 28 B0,.blk ao 28 [jV p0.Deadline,.slice (some ⟨am,0,none⟩) aO.length an,.slice (some ⟨aj,0,none⟩) au.length ak],.row (some ⟨am,0,none⟩) an 40 2 (hD wAF aO),.row (some ⟨aj,0,none⟩) ak 46 6 (hD wAE au)] w_) ?_ ?_
 refine bnK fk fun ab ba fj=>bnK fj fun ac bb aN=>ZQ ZK [3,1,3,1,3,2,3,1,3,2,3,2,0] (wEA (fC6_8 (.fx 5 (.fx 9 (.fl 10 gAx) (.fx 11 gBp .stop)) (.fx 9 (.fx 5 (.fl 10 gAx) (.fx 11 gBq .stop)) (.fx 11 (.fx 5 gBp (.fx 9 gBq .stop)) .stop))))) (by kernel_rfl) ?_
 have ay:=cz.drew
 generalize hw_W58:({ bK with drawn:=bK.drawn + 1 }:World)=fD at ay ⊢
 refine oR Z (zC Z Z zq Z zD) (oL Z (ay.ldB (j:=1) Z Z Z zN (v:=jV p0.Deadline) Z) (oR Z (zC Z Z zq Z yJ) (oL Z (ay.ldB (j:=1) Z Z Z yk (v:=.slice aP p0.Skiers.length aR) Z) (oR Z (ze Z Z Za) (oR Z (zC Z Z zq Z yA) (oL Z (ay.ldB (j:=1) Z Z Z yN (v:=.slice aQ p0.Decisions.length aS) Z) (oR Z (ze Z Z ZT) (OKS.both ?_ ?_))))))))
 refine yd (sz:=2) (enc:=wAF) (z:=(⟨0,0⟩:wAI)) (v:=jV 0) rfl rfl rfl rfl rfl (wBq Za) wIC rfl rfl rfl rfl (by decide) (by decide) rfl rfl ba ay ?_
 intro db ax eP
 let B2:Res:=.row (some ⟨ax,0,none⟩) ab.length 40 2 (hD wAF ab)
 have cG:sW w U ai [B2,.blk b6 28 B1,.blk b2 28 B0] db:=eP
 refine OKS.both ?_ ?_
 refine yd (sz:=6) (enc:=wAE) (z:=(⟨0,0,0,0,0,0⟩:wAC)) (v:=jV 0) rfl rfl rfl rfl rfl (wBq ZT) wID rfl rfl rfl rfl (by decide) (by decide) rfl rfl bb cG ?_
 intro dd bs eQ
 let B3:Res:=.row (some ⟨bs,0,none⟩) ac.length 46 6 (hD wAE ac)
 have eR:sW w U ai [B3,B2,.blk b6 28 B1,.blk b2 28 B0] dd:=eQ
 let B4:List Value:=[jV p0.Deadline,.slice (some ⟨ax,0,none⟩) ab.length ab.length,.slice (some ⟨bs,0,none⟩) ac.length ac.length]
 refine oR Z (ZI (pv:=[(0,jV p0.Deadline),(1,.slice (some ⟨ax,0,none⟩) ab.length ab.length),(2,.slice (some ⟨bs,0,none⟩) ac.length ac.length)]) (z:=B1) (cs:=B4) Z (wAH Z (wAH Z (wAH Z wAY))) Zq wFE Z Z) (zy (cs:=B1) Z Z Z Z Z Zq Z eR ?_)
 intro fE cd eS
 refine ZA (j:=0) (vs:=B4) Z Z Z Z eS Z Z Z Z Zb (zB Z) Z Z Z ?_
 intro de eT
 have eU:sW w U ai [.blk cd 28 B4,B3,B2,.blk b6 28 B1,.blk b2 28 B0] de:=eT
 refine zb ?_
 have cw:=nB aN
 simp only [nK] at cw
 obtain ⟨dH,dI⟩:=cw
 subst dH
 subst dI
 exact zF ⟨rfl,⟨ai,cd,ax,ab.length,bs,ac.length,rfl,rfl,rfl,(zQ _),(eU.pick [3,4,0,2,1] _ (by decide) rfl)⟩⟩
 refine zy (cs:=B1) Z Z Z Z Z Zq Z cG ?_
 intro fG bM eV
 refine yd (sz:=6) (enc:=wAE) (z:=(⟨0,0,0,0,0,0⟩:wAC)) (v:=jV 0) rfl rfl rfl rfl rfl (wBq ZT) wID rfl rfl rfl rfl (by decide) (by decide) rfl rfl bb eV ?_
 intro df bu eW
 let B5:Res:=.row (some ⟨bu,0,none⟩) ac.length 46 6 (hD wAE ac)
 have eX:sW w U ai [B5,.blk bM 28 B1,B2,.blk b6 28 B1,.blk b2 28 B0] df:=eW
 let B6:List Value:=[jV p0.Deadline,.slice (some ⟨ax,0,none⟩) ab.length ab.length,.slice (some ⟨bu,0,none⟩) ac.length ac.length]
 refine oR Z (ZI (pv:=[(0,jV p0.Deadline),(1,.slice (some ⟨ax,0,none⟩) ab.length ab.length),(2,.slice (some ⟨bu,0,none⟩) ac.length ac.length)]) (z:=B1) (cs:=B6) Z (wAH Z (wAH Z (wAH Z wAY))) Zq wFE Z Z) (ZA (j:=1) (vs:=B6) Z Z Z Z eX Z Z Z Z Zb (zB Z) Z Z Z ?_)
 intro dg eY
 have e7:sW w U ai [B5,.blk bM 28 B6,B2,.blk b6 28 B1,.blk b2 28 B0] dg:=eY
 refine zb ?_
 have cm:=nB aN
 simp only [nK] at cm
 obtain ⟨dx,dy⟩:=cm
 subst dx
 subst dy
 exact zF ⟨rfl,⟨ai,bM,ax,ab.length,bu,ac.length,rfl,rfl,rfl,(zQ _),(e7.pick [3,4,1,2,0] _ (by decide) rfl)⟩⟩
 refine OKS.both ?_ ?_
 refine yd (sz:=6) (enc:=wAE) (z:=(⟨0,0,0,0,0,0⟩:wAC)) (v:=jV 0) rfl rfl rfl rfl rfl (wBq ZT) wID rfl rfl rfl rfl (by decide) (by decide) rfl rfl bb ay ?_
 intro cO aw dL
 let B7:Res:=.row (some ⟨aw,0,none⟩) ac.length 46 6 (hD wAE ac)
 have cx:sW w U ai [B7,.blk b6 28 B1,.blk b2 28 B0] cO:=dL
 refine OKS.both ?_ ?_
 refine yd (sz:=2) (enc:=wAF) (z:=(⟨0,0⟩:wAI)) (v:=jV 0) rfl rfl rfl rfl rfl (wBq Za) wIC rfl rfl rfl rfl (by decide) (by decide) rfl rfl ba cx ?_
 intro cP bk dM
 let B8:Res:=.row (some ⟨bk,0,none⟩) ab.length 40 2 (hD wAF ab)
 have dN:sW w U ai [B8,B7,.blk b6 28 B1,.blk b2 28 B0] cP:=dM
 let B9:List Value:=[jV p0.Deadline,.slice (some ⟨bk,0,none⟩) ab.length ab.length,.slice (some ⟨aw,0,none⟩) ac.length ac.length]
 refine oR Z (ZI (pv:=[(0,jV p0.Deadline),(1,.slice (some ⟨bk,0,none⟩) ab.length ab.length),(2,.slice (some ⟨aw,0,none⟩) ac.length ac.length)]) (z:=B1) (cs:=B9) Z (wAH Z (wAH Z (wAH Z wAY))) Zq wFE Z Z) (zy (cs:=B1) Z Z Z Z Z Zq Z dN ?_)
 intro fz cc dO
 refine ZA (j:=0) (vs:=B9) Z Z Z Z dO Z Z Z Z Zb (zB Z) Z Z Z ?_
 intro cQ dP
 have dQ:sW w U ai [.blk cc 28 B9,B8,B7,.blk b6 28 B1,.blk b2 28 B0] cQ:=dP
 refine zb ?_
 have co:=nB aN
 simp only [nK] at co
 obtain ⟨dz,dA⟩:=co
 subst dz
 subst dA
 exact zF ⟨rfl,⟨ai,cc,bk,ab.length,aw,ac.length,rfl,rfl,rfl,(zQ _),(dQ.pick [3,4,0,1,2] _ (by decide) rfl)⟩⟩
 refine zy (cs:=B1) Z Z Z Z Z Zq Z cx ?_
 intro fA bL dR
 refine yd (sz:=2) (enc:=wAF) (z:=(⟨0,0⟩:wAI)) (v:=jV 0) rfl rfl rfl rfl rfl (wBq Za) wIC rfl rfl rfl rfl (by decide) (by decide) rfl rfl ba dR ?_
 intro cR bm dS
 let bS:Res:=.row (some ⟨bm,0,none⟩) ab.length 40 2 (hD wAF ab)
 have dT:sW w U ai [bS,.blk bL 28 B1,B7,.blk b6 28 B1,.blk b2 28 B0] cR:=dS
 let bz:List Value:=[jV p0.Deadline,.slice (some ⟨bm,0,none⟩) ab.length ab.length,.slice (some ⟨aw,0,none⟩) ac.length ac.length]
 refine oR Z (ZI (pv:=[(0,jV p0.Deadline),(1,.slice (some ⟨bm,0,none⟩) ab.length ab.length),(2,.slice (some ⟨aw,0,none⟩) ac.length ac.length)]) (z:=B1) (cs:=bz) Z (wAH Z (wAH Z (wAH Z wAY))) Zq wFE Z Z) (ZA (j:=1) (vs:=bz) Z Z Z Z dT Z Z Z Z Zb (zB Z) Z Z Z ?_)
 intro cS dU
 have dV:sW w U ai [bS,.blk bL 28 bz,B7,.blk b6 28 B1,.blk b2 28 B0] cS:=dU
 refine zb ?_
 have cp:=nB aN
 simp only [nK] at cp
 obtain ⟨dB,dC⟩:=cp
 subst dB
 subst dC
 exact zF ⟨rfl,⟨ai,bL,bm,ab.length,aw,ac.length,rfl,rfl,rfl,(zQ _),(dV.pick [3,4,1,0,2] _ (by decide) rfl)⟩⟩
 refine zy (cs:=B1) Z Z Z Z Z Zq Z ay ?_
 intro fB aq cy
 refine OKS.both ?_ ?_
 refine yd (sz:=2) (enc:=wAF) (z:=(⟨0,0⟩:wAI)) (v:=jV 0) rfl rfl rfl rfl rfl (wBq Za) wIC rfl rfl rfl rfl (by decide) (by decide) rfl rfl ba cy ?_
 intro cU bn dW
 let bA:Res:=.row (some ⟨bn,0,none⟩) ab.length 40 2 (hD wAF ab)
 have dX:sW w U ai [bA,.blk aq 28 B1,.blk b6 28 B1,.blk b2 28 B0] cU:=dW
 refine yd (sz:=6) (enc:=wAE) (z:=(⟨0,0,0,0,0,0⟩:wAC)) (v:=jV 0) rfl rfl rfl rfl rfl (wBq ZT) wID rfl rfl rfl rfl (by decide) (by decide) rfl rfl bb dX ?_
 intro cV bp dZ
 let bT:Res:=.row (some ⟨bp,0,none⟩) ac.length 46 6 (hD wAE ac)
 have d5:sW w U ai [bT,bA,.blk aq 28 B1,.blk b6 28 B1,.blk b2 28 B0] cV:=dZ
 let bB:List Value:=[jV p0.Deadline,.slice (some ⟨bn,0,none⟩) ab.length ab.length,.slice (some ⟨bp,0,none⟩) ac.length ac.length]
 refine oR Z (ZI (pv:=[(0,jV p0.Deadline),(1,.slice (some ⟨bn,0,none⟩) ab.length ab.length),(2,.slice (some ⟨bp,0,none⟩) ac.length ac.length)]) (z:=B1) (cs:=bB) Z (wAH Z (wAH Z (wAH Z wAY))) Zq wFE Z Z) (ZA (j:=2) (vs:=bB) Z Z Z Z d5 Z Z Z Z Zb (zB Z) Z Z Z ?_)
 intro cW d6
 have d7:sW w U ai [bT,bA,.blk aq 28 bB,.blk b6 28 B1,.blk b2 28 B0] cW:=d6
 refine zb ?_
 have cr:=nB aN
 simp only [nK] at cr
 obtain ⟨dD,dE⟩:=cr
 subst dD
 subst dE
 exact zF ⟨rfl,⟨ai,aq,bn,ab.length,bp,ac.length,rfl,rfl,rfl,(zQ _),(d7.pick [3,4,2,1,0] _ (by decide) rfl)⟩⟩
 refine yd (sz:=6) (enc:=wAE) (z:=(⟨0,0,0,0,0,0⟩:wAC)) (v:=jV 0) rfl rfl rfl rfl rfl (wBq ZT) wID rfl rfl rfl rfl (by decide) (by decide) rfl rfl bb cy ?_
 intro cX bq d8
 let bC:Res:=.row (some ⟨bq,0,none⟩) ac.length 46 6 (hD wAE ac)
 have d9:sW w U ai [bC,.blk aq 28 B1,.blk b6 28 B1,.blk b2 28 B0] cX:=d8
 refine yd (sz:=2) (enc:=wAF) (z:=(⟨0,0⟩:wAI)) (v:=jV 0) rfl rfl rfl rfl rfl (wBq Za) wIC rfl rfl rfl rfl (by decide) (by decide) rfl rfl ba d9 ?_
 intro cY br eb
 let bU:Res:=.row (some ⟨br,0,none⟩) ab.length 40 2 (hD wAF ab)
 have ed:sW w U ai [bU,bC,.blk aq 28 B1,.blk b6 28 B1,.blk b2 28 B0] cY:=eb
 let bD:List Value:=[jV p0.Deadline,.slice (some ⟨br,0,none⟩) ab.length ab.length,.slice (some ⟨bq,0,none⟩) ac.length ac.length]
 refine oR Z (ZI (pv:=[(0,jV p0.Deadline),(1,.slice (some ⟨br,0,none⟩) ab.length ab.length),(2,.slice (some ⟨bq,0,none⟩) ac.length ac.length)]) (z:=B1) (cs:=bD) Z (wAH Z (wAH Z (wAH Z wAY))) Zq wFE Z Z) (ZA (j:=2) (vs:=bD) Z Z Z Z ed Z Z Z Z Zb (zB Z) Z Z Z ?_)
 intro cZ ee
 have eh:sW w U ai [bU,bC,.blk aq 28 bD,.blk b6 28 B1,.blk b2 28 B0] cZ:=ee
 refine zb ?_
 have ct:=nB aN
 simp only [nK] at ct
 obtain ⟨dF,dG⟩:=ct
 subst dF
 subst dG
 exact zF ⟨rfl,⟨ai,aq,br,ab.length,bq,ac.length,rfl,rfl,rfl,(zQ _),(eh.pick [3,4,2,0,1] _ (by decide) rfl)⟩⟩
 rintro fq fC ⟨av,ao,am,an,aj,ak,ci,cj,aZ,cM,bw⟩
 refine sR (wEv (.fx 4 .nil .stop)) Z (oR Z (zC Z aZ zq Z yJ) (oL Z (bw.ldB (j:=2) Z Z Z yk (v:=.slice (some ⟨am,0,none⟩) aO.length an) Z) (oR Z (zC Z ci zq Z yJ) (oL Z (bw.ldB (j:=1) Z Z Z yk (v:=.slice aP p0.Skiers.length aR) Z) ?_))))
 have di:=cI.le cL
 have dm:=di.le cM
 refine bnK cK fun aT dn fd=>OKS.copyM (j:=3) (f:=wAF) (m:=aO) (ys:=p0.Skiers) (z:=aT) (a:=0) (n:=aO.length) rfl rfl rfl rfl rfl rfl Za yI bw rfl (fun _=>rfl) (fun _=>rfl) rfl dn rfl (by simp) (.inr (by simp)) rfl (bw.srcS dm) rfl ?_
 intro bZ ep e8
 let aV:Res:=.row (some ⟨am,0,none⟩) an 40 2 (hD wAF aT)
 let bV:Res:=.row (some ⟨aj,0,none⟩) ak 46 6 (hD wAE au)
 have eu:sW w U av [.blk b6 28 B1,.blk b2 28 B0,.blk ao 28 [jV p0.Deadline,.slice (some ⟨am,0,none⟩) aO.length an,.slice (some ⟨aj,0,none⟩) au.length ak],aV,bV] bZ:=ep
 let bE:Res:=.blk ao 28 [jV p0.Deadline,.slice (some ⟨am,0,none⟩) aT.length an,.slice (some ⟨aj,0,none⟩) au.length ak]
 have bx:sW w U av [.blk b6 28 B1,.blk b2 28 B0,bE,aV,bV] bZ:=by simp only [bE,e8];exact eu
 refine eN (sR (wEv (.fx 4 .nil .stop)) Z (oR Z (zC Z aZ zq Z yA) (oL Z (bx.ldB (j:=2) Z Z Z yN (v:=.slice (some ⟨aj,0,none⟩) au.length ak) Z) (oR Z (zC Z ci zq Z yA) (oL Z (bx.ldB (j:=1) Z Z Z yN (v:=.slice aQ p0.Decisions.length aS) Z) ?_)))))
 have dp:=cJ.le cL
 have dq:=dp.le cM
 refine bnK fd fun aU dr fe=>OKS.copyM (j:=4) (f:=wAE) (m:=au) (ys:=p0.Decisions) (z:=aU) (a:=0) (n:=au.length) rfl rfl rfl rfl rfl rfl ZT zw bx rfl (fun _=>rfl) (fun _=>rfl) rfl dr rfl (by simp) (.inr (by simp)) rfl (bx.srcS dq) rfl ?_
 intro bi ey e9
 let az:Res:=.row (some ⟨aj,0,none⟩) ak 46 6 (hD wAE aU)
 have eA:sW w U av [.blk b6 28 B1,.blk b2 28 B0,bE,aV,az] bi:=ey
 let be:Res:=.blk ao 28 [jV p0.Deadline,.slice (some ⟨am,0,none⟩) aT.length an,.slice (some ⟨aj,0,none⟩) aU.length ak]
 have cA:sW w U av [.blk b6 28 B1,.blk b2 28 B0,be,aV,az] bi:=by simp only [be,e9];exact eA
 refine eN (sR gBl Z (oR Z (zC Z aZ zq Z yJ) (oL Z (cA.ldB (j:=2) Z Z Z yk (v:=.slice (some ⟨am,0,none⟩) aT.length an) Z) ?_)))
 have dJ:FnOK Tryz.prog av (.func (.func 132) #[] #[]) wPX wPY (fun x=>wDM x.1 x.2):=⟨132,[],[],rfl,Tryz.call132,fun U1 w1 x y vs le hs ha hm=>by obtain rfl:=ha;exact wIK x.1 x.2 w1 U1 hs  hm⟩
 refine bnK fe fun bP dt ff=>?_
 have eB:sW w U av [aV,.blk b6 28 B1,.blk b2 28 B0,be,az] bi:=cA.pick [3,0,1,2,4] _ (by decide) rfl
 refine zI 1 Z Z Z Z (zJ Z Z Tryz.call131 (zA Z (zA Z zM)) Z) eB (fun hs=>wDu aT (some ⟨am,0,none⟩) an (fun x=>wDM x.1 x.2) (.func (.func 132) #[] #[]) bi av hs dJ ⟨_,_,Z⟩ dt) (.inl Z) ?_
 rintro aY fu fK bj fH eC ⟨rfl,rfl,du⟩
 let aM:Res:=.row (some ⟨am,0,none⟩) an 40 2 (hD wAF bP)
 have eD:sW w U aY [aM,.blk b6 28 B1,.blk b2 28 B0,be,az] bj:=eC
 let bg:Res:=.blk ao 28 [jV p0.Deadline,.slice (some ⟨am,0,none⟩) bP.length an,.slice (some ⟨aj,0,none⟩) aU.length ak]
 have cB:sW w U aY [aM,.blk b6 28 B1,.blk b2 28 B0,bg,az] bj:=by simp only [bg,du];exact eD
 refine eN (sR gBl Z (oR Z (zC Z aZ zq Z yA) (oL Z (cB.ldB (j:=3) Z Z Z yN (v:=.slice (some ⟨aj,0,none⟩) aU.length ak) Z) ?_)))
 have dK:FnOK Tryz.prog aY (.func (.func 134) #[] #[]) wPZ wPa (fun x=>wDN x.1 x.2):=⟨134,[],[],rfl,Tryz.call134,fun U1 w1 x y vs le hs ha hm=>by obtain rfl:=ha;exact wIL x.1 x.2 w1 U1 hs  hm⟩
 refine bnK ff fun cN dv fg=>?_
 have eF:sW w U aY [az,aM,.blk b6 28 B1,.blk b2 28 B0,bg] bj:=cB.pick [4,0,1,2,3] _ (by decide) rfl
 refine zI 1 Z Z Z Z (zJ Z Z Tryz.call133 (zA Z (zA Z zM)) Z) eF (fun hs=>wDS aU (some ⟨aj,0,none⟩) ak (fun x=>wDN x.1 x.2) (.func (.func 134) #[] #[]) bj aY hs dK ⟨_,_,Z⟩ dv) (.inl Z) ?_
 rintro bh fw fL ca fI eG ⟨rfl,rfl,dw⟩
 let bF:Res:=.row (some ⟨aj,0,none⟩) ak 46 6 (hD wAE cN)
 have eH:sW w U bh [bF,aM,.blk b6 28 B1,.blk b2 28 B0,bg] ca:=eG
 let ap:List Value:=[jV p0.Deadline,.slice (some ⟨am,0,none⟩) bP.length an,.slice (some ⟨aj,0,none⟩) cN.length ak]
 have cC:sW w U bh [bF,aM,.blk b6 28 B1,.blk b2 28 B0,.blk ao 28 ap] ca:=by simp only [ap,dw];exact eH
 refine eN (sR gBg Z (oL Z (cC.ldBA (j:=4) Z Z aZ ym Zb (vs:=ap) Z Z) (ZA (j:=2) (vs:=ap) Z Z Z Z cC Z cj Z Z Zb (zB Z) Z Z Z ?_)))
 intro c7 eI
 have cD:sW w U bh [bF,aM,.blk b6 28 ap,.blk b2 28 B0,.blk ao 28 ap] c7:=eI
 refine oA Z Z (eN (zP ?_))
 cases fg
 exact ⟨rfl,_,(wIz (rs:=[.cell 2 28,.tmp 3]) (vs:=[.agg ap.toArray,jV 0]) ⟨⟨_,cj,(wFi ym Zb (cD.blkAt (k:=2) rfl) (vs:=ap) rfl rfl)⟩,⟨rfl,trivial⟩⟩ rfl),bh,_,(cD.pick [1,0] _ (by decide) rfl),(some ⟨am,0,none⟩),an,(some ⟨aj,0,none⟩),ak,rfl,rfl⟩
 intro bN fh
 refine cT Z bN (sR gBt Z (oR Z (ZI (pv:=[]) (z:=B1) (cs:=B1) Z wAY Zq wFE Z Z) (oM Z Z (ZA (j:=0) (vs:=B1) Z Z Z Z cz Z Z Z Z Zb (zB Z) Z Z Z ?_))))
 intro c8 eJ
 have eK:sW w U ai [.blk b6 28 B1,.blk b2 28 B0] c8:=eJ
 refine oA Z Z (eN (zP (zZ ?_)))
 have eM:=eK.nilrow 40 2
 have cE:=eM.nilrow 46 6
 cases fh
 exact ⟨rfl,_,(wIz (rs:=[.cell 2 28,.tmp 3]) (vs:=[.agg B1.toArray,jV x9]) ⟨⟨_,rfl,(wFi ym Zb (cE.blkAt (k:=2) rfl) (vs:=B1) rfl rfl)⟩,⟨rfl,trivial⟩⟩ rfl),ai,_,(cE.pick [1,0] _ (by decide) rfl),none,0,none,0,rfl,rfl⟩
end Go.Proofs.YtlmekamhphnmjaaGreat
namespace Go.Proofs.YtlmekamhphnmjaaGreat
open Go.KL
set_option maxHeartbeats 4000000
theorem wDD {S E:Type} (PY:S->PHeap->List Res->Prop) (PE:E->PHeap->List Res->Prop) (f:S->(Int × wAC)->Option (S ⊕ E)) (y:Nat) (s0:S) (p1:List wAC) (av:Nat) (ak:Option Addr) (am:Nat) (w:World) (L:List Res) (U:PHeap) (hS:St ⟨w,L,U⟩ U L w) (hP:PY s0 U L) (hY:YOK Tryz.prog y wPb PY PE f U) (aN:Cl U av 0 [.slice ak p1.length am]) (bg:Sl U 6 ak am p1.length (hD wAE p1)) {r:S ⊕ E} (hm:wAf f s0 p1=some r):Gv Tryz.prog 135 [.func (.yield y) #[] #[],.pointer (some ⟨av,0,none⟩)] w (ItS w L U PY PE r):=by
 unfold wAf at hm
 refine Gv.of Tryz.func135 Z Tryz.ntmps135 Tryz.results135 Z (sR fL4 Z (oL Z (hS.ldC (f:=0) aN (v:=.slice ak p1.length am) Z Z yN Z) (oR Z (ze Z Z ZT) (oR Z (ZN Z Z Z) (oA Z Z (eN (zU (YM (fun (an,aS) J_ w_=>∃ (U_:PHeap) (ao:List Res),J_ 0=.func (.yield y) #[] #[]/\J_ 1=.pointer (some ⟨av,0,none⟩)/\J_ 3=jV an/\PHeap.Le U U_/\St ⟨w,L,U⟩ U_ ao w_/\PY aS U_ ao) hm ?_ ?_))))))))
 exact ⟨U,L,Z,Z,Z,(zQ _),hS,hP⟩
 rintro ⟨an,aS⟩ bB bu bw ⟨aT,ao,ax,ay,af,aj,ah,az⟩ au aO
 try dsimp only at au
 refine zK (sR fL2 Z (oM Z af (oR Z (yz Z Z Z) (eN ?_))))
 by_cases aa:0 <= an
 have aP:=au;rw [if_pos aa] at aP;replace aa:=zG aa
 refine cT Z aa (kN (zK (zU (sR (wJb gBc) Z (oM Z ax (oM Z af ?_))))))
 have aW:=aN.le aj
 refine oL Z (ah.ldC (f:=0) aW (v:=.slice ak p1.length am) Z ay yN Z) (oM Z af (bnK aP fun ab aq bh=>?_))
 have aX:=bg.le aj
 have q:=aX.el (fun _=>rfl) (wAk aq)
 obtain ⟨bx,bA,aZ,ba⟩:=q
 refine oR Z (ZU Z Z aZ Z ZT zw (wFN aq) (wFh aq)) (oL Z (ah.ldCA (f:=0) ba Z Z ZZ zw (us:=[jV ab.Number,jV ab.Kind,jV ab.Minute,jV ab.Bib,jV ab.Much,jV ab.About]) Z Z) (bnK bh fun bs aY ai=>OKS.yieldT 0 (a:=(an,ab)) Z Z Z Z Z Z (zA Z (zA Z zM)) ah hY aj az Z aY Z ?_))
 rintro ae ap bz aw bn aM ag
 rcases bs with bp | bp
 try dsimp only at ai ag
 obtain ⟨rfl,bk⟩:=ag
 have bb:St ⟨w,L,U⟩ ae ap aw:=aM
 refine oR Z (ZR Z Z) (eN (zg Z (ZE (za (zF (rR fL3 Z (oM Z af (oR Z (ZN Z Z Z) (oA Z Z (zb ?_))))))))))
 have q:=nB ai
 obtain rfl:=q
 exact zF ⟨Z,_,Z,⟨ae,ap,ax,ay,Z,(aj.trans bn),bb,bk⟩⟩
 try dsimp only at ai ag
 obtain ⟨rfl,bm⟩:=ag
 have be:St ⟨w,L,U⟩ ae ap aw:=aM
 refine oR Z (ZR Z Z) (eN (zx Z (zP (zm (zZ ?_)))))
 have q:=wAq ai
 obtain ⟨bq,bi,aU⟩:=q
 have q:=aO bq aU
 obtain rfl:=q
 refine zZ (zm ?_)
 cases bi
 exact ⟨Z,_,(wEr),ae,_,be,bm⟩
 have aQ:=au;rw [if_neg aa] at aQ;replace aa:=zG aa
 refine cF Z aa (ZG (zc ?_))
 have q:=wAq aQ
 obtain ⟨br,bj,aV⟩:=q
 have q:=aO br aV
 obtain rfl:=q
 refine zc (zz ?_)
 cases bj
 exact ⟨Z,_,(wEr),aT,_,ah,az⟩
theorem wDT (p0:List wAC) (ac:Option Addr) (ae:Nat) (w:World) (U:PHeap) (hS:St0 w U []) (an:Sl U 6 ac ae p0.length (hD wAE p0)) {r:Unit} (hm:wAo p0=some r):Gv Tryz.prog 79 [.slice ac p0.length ae] w (wBj w [] U (fun U_ L_ v=>∃ (b0:Nat),v=.func (.func 135) #[] #[.pointer (some ⟨b0,0,none⟩)]/\L_=[]/\Cl U_ b0 0 [.slice ac p0.length ae])):=by
 unfold wAo at hm
 refine Gv.of Tryz.func79 rfl Tryz.ntmps79 Tryz.results79 rfl (sR gBa rfl (ZB (cs:=[.slice ac p0.length ae]) rfl rfl rfl rfl rfl rfl (by rfl) hS ?_))
 intro W1 b2 aj
 have q:=aj.freeze (k:=0) rfl
 obtain ⟨U5,ao,ab,ak⟩:=q
 replace ab:=Cl.of ab
 have am:sW w U U5 [] W1:=ak
 replace ab:Cl U5 b2 0 [.slice ac p0.length ae]:=ab
 refine oA Z Z (eN (sR fL2 Z (oR Z (yW Z zM (zA Z zM)) (oA Z Z (eN (zP ?_))))))
 cases hm
 exact ⟨Z,_,(zj Z),U5,_,am,b2,Z,Z,ab⟩
theorem wJv (p0:wAV) (aW:Option Addr) (aY:Nat) (aX:Option Addr) (aZ:Nat) (w:World) (U:PHeap) (hS:St0 w U []) (cZ:Sl U 2 aW aY p0.Skiers.length (hD wAF p0.Skiers)) (c7:Sl U 6 aX aZ p0.Decisions.length (hD wAE p0.Decisions)) {r:(Option wAX) × Int} (hm:wEl p0=some r):Gv Tryz.prog 34 [.agg #[jV p0.Deadline,.slice aW p0.Skiers.length aY,.slice aX p0.Decisions.length aZ]] w (wBj w [] U (fun U_ L_ v=>match r.1 with | none=>v=.tuple #[.pointer none,jV r.2]/\L_=[] | some d=>∃ (b0:Nat) (A0p01:Option Addr) (c0p01:Nat) (A0p02:Option Addr) (c0p02:Nat) (m0p1:Nat) (es0p1:Array MapEntry) (ck0p1:Nat) (m0p2:Nat) (es0p2:Array MapEntry) (ck0p2:Nat),v=.tuple #[.pointer (some ⟨b0,0,none⟩),jV r.2]/\L_=[.blk b0 210 [jV d.Record.Deadline,.slice A0p01 d.Record.Skiers.length c0p01,.slice A0p02 d.Record.Decisions.length c0p02,.map (some m0p1),.map (some m0p2)],.row A0p01 c0p01 40 2 (hD wAF d.Record.Skiers),.obj m0p1 (.map es0p1 ck0p1),.obj m0p2 (.map es0p2 ck0p2)]/\Sl U_ 6 A0p02 c0p02 d.Record.Decisions.length (hD wAE d.Record.Decisions)/\MpR es0p1 wFZ wFo d.at_/\MpR es0p2 wFa wFp d.about)):=by
 unfold wEl at hm
 refine Go.KX.Gv.ofM Tryz.func34 Z Tryz.ntmps34 Tryz.results34 (zB Z) (sR gBi Z ?_)
 let B0:List Value:=[jV p0.Deadline,.slice aW p0.Skiers.length aY,.slice aX p0.Decisions.length aZ]
 refine ZB (cs:=B0) rfl rfl rfl rfl rfl rfl (by rfl) hS ?_
 intro W1 b2 bE
 refine oA Z Z (oA Z Z (eN (sR (.fl 0 (.fx 1 (wNy gBj) .stop)) Z (oL Z (bE.ldBA (j:=0) Z Z Z ym Zb (vs:=B0) Z Z) ?_))))
 have q:=bnd hm
 obtain ⟨⟨x5,x6⟩,h7,bJ⟩:=q
 try dsimp only at bJ
 refine zI 0 Z Z Z Z (zJ Z Z Tryz.call78 (zA Z zM) Z) bE (fun hs=>wJK p0 aW aY aX aZ W1 U hs cZ c7 h7) (.inr Z) ?_
 rintro U9 dq dJ bR dE cw ⟨ax,az,aq,av,rfl,rfl⟩
 let B1:Res:=.row ax az 40 2 (hD wAF x5.Skiers)
 let B2:Res:=.row aq av 46 6 (hD wAE x5.Decisions)
 have cL:sW w U U9 [B1,B2,.blk b2 28 B0] bR:=cw
 refine oM Z Z (oR Z (ZL Z Z (v:=.agg #[jV x5.Deadline,.slice ax x5.Skiers.length az,.slice aq x5.Decisions.length av]) Z) (oR Z (ZL Z Z (v:=jV x6) Z) (zy (cs:=[jV 0,.slice none 0 0,.slice none 0 0]) Z Z Z Z Z Zq Z cL ?_)))
 intro dx aj cM
 let B3:List Value:=[jV x5.Deadline,.slice ax x5.Skiers.length az,.slice aq x5.Decisions.length av]
 refine ZA (j:=0) (vs:=B3) Z Z Z Z cM Z Z Z Z Zb (zB Z) Z Z Z ?_
 intro bX cN
 have bm:sW w U U9 [.blk aj 28 B3,B1,B2,.blk b2 28 B0] bX:=cN
 refine oA Z Z (eN (zK (sR fL2 Z (oM Z Z (oR Z (Ze Z Z Z) (eN (ifc bJ ?_ ?_)))))))
 intro bj dd
 refine zg (zo (fun h=>h bj.out)) (kN (sR (.fl 0 (.fx 1 (.fx 2 (.fl 3 (.fx 4 (.fx 5 (.fx 6 .nil .stop) .stop) .stop)) .stop) .stop)) Z (oL Z (bm.ldBA (j:=0) Z Z Z ym Zb (vs:=B3) Z Z) (OKS.makeMap Z Z Z Z Z bm ?_))))
 intro dy ah cO
 have df:=MpR.nil wFZ wFo
 refine OKS.makeMap Z Z Z Z Z cO ?_
 intro dz ak cP
 have dg:=MpR.nil wFa wFp
 let B4:List Value:=[jV x5.Deadline,.slice ax x5.Skiers.length az,.slice aq x5.Decisions.length av,.map (some ah),.map (some ak)]
 refine zT rfl rfl rfl rfl (fun _=>ZI (pv:=[(0,.agg B3.toArray),(1,.map (some ah)),(2,.map (some ak))]) (z:=[jV 0,.slice none 0 0,.slice none 0 0,.map none,.map none]) (cs:=B4) rfl (wAH rfl (wAH rfl (wAH rfl wAY))) Tryz.zeroValue210 wMg rfl rfl) (ZB (cs:=B4) rfl rfl rfl rfl rfl rfl (by rfl) cP ?_)
 intro dA ae cQ
 refine zy (cs:=[.pointer none]) Z Z Z Z Z Tryz.zeroValue129 Z cQ ?_
 intro dB an cR
 let B5:List Value:=[.pointer (some ⟨ae,0,none⟩)]
 refine ZA (j:=0) (vs:=B5) Z Z Z Z cR Z Z Z Z Tryz.sizeOf129 (zB Z) Z Z Z ?_
 intro bi cS
 have bn:sW w U U9 [.blk an 129 B5,.blk ae 210 B4,.obj ak (.map #[] 0),.obj ah (.map #[] 0),.blk aj 28 B3,B1,B2,.blk b2 28 B0] bi:=cS
 refine eN (zK (sR (wEA (.fx 5 .nil .stop)) Z (oL Z (bn.ldB (j:=0) Z Z Z Tryz.isAgg129 (v:=.pointer (some ⟨ae,0,none⟩)) Z) (oR Z (ZJ Z Z) (oR Z (zC Z Z yb Z Zb) (oR Z (zC Z Z zq Z yA) (oL Z (bn.ldB (j:=1) Z Z Z yN (v:=.slice aq x5.Decisions.length av) Z) ?_)))))))
 have q:=bn.freezeR (k:=6) (n:=x5.Decisions.length) rfl (wAG (f:=wAE) (sz:=6) (fun _=>rfl) x5.Decisions) (by decide)
 obtain ⟨br,dG,bK,cU⟩:=q
 have cV:sW w U br [.blk an 129 B5,.blk ae 210 B4,.obj ak (.map #[] 0),.obj ah (.map #[] 0),.blk aj 28 B3,B1,.blk b2 28 B0] bi:=cU
 have q:=bnd dd
 obtain ⟨⟨⟩,cj,bI⟩:=q
 try dsimp only at bI
 refine zI 0 Z Z Z Z (zJ Z Z Tryz.call79 (zA Z zM) Z) cV (fun hs=>wDT x5.Decisions aq av bi br hs bK cj) (.inr Z) ?_
 rintro bs du dK bY di cW ⟨bw,rfl,rfl,cm⟩
 have cX:sW w U bs [.blk an 129 B5,.blk ae 210 B4,.obj ak (.map #[] 0),.obj ah (.map #[] 0),.blk aj 28 B3,B1,.blk b2 28 B0] bY:=cW
 refine eN (zU (yg fun be bk=>?_))
 have bA:be 6=.pointer (some ⟨an,0,none⟩):=(bk 6).trans rfl
 have cd:be 27=.func (.func 135) #[] #[.pointer (some ⟨bw,0,none⟩)]:=(bk 27).trans rfl
 clear bk
 refine bnK bI fun bO da bF=>?_
 have bB:=bK.le di
 refine CK.rangeY (S:=(List (Int × wAC))) (E:=Empty) (ar:=wPb) (PY:=(fun (bL:(List (Int × wAC))) (U_:PHeap) (L_:List Res)=>∃ (aw:Array MapEntry) (aM:Nat),L_=[.blk an 129 B5,.row ax az 40 2 (hD wAF x5.Skiers),.blk ae 210 B4,.obj ak (.map #[] 0),.obj ah (.map aw aM),.blk aj 28 B3,.blk b2 28 B0]/\MpR aw wFZ wFo bL)) (PE:=(fun (_:Empty) _ _=>False)) (exO:=Empty.elim) (s0:=([]:List (Int × wAC))) (rr:=bO) cd Tryz.call135 (cX.pick [0,5,1,2,3,4,6] _ (by decide) rfl) (by decide) (fun _ _ _ h=>by obtain rfl:=h;rfl) (fun e=>nomatch e) ⟨#[],0,rfl,df⟩ (fun l w1 L1 PY' PE' ct cp cY=>wDD PY' PE' _ l _ x5.Decisions bw aq av w1 L1 bs ct cp cY cm bB da) ?_ ?_
 rintro aR dI dD bL aa dL dH ba dr dn bq aS dF cx cr c8 bp bb aO
 obtain ⟨aw,aM,rfl,cg⟩:=cr
 obtain rfl:=c8
 replace aO:∀ t,bb t=upd (upd be 28 (jV aa.1)) 29 (.agg #[jV aa.2.Number,jV aa.2.Kind,jV aa.2.Minute,jV aa.2.Bib,jV aa.2.Much,jV aa.2.About]) t:=aO
 have dC:bb 28=jV aa.1:=(aO 28).trans ((wDI _ _ (by decide)).trans (wDi _ _ _))
 have ca:bb 29=.agg #[jV aa.2.Number,jV aa.2.Kind,jV aa.2.Minute,jV aa.2.Bib,jV aa.2.Much,jV aa.2.About]:=(aO 29).trans (wDi _ _ _)
 have cc:bb 6=.pointer (some ⟨an,0,none⟩):=(aO 6).trans ((wDI _ _ (by decide)).trans ((wDI _ _ (by decide)).trans bA))
 clear aO
 have cy:St aS ba [.obj aR bq,.blk an 129 B5,B1,.blk ae 210 B4,.obj ak (.map #[] 0),.obj ah (.map aw aM),.blk aj 28 B3,.blk b2 28 B0] dn:=cx
 try dsimp only at bp
 refine rR (.fx 0 (.fx 1 .nil .stop) .stop) Z (zy (cs:=[jV 0,jV 0,jV 0,jV 0,jV 0,jV 0]) Z Z Z Z Z yH Z cy ?_)
 intro dv aT cz
 let B6:List Value:=[jV aa.2.Number,jV aa.2.Kind,jV aa.2.Minute,jV aa.2.Bib,jV aa.2.Much,jV aa.2.About]
 refine ZA (j:=0) (vs:=B6) Z Z Z Z cz Z Z ca Z zw (zB Z) Z Z Z ?_
 intro bS cA
 have cB:St aS ba [.blk aT 46 B6,.obj aR bq,.blk an 129 B5,B1,.blk ae 210 B4,.obj ak (.map #[] 0),.obj ah (.map aw aM),.blk aj 28 B3,.blk b2 28 B0] bS:=cA
 refine zb ⟨rfl,rfl,_,_,(cB.pick [1,0,2,3,4,5,6,7,8] [.obj aR bq,.blk aT 46 B6,.blk an 129 B5,B1,.blk ae 210 B4,.obj ak (.map #[] 0),.obj ah (.map aw aM),.blk aj 28 B3,.blk b2 28 B0] (by decide) rfl),fun bh bM cC=>?_⟩
 have cD:St aS ba [.obj aR bM,.blk aT 46 B6,.blk an 129 B5,B1,.blk ae 210 B4,.obj ak (.map #[] 0),.obj ah (.map aw aM),.blk aj 28 B3,.blk b2 28 B0] bh:=cC
 refine zU (zK (ZQ ZK [1,3,3,1,3,1,1,0] (wMF (.fx 7 .nil .stop)) (by kernel_rfl) ?_))
 have aN:=cD.drew
 generalize hw_W167:({ bh with drawn:=bh.drawn + 1 }:World)=dw at aN ⊢
 refine zn rfl rfl rfl rfl (aN.ldB (j:=2) rfl rfl cc Tryz.isAgg129 (v:=.pointer (some ⟨ae,0,none⟩)) rfl) rfl (zT rfl rfl rfl rfl (fun _=>ZJ rfl rfl) (zT rfl rfl rfl rfl (fun _=>zC rfl rfl yb rfl Tryz.sizeOf207) (zn rfl rfl rfl rfl (aN.ldB (j:=4) rfl rfl rfl Tryz.isAgg207 (v:=.map (some ah)) rfl) rfl (zT rfl rfl rfl rfl (fun _=>zC rfl rfl zd rfl zD) (zn rfl rfl rfl rfl (aN.ldB (j:=1) rfl rfl rfl zN (v:=jV aa.2.Number) rfl) rfl (zn rfl rfl rfl rfl (aN.ldBA (j:=1) rfl rfl rfl ZZ zw (vs:=B6) rfl rfl) rfl (OKS.mapPut (x:=.tmp 33) (y:=.tmp 35) (z:=.tmp 36) (j:=6) (mk:=wFZ) (mv:=wFo) (a:=aa.2.Number) (v:=aa.2) rfl rfl rfl (by first | exact .inl rfl | exact .inr rfl) aN rfl rfl rfl rfl (wBq Tryz.runUnderlying207) wOb cg rfl ?_)))))))
 intro bz bx bT de cE
 have bC:St aS ba [.obj aR bM,.blk aT 46 B6,.blk an 129 B5,B1,.blk ae 210 B4,.obj ak (.map #[] 0),.obj ah (.map bz bx),.blk aj 28 B3,.blk b2 28 B0] bT:=cE
 refine eN (sR fL3 Z (oR Z (zC Z Z zd Z zD) (oL Z (bC.ldB (j:=1) Z Z Z zN (v:=jV aa.2.About) Z) (oR Z (yP Z Z Z) (eN ?_)))))
 by_cases au:0 < aa.2.About
 have bG:=bp;rw [if_pos au] at bG;replace au:=zG au
 refine cT Z au ?_
 cases bG
 have bH:=bp;rw [if_neg au] at bH;replace au:=zG au
 refine cF Z au (ZE (za ?_))
 have q:=nB bH
 obtain rfl:=q
 exact ⟨_,_,(bC.pick [0,2,3,4,5,6,7,8] _ (by decide) rfl),rfl,⟨bz,bx,rfl,de⟩⟩
 rintro bN bg dt bU dh cG
 rcases bO with dM | bZ
 try dsimp only at bF
 rintro ⟨aV,aU,rfl,ch⟩
 have bD:sW w U bg [.blk an 129 B5,B1,.blk ae 210 B4,.obj ak (.map #[] 0),.obj ah (.map aV aU),.blk aj 28 B3,.blk b2 28 B0,.obj bN (.deferred (some []))] bU:=cG
 refine za (zF (sR fL3 Z (oL Z (bD.ldB (j:=0) Z Z bA Tryz.isAgg129 (v:=.pointer (some ⟨ae,0,none⟩)) Z) (oA Z Z (oA Z Z (eN (zP ?_)))))))
 have ci:=bB.le dh
 refine wEc (by first | exact .inl rfl | exact .inr rfl) (rbs:=[bN]) (L:=[.blk an 129 B5,B1,.blk ae 210 B4,.obj ak (.map #[] 0),.obj ah (.map aV aU),.blk aj 28 B3,.blk b2 28 B0]) bD fun bV cH=>?_
 have cI:sW w U bg [.blk an 129 B5,B1,.blk ae 210 B4,.obj ak (.map #[] 0),.obj ah (.map aV aU),.blk aj 28 B3,.blk b2 28 B0] bV:=cH
 cases bF
 exact ⟨_,(wHm rfl rfl),bg,_,(cI.pick [2,1,4,3] _ (by decide) rfl),ae,ax,az,aq,av,ah,aV,aU,ak,#[],0,rfl,rfl,ci,ch,dg⟩
 exact bZ.elim
 intro bj db
 refine cT Z bj (sR fL3 rfl (zO rfl rfl rfl rfl rfl rfl (ye rfl rfl rfl rfl rfl rfl (ye rfl rfl rfl rfl rfl rfl (eN (zP (zZ (wEc (by first | exact .inl rfl | exact .inr rfl) (rbs:=[]) (L:=[.blk aj 28 B3,B1,B2,.blk b2 28 B0]) bm fun bW cJ=>?_))))))))
 have cK:sW w U U9 [.blk aj 28 B3,B1,B2,.blk b2 28 B0] bW:=cJ
 cases db
 exact ⟨_,(wHm rfl rfl),U9,_,(cK.pick [] _ (by decide) rfl),rfl,rfl⟩
theorem wHh (p0:Int) (w:World) (U:PHeap) (hS:St0 w U [])  {r:Bool} (hm:wEG p0=some r):Gv Tryz.prog 140 [jV p0] w (wBj w [] U (fun U_ L_ v=>v=.bool r/\L_=[])):=by
 unfold wEG at hm
 refine Gv.of Tryz.func140 Z Tryz.ntmps140 Tryz.results140 Z (sR fL1 Z (oA Z Z (eN (sR fL7 Z (oM Z Z (oR Z (Zw Z Z Z) (oM Z Z ?_)))))))
 by_cases c1:p0=4
 have ae:=hm;rw [if_pos c1] at ae;replace c1:=zG c1
 refine oT Z c1 (oT Z c1 (oR Z (zV Z (ZO c1.out) Z) (oA Z Z (eN (zP ?_)))))
 have hE:=nB ae;first | subst r | cases hE
 exact ⟨Z,_,(zj Z),U,_,hS,Z,Z⟩
 have ab:=hm;rw [if_neg c1] at ab;replace c1:=zG c1
 refine zO Z Z Z (wF Z c1) Z Z (rU Z (wF Z c1) (Zw Z Z Z) (oR Z (zS Z (zo c1.out) Z) (oA Z Z (eN (zP ?_)))))
 first | (obtain rfl:=nB ab) | cases ab
 exact ⟨Z,_,(zj Z),U,_,hS,Z,Z⟩
theorem wHi (p0:wAX) (an:Nat) (ak:Option Addr) (ao:Nat) (am:Option Addr) (ap:Nat) (aq:Nat) (aS:Array MapEntry) (aU:Nat) (au:Nat) (aT:Array MapEntry) (aV:Nat) (p1:wAC) (w:World) (U:PHeap) (hS:St0 w U []) (aO:Cl U an 0 [jV p0.Record.Deadline,.slice ak p0.Record.Skiers.length ao,.slice am p0.Record.Decisions.length ap,.map (some aq),.map (some au)]) (aX:Sl U 2 ak ao p0.Record.Skiers.length (hD wAF p0.Record.Skiers)) (aY:Sl U 6 am ap p0.Record.Decisions.length (hD wAE p0.Record.Decisions)) (aZ:MpF U aq aS aU wFZ wFo p0.at_) (ba:MpF U au aT aV wFa wFp p0.about) {r:Bool} (hm:wDc p0 p1=some r):Gv Tryz.prog 83 [.pointer (some ⟨an,0,none⟩),.agg #[jV p1.Number,jV p1.Kind,jV p1.Minute,jV p1.Bib,jV p1.Much,jV p1.About]] w (wBj w [] U (fun U_ L_ v=>v=.bool r/\L_=[])):=by
 unfold wDc at hm
 refine Gv.of Tryz.func83 Z Tryz.ntmps83 Tryz.results83 Z (sR gBa Z ?_)
 let B0:List Value:=[jV p1.Number,jV p1.Kind,jV p1.Minute,jV p1.Bib,jV p1.Much,jV p1.About]
 refine ZB (cs:=B0) rfl rfl rfl rfl rfl rfl (by rfl) hS ?_
 intro W1 b2 aN
 refine ye rfl rfl rfl rfl rfl rfl (eN (zK (ZQ ZK [3,1,2,3,3,1,3,3,3,3,1,3,3,3] (.fl 0 (.fl 1 (.fx 2 (wPy (.nil)) .stop))) (by kernel_rfl) ?_)))
 have ag:=aN.drew
 generalize hw_W6:({ W1 with drawn:=W1.drawn + 1 }:World)=W6 at ag ⊢
 refine oR Z (zC Z Z zd Z Zi) (oL Z (ag.ldB (j:=0) Z Z Z Zo (v:=jV p1.Kind) Z) (bnK hm fun x7 h8 aQ=>zI 0 Z Z Z Z (zJ Z Z Tryz.call140 (zA Z zM) Z) ag (fun hs=>wHh p1.Kind W6 U hs h8) (.inr Z) ?_))
 rintro af aW bb av aR aM ⟨rfl,rfl⟩
 have ae:sW w U af [.blk b2 46 B0] av:=aM
 refine oM Z Z (ifc aQ ?_ ?_)
 intro aa aj
 refine zT Z Z Z (zL Z Z (congrArg hM aa.out)) (fun _=>zC Z Z zd Z zD) (zn Z Z Z (zL Z Z (congrArg hM aa.out)) (ae.ldB (j:=0) Z Z Z zN (v:=jV p1.Minute) Z) Z (zO Z Z Z (zL Z Z (congrArg hM aa.out)) Z Z (zT Z Z Z (zL Z Z (congrArg hM aa.out)) (fun _=>ZJ Z Z) (zT Z Z Z (zL Z Z (congrArg hM aa.out)) (fun _=>zC Z Z yb Z Zb) (zT Z Z Z (zL Z Z (congrArg hM aa.out)) (fun _=>zC Z Z zq Z zD) ?_)))))
 have ay:=aO.le aR
 refine zn Z Z Z (zL Z Z (congrArg hM aa.out)) (ae.ldC (f:=0) ay (v:=jV p0.Record.Deadline) Z Z zN Z) Z (zT Z Z Z (zL Z Z (congrArg hM aa.out)) (fun _=>yP Z Z Z) (oR Z (zV Z (congrArg hM aa.out) Z) (oA Z Z (eN (zP ?_)))))
 first | (obtain rfl:=nB aj) | cases aj
 exact ⟨rfl,_,(zj rfl),af,_,(ae.pick [] _ (by decide) rfl),rfl,rfl⟩
 intro aa aP
 refine zW Z Z Z (zY Z Z (congrArg hM (nA.2 aa.out)) Z) (zW Z Z Z (zY Z Z (congrArg hM (nA.2 aa.out)) Z) (zW Z Z Z (zY Z Z (congrArg hM (nA.2 aa.out)) Z) (zW Z Z Z (zY Z Z (congrArg hM (nA.2 aa.out)) Z) (zW Z Z Z (zY Z Z (congrArg hM (nA.2 aa.out)) Z) (zW Z Z Z (zY Z Z (congrArg hM (nA.2 aa.out)) Z) (zW Z Z Z (zY Z Z (congrArg hM (nA.2 aa.out)) Z) (zW Z Z Z (zY Z Z (congrArg hM (nA.2 aa.out)) Z) (oR Z (zS Z (congrArg hM (nA.2 aa.out)) Z) (oA Z Z (eN (zP ?_)))))))))))
 have hE:=nB aP;first | subst r | cases hE
 exact ⟨rfl,_,(zj rfl),af,_,(ae.pick [] _ (by decide) rfl),rfl,rfl⟩
theorem wFH (p0:wAC) (p1:(Int->Option Bool)) (an:Value) (p2:wAX) (aO:Nat) (am:Nat) (aM:Option Addr) (aQ:Nat) (aN:Option Addr) (aR:Nat) (aS:Nat) (bn:Array MapEntry) (bq:Nat) (ak:Nat) (bp:Array MapEntry) (br:Nat) (p3:Unit) (aP:Nat) (w:World) (U:PHeap) (hS:St0 w U []) (bK:FnOK Tryz.prog U an wOY wOZ p1) (bg:Cl U aO 0 [.pointer (some ⟨am,0,none⟩)]) (bh:Cl U am 0 [jV p2.Record.Deadline,.slice aM p2.Record.Skiers.length aQ,.slice aN p2.Record.Decisions.length aR,.map (some aS),.map (some ak)]) (bL:Sl U 2 aM aQ p2.Record.Skiers.length (hD wAF p2.Record.Skiers)) (bM:Sl U 6 aN aR p2.Record.Decisions.length (hD wAE p2.Record.Decisions)) (bN:MpF U aS bn bq wFZ wFo p2.at_) (bi:MpF U ak bp br wFa wFp p2.about) {r:wAC × Bool} (hm:wDk p0 p1 p2 p3=some r):Gv Tryz.prog 84 [.agg #[jV p0.Number,jV p0.Kind,jV p0.Minute,jV p0.Bib,jV p0.Much,jV p0.About],an,.pointer (some ⟨aO,0,none⟩),.pointer (some ⟨aP,0,none⟩)] w (wBj w [] U (fun U_ L_ v=>v=.tuple #[.agg #[jV r.1.Number,jV r.1.Kind,jV r.1.Minute,jV r.1.Bib,jV r.1.Much,jV r.1.About],.bool r.2]/\L_=[])):=by
 unfold wDk at hm
 refine Gv.of Tryz.func84 Z Tryz.ntmps84 Tryz.results84 Z (sR gBh Z ?_)
 let B0:List Value:=[jV p0.Number,jV p0.Kind,jV p0.Minute,jV p0.Bib,jV p0.Much,jV p0.About]
 refine ZB (cs:=B0) rfl rfl rfl rfl rfl rfl (by rfl) hS ?_
 intro W1 b2 aZ
 let B1:List Value:=[jV 0,jV 0,jV 0,jV 0,jV 0,jV 0]
 refine zy (cs:=B1) Z Z Z Z Z yH Z aZ ?_
 intro W5 b6 be
 refine ye rfl rfl rfl rfl rfl rfl (eN (zK (zK (ZQ ZK [1,3,3,1,3,1,1,3,3] fL9 (by kernel_rfl) ?_))))
 have ae:=be.drew
 generalize hw_W10:({ W5 with drawn:=W5.drawn + 1 }:World)=bz at ae ⊢
 refine oL Z (ae.ldC (f:=0) bg (v:=.pointer (some ⟨am,0,none⟩)) Z Z Tryz.isAgg129 Z) (oR Z (ZJ Z Z) (oR Z (zC Z Z yb Z Tryz.sizeOf208) (oL Z (ae.ldC (f:=4) bh (v:=.map (some ak)) Z Z Tryz.isAgg208 Z) (oR Z (zC Z Z zd Z zD) (oL Z (ae.ldB (j:=1) Z Z Z zN (v:=jV p0.Number) Z) (oL Z (ae.lookupF1 (mk:=wFa) (mv:=wFp) (a:=p0.Number) (z:=()) bi Z Z Z (wBq Tryz.runUnderlying208) wMl Tryz.zeroValue26) (oR Z (ze Z Z ZT) (oM Z Z (eN (zU ?_))))))))))
 have q:=bnd hm
 obtain ⟨⟨⟩,bj,ax⟩:=q
 try dsimp only at ax
 have q:=wBM bj
 obtain ⟨aj,bk⟩:=q
 replace aj:=zG aj
 refine CK.forN' (fun af _ J_ w_=>∃ (U_:PHeap),J_ 18=jV (↑af:Int)/\J_ 1=an/\J_ 3=.pointer (some ⟨aP,0,none⟩)/\J_ 6=.pointer (some ⟨b6,0,none⟩)/\J_ 16=.slice none 0 0/\J_ 17=jV 0/\PHeap.Le U U_/\sW w U U_ [.blk b6 46 B1,.blk b2 46 B0] w_) bk ?_ ?_ ?_
 exact ⟨U,Z,Z,Z,Z,Z,Z,(zQ _),ae⟩
 rintro af ⟨⟩ bR bs bA ai ⟨bw,aX,bC,bD,bE,bF,aV,bP,bJ⟩ ay
 try dsimp only at ay
 have au:Hid ((↑af:Int) < 0):=zG (wBR ai)
 replace ai:=zG ai
 have bO:Hid (w64 ((↑af:Int) + 1)=(↑(af + 1):Int)):=zG (by have h1:=aj.out;have h2:=au.out;rw [wAa] <;> omega)
 refine sR fL1 Z (oR Z (zR Z aX aV) (eN (zK (cT Z au (kN (zK (zU (sR gBu Z ?_))))))))
 cases ay
 rintro bu bB ⟨ao,aY,bG,bH,av,bI,aW,bQ,ba⟩
 have aU:Hid (¬ ((↑((0:Int) - 0).toNat:Int) < 0)):=zG (wAr)
 refine sR fL1 Z (oR Z (zR Z aY aW) (eN (zK (cF Z aU (ZG (zc (zc (zz (zF (sR gBg Z (oR Z (ZI (pv:=[]) (z:=B1) (cs:=B1) Z wAY yH wJE Z Z) (ZA (j:=0) (vs:=B1) Z Z Z Z ba Z av Z Z zw (zB Z) Z Z Z ?_))))))))))))
 intro aT bb
 have aw:sW w U ao [.blk b6 46 B1,.blk b2 46 B0] aT:=bb
 refine oA Z Z (eN (zP ?_))
 cases ax
 exact ⟨rfl,_,(wIz (rs:=[.cell 6 46,.tmp 7]) (vs:=[.agg B1.toArray,.bool false]) ⟨⟨_,av,(wFi ZZ zw (aw.blkAt (k:=0) rfl) (vs:=B1) rfl rfl)⟩,⟨rfl,trivial⟩⟩ rfl),ao,_,(aw.pick [] _ (by decide) rfl),rfl,rfl⟩
theorem wHQ (p0:Int) (w:World) (U:PHeap) (hS:St0 w U [])  {r:Bool} (hm:wDO p0=some r):Gv Tryz.prog 86 [jV p0] w (wBj w [] U (fun U_ L_ v=>v=.bool r/\L_=[])):=by
 unfold wDO at hm
 refine Gv.of Tryz.func86 Z Tryz.ntmps86 Tryz.results86 Z (sR fL1 Z (oA Z Z (eN (sR fL7 Z (oM Z Z (oR Z (Zw Z Z Z) (oM Z Z ?_)))))))
 by_cases c1:p0=8
 have ae:=hm;rw [if_pos c1] at ae;replace c1:=zG c1
 refine oT Z c1 (oT Z c1 (oR Z (zV Z (ZO c1.out) Z) (oA Z Z (eN (zP ?_)))))
 have hE:=nB ae;first | subst r | cases hE
 exact ⟨Z,_,(zj Z),U,_,hS,Z,Z⟩
 have ab:=hm;rw [if_neg c1] at ab;replace c1:=zG c1
 refine zO Z Z Z (wF Z c1) Z Z (rU Z (wF Z c1) (Zw Z Z Z) (oR Z (zS Z (zo c1.out) Z) (oA Z Z (eN (zP ?_)))))
 first | (obtain rfl:=nB ab) | cases ab
 exact ⟨Z,_,(zj Z),U,_,hS,Z,Z⟩
theorem wGx (p0:wAC) (p1:List (Int × Bool)) (az:Nat) (ab:Nat) (af:Array MapEntry) (ah:Nat) (p2:wAX) (ba:Nat) (pq2d:Nat) (pA2d_0_1:Option Addr) (pc2d_0_1:Nat) (pA2d_0_2:Option Addr) (pc2d_0_2:Nat) (pm2d_1:Nat) (pe2d_1:Array MapEntry) (pk2d_1:Nat) (pm2d_2:Nat) (pe2d_2:Array MapEntry) (pk2d_2:Nat) (p3:wAX) (bb:Nat) (aN:Nat) (aY:Option Addr) (bg:Nat) (aZ:Option Addr) (bh:Nat) (bi:Nat) (bX:Array MapEntry) (bZ:Nat) (aM:Nat) (bY:Array MapEntry) (ca:Nat) (p4:Unit) (be:Nat) (w:World) (U:PHeap) (hS:St0 w U [.obj ab (.map af ah)]) (aT:Cl U az 0 [.map (some ab)]) (aw:MpR af wED wEL p1) (bJ:Cl U ba 0 [.func (.func 83) #[.pointer (some ⟨pq2d,0,none⟩)] #[]]) (bK:Cl U pq2d 0 [jV p2.Record.Deadline,.slice pA2d_0_1 p2.Record.Skiers.length pc2d_0_1,.slice pA2d_0_2 p2.Record.Decisions.length pc2d_0_2,.map (some pm2d_1),.map (some pm2d_2)]) (bL:Sl U 2 pA2d_0_1 pc2d_0_1 p2.Record.Skiers.length (hD wAF p2.Record.Skiers)) (bM:Sl U 6 pA2d_0_2 pc2d_0_2 p2.Record.Decisions.length (hD wAE p2.Record.Decisions)) (bN:MpF U pm2d_1 pe2d_1 pk2d_1 wFZ wFo p2.at_) (bO:MpF U pm2d_2 pe2d_2 pk2d_2 wFa wFp p2.about) (bP:Cl U bb 0 [.pointer (some ⟨aN,0,none⟩)]) (bQ:Cl U aN 0 [jV p3.Record.Deadline,.slice aY p3.Record.Skiers.length bg,.slice aZ p3.Record.Decisions.length bh,.map (some bi),.map (some aM)]) (cA:Sl U 2 aY bg p3.Record.Skiers.length (hD wAF p3.Record.Skiers)) (cB:Sl U 6 aZ bh p3.Record.Decisions.length (hD wAE p3.Record.Decisions)) (cC:MpF U bi bX bZ wFZ wFo p3.at_) (bI:MpF U aM bY ca wFa wFp p3.about) {r:Bool × (List (Int × Bool))} (hm:wCy p0 p1 p2 p3 p4=some r):Gv Tryz.prog 85 [.agg #[jV p0.Number,jV p0.Kind,jV p0.Minute,jV p0.Bib,jV p0.Much,jV p0.About],.pointer (some ⟨az,0,none⟩),.pointer (some ⟨ba,0,none⟩),.pointer (some ⟨bb,0,none⟩),.pointer (some ⟨be,0,none⟩)] w (wBj w [.obj ab (.map af ah)] U (fun U_ L_ v=>∃ (es_0:Array MapEntry) (ck_0:Nat),v=.bool r.1/\L_=[.obj ab (.map es_0 ck_0)]/\MpR es_0 wED wEL r.2)):=by
 unfold wCy at hm
 refine Gv.of Tryz.func85 Z Tryz.ntmps85 Tryz.results85 Z (sR gBa Z ?_)
 let B0:List Value:=[jV p0.Number,jV p0.Kind,jV p0.Minute,jV p0.Bib,jV p0.Much,jV p0.About]
 refine ZB (cs:=B0) rfl rfl rfl rfl rfl rfl (by rfl) hS ?_
 intro W2 b3 ai
 refine oA Z Z (eN (zK (sR fL9 Z (oL Z (ai.ldC (f:=0) aT (v:=.map (some ab)) Z Z Tryz.isAgg178 Z) (oR Z (zC Z Z zd Z zD) (oL Z (ai.ldB (j:=0) Z Z Z zN (v:=jV p0.Number) Z) (oL Z (ai.lookup2 (j:=1) (mk:=wED) (mv:=wEL) (a:=p0.Number) (z:=false) Z Z Z Z (wBq yD) wFb Tryz.zeroValue4 aw) (oM Z Z (oR Z (ZL Z Z (v:=.bool (wDn p1 p0.Number false)) Z) (oR Z (ZL Z Z (v:=.bool (wNQ p1 p0.Number)) Z) (oA Z Z (oA Z Z (eN (sR fL1 Z (oM Z Z (eN ?_))))))))))))))))
 by_cases c6:(wNQ p1 p0.Number)=true
 have aV:=hm;rw [if_pos c6] at aV;replace c6:=zG c6
 refine zx (congrArg hM c6.out) (sR fL2 Z (oM Z Z (oA Z Z (eN (zP (zZ ?_))))))
 cases aV
 exact ⟨rfl,_,(zj rfl),U,_,(ai.pick [1] _ (by decide) rfl),af,ah,rfl,rfl,aw⟩
 have aW:=hm;rw [if_neg c6] at aW;replace c6:=zG c6
 refine zg (congrArg hM (nA.2 c6.out)) (kN (sR gBy Z (oL Z (ai.ldC (f:=0) bJ (v:=.func (.func 83) #[.pointer (some ⟨pq2d,0,none⟩)] #[]) Z Z Tryz.isAgg133 Z) (oL Z (ai.ldBA (j:=0) Z Z Z ZZ zw (vs:=B0) Z Z) (bnK aW fun x9 bx bT=>zI 0 Z Z Z Z (zJ Z Z Tryz.call83 (zA Z zM) Z) ai (fun hs=>wHi p2 pq2d pA2d_0_1 pc2d_0_1 pA2d_0_2 pc2d_0_2 pm2d_1 pe2d_1 pk2d_1 pm2d_2 pe2d_2 pk2d_2 p0 W2 U hs bK bL bM bN bO bx) (.inr Z) ?_)))))
 rintro aq cg cG au ap bE ⟨rfl,rfl⟩
 have bF:SW w [.obj ab (.map af ah)] U aq [.blk b3 46 B0,.obj ab (.map af ah)] au:=bE
 refine zT rfl rfl rfl rfl (fun _=>ZR rfl rfl) (ye rfl rfl rfl rfl rfl rfl (eN (zK (zK (ZQ ZK [1,3,3,1,3,1,1,3,3] fL9 (by kernel_rfl) ?_)))))
 have aj:=bF.drew
 generalize hw_W20:({ au with drawn:=au.drawn + 1 }:World)=ci at aj ⊢
 have bz:=bP.le ap
 refine oL Z (aj.ldC (f:=0) bz (v:=.pointer (some ⟨aN,0,none⟩)) Z Z Tryz.isAgg129 Z) (oR Z (ZJ Z Z) (oR Z (zC Z Z yb Z Tryz.sizeOf208) ?_))
 have bA:=bQ.le ap
 refine oL Z (aj.ldC (f:=4) bA (v:=.map (some aM)) Z Z Tryz.isAgg208 Z) (oR Z (zC Z Z zd Z zD) (oL Z (aj.ldB (j:=0) Z Z Z zN (v:=jV p0.Number) Z) ?_))
 have bB:=bI.le ap
 refine oL Z (aj.lookupF1 (mk:=wFa) (mv:=wFp) (a:=p0.Number) (z:=()) bB Z Z Z (wBq Tryz.runUnderlying208) wMl Tryz.zeroValue26) (oR Z (ze Z Z ZT) (oM Z Z (eN (zU ?_))))
 have q:=bnd bT
 obtain ⟨⟨⟩,bR,aU⟩:=q
 try dsimp only at aU
 have q:=wBM bR
 obtain ⟨ay,bS⟩:=q
 replace ay:=zG ay
 refine CK.forN' (fun am _ J_ w_=>∃ (U_:PHeap),J_ 34=jV (↑am:Int)/\J_ 1=.pointer (some ⟨az,0,none⟩)/\J_ 4=.pointer (some ⟨be,0,none⟩)/\J_ 5=.pointer (some ⟨b3,0,none⟩)/\J_ 9=.bool (!x9)/\J_ 32=.slice none 0 0/\J_ 33=jV 0/\PHeap.Le aq U_/\SW w [.obj ab (.map af ah)] U U_ [.blk b3 46 B0,.obj ab (.map af ah)] w_) bS ?_ ?_ ?_
 exact ⟨aq,Z,Z,Z,Z,Z,Z,Z,(zQ _),aj⟩
 rintro am ⟨⟩ cH cc cj ax ⟨ch,bu,co,cp,cr,ct,cw,bp,cE,cz⟩ aX
 try dsimp only at aX
 have aP:Hid ((↑am:Int) < 0):=zG (wBR ax)
 replace ax:=zG ax
 have cD:Hid (w64 ((↑am:Int) + 1)=(↑(am + 1):Int)):=zG (by have h1:=ay.out;have h2:=aP.out;rw [wAa] <;> omega)
 refine sR fL1 Z (oR Z (zR Z bu bp) (eN (zK (cT Z aP (kN (zK (zU (sR gBu Z ?_))))))))
 cases aX
 rintro cd cm ⟨aO,bw,bq,cx,br,aS,cy,bs,bV,av⟩
 have bn:Hid (¬ ((↑((0:Int) - 0).toNat:Int) < 0)):=zG (wAr)
 refine sR fL1 Z (oR Z (zR Z bw bs) (eN (zK (cF Z bn (ZG (zc (zc (zz (zF (sR (wEv (.fx 4 .nil .stop)) Z ?_))))))))))
 have bC:=aT.le ap
 have bD:=bC.le bV
 refine zn rfl rfl rfl rfl (av.ldC (f:=0) bD (v:=.map (some ab)) rfl bq Tryz.isAgg178 rfl) rfl (zT rfl rfl rfl rfl (fun _=>zC rfl br zd rfl zD) (zn rfl rfl rfl rfl (av.ldB (j:=0) rfl rfl rfl zN (v:=jV p0.Number) rfl) rfl (zO rfl rfl rfl rfl rfl aS (OKS.mapPut (x:=.tmp 74) (y:=.tmp 76) (z:=.tmp 77) (j:=1) (mk:=wED) (mv:=wEL) (a:=p0.Number) (v:=!x9) rfl rfl rfl (by first | exact .inl rfl | exact .inr rfl) av rfl rfl rfl rfl (wBq yD) wFb aw rfl ?_))))
 intro aR aQ bm bU bG
 have bH:SW w [.obj ab (.map af ah)] U aO [.blk b3 46 B0,.obj ab (.map aR aQ)] bm:=bG
 refine eN (sR fL2 Z (oM Z aS (oA Z Z (eN (zP ?_)))))
 cases aU
 exact ⟨rfl,_,(zj rfl),aO,_,(bH.pick [1] _ (by decide) rfl),aR,aQ,rfl,rfl,bU⟩
theorem wGy (p0:wAC) (p1:wAX) (ao:Nat) (pb1e:Nat) (pq1d:Nat) (pA1d_0_1:Option Addr) (pc1d_0_1:Nat) (pA1d_0_2:Option Addr) (pc1d_0_2:Nat) (pm1d_1:Nat) (pe1d_1:Array MapEntry) (pk1d_1:Nat) (pm1d_2:Nat) (pe1d_2:Array MapEntry) (pk1d_2:Nat) (pb1v:Nat) (w:World) (U:PHeap) (hS:St0 w U []) (aP:Cl U ao 0 [.func (.func 84) #[] #[.pointer (some ⟨pb1e,0,none⟩),.pointer (some ⟨pb1v,0,none⟩)]]) (aQ:Cl U pb1e 0 [.pointer (some ⟨pq1d,0,none⟩)]) (aR:Cl U pq1d 0 [jV p1.Record.Deadline,.slice pA1d_0_1 p1.Record.Skiers.length pc1d_0_1,.slice pA1d_0_2 p1.Record.Decisions.length pc1d_0_2,.map (some pm1d_1),.map (some pm1d_2)]) (aS:Sl U 2 pA1d_0_1 pc1d_0_1 p1.Record.Skiers.length (hD wAF p1.Record.Skiers)) (aT:Sl U 6 pA1d_0_2 pc1d_0_2 p1.Record.Decisions.length (hD wAE p1.Record.Decisions)) (aU:MpF U pm1d_1 pe1d_1 pk1d_1 wFZ wFo p1.at_) (aV:MpF U pm1d_2 pe1d_2 pk1d_2 wFa wFp p1.about) {r:wAC × Bool} (hm:wET p0 p1=some r):Gv Tryz.prog 87 [.agg #[jV p0.Number,jV p0.Kind,jV p0.Minute,jV p0.Bib,jV p0.Much,jV p0.About],.pointer (some ⟨ao,0,none⟩)] w (wBj w [] U (fun U_ L_ v=>v=.tuple #[.agg #[jV r.1.Number,jV r.1.Kind,jV r.1.Minute,jV r.1.Bib,jV r.1.Much,jV r.1.About],.bool r.2]/\L_=[])):=by
 unfold wET at hm
 refine Gv.of Tryz.func87 Z Tryz.ntmps87 Tryz.results87 Z (sR gBh Z ?_)
 let B0:List Value:=[jV p0.Number,jV p0.Kind,jV p0.Minute,jV p0.Bib,jV p0.Much,jV p0.About]
 refine ZB (cs:=B0) rfl rfl rfl rfl rfl rfl (by rfl) hS ?_
 intro W1 b2 aO
 let B1:List Value:=[jV 0,jV 0,jV 0,jV 0,jV 0,jV 0]
 refine zy (cs:=B1) Z Z Z Z Z yH Z aO ?_
 intro W5 b6 ah
 refine oA Z Z (eN (sR (.fl 0 (.fl 1 (.fx 2 (.fl 3 (.fl 4 gBd)) .stop))) Z (oL Z (ah.ldC (f:=0) aP (v:=.func (.func 84) #[] #[.pointer (some ⟨pb1e,0,none⟩),.pointer (some ⟨pb1v,0,none⟩)]) Z Z Tryz.isAgg219 Z) (oL Z (ah.ldBA (j:=1) Z Z Z ZZ zw (vs:=B0) Z Z) ?_))))
 have ay:FnOK Tryz.prog U (.func (.func 86) #[] #[]) wOY wOZ wDO:=⟨86,[],[],rfl,Tryz.call86,fun U1 w1 x y vs le hs ha hm=>by obtain rfl:=ha;exact wHQ x w1 U1 hs  hm⟩
 have q:=bnd hm
 obtain ⟨⟨ab,ap⟩,ax,an⟩:=q
 try dsimp only at an
 refine zI 0 Z Z Z Z (zJ Z Z Tryz.call84 (zA Z (zA Z zM)) Z) ah (fun hs=>wFH p0 wDO (.func (.func 86) #[] #[]) p1 pb1e pq1d pA1d_0_1 pc1d_0_1 pA1d_0_2 pc1d_0_2 pm1d_1 pe1d_1 pk1d_1 pm1d_2 pe1d_2 pk1d_2 () pb1v W5 U hs ay aQ aR aS aT aU aV ax) (.inr Z) ?_
 rintro ag aX ba au aZ az ⟨rfl,rfl⟩
 have aM:sW w U ag [.blk b6 46 B1,.blk b2 46 B0] au:=az
 refine oR Z (ZL Z Z (v:=.agg #[jV ab.Number,jV ab.Kind,jV ab.Minute,jV ab.Bib,jV ab.Much,jV ab.About]) Z) (oR Z (ZL Z Z (v:=.bool ap) Z) ?_)
 let B2:List Value:=[jV ab.Number,jV ab.Kind,jV ab.Minute,jV ab.Bib,jV ab.Much,jV ab.About]
 refine ZA (j:=0) (vs:=B2) Z Z Z Z aM Z Z Z Z zw (zB Z) Z Z Z ?_
 intro av aN
 have am:sW w U ag [.blk b6 46 B2,.blk b2 46 B0] av:=aN
 refine oA Z Z (eN (zP ?_))
 cases an
 exact ⟨rfl,_,(wIz (rs:=[.cell 3 46,.tmp 4]) (vs:=[.agg B2.toArray,.bool ap]) ⟨⟨_,rfl,(wFi ZZ zw (am.blkAt (k:=0) rfl) (vs:=B2) rfl rfl)⟩,⟨rfl,trivial⟩⟩ rfl),ag,_,(am.pick [] _ (by decide) rfl),rfl,rfl⟩
end Go.Proofs.YtlmekamhphnmjaaGreat
