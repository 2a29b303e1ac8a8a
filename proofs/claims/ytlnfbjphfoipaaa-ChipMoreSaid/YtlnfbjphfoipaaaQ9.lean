import Derived.Test.YtlnfbjphfoipaaaQ7
import Derived.Test.YtlnfbjphfoipaaaQ6
import Derived.Test.YtlnfbjphfoipaaaQ8
set_option linter.all false
open List renaming flatMap->hD,length_set->nB,getElem_cons_succ->nD,getElem_cons_zero->nE,set->nH,getElem_toArray->nI
open Go.Value renaming bool->hH
open Bool renaming eq_false_iff->hJ
open Option.some renaming inj->nA
namespace Go.Proofs.Ytlnfbjphfoipaaa
open Go.KL
def gEf:Sch:=.fx 0 (.fl 1 .nil) .stop
def gEg:Sch:=.fx 3 (.fl 4 .nil) .stop
def gEh:Sch:=.fx 1 (.fl 2 .nil) .stop
def gEi:Sch:=.fx 0 (.fx 1 .nil .stop) .stop
def gEj:Sch:=.fx 4 (.fx 6 .nil .stop) .stop
def gEk:Sch:=.fx 1 (.fx 2 .nil .stop) .stop
def gEl:Sch:=.fx 6 (.fx 8 .nil .stop) .stop
def gEm:Sch:=.fl 0 (.fx 1 .nil .stop)
def gEn:Sch:=.fl 0 gEh
def gEo:Sch:=.fx 1 (.fl 2 (.fl 3 .nil)) .stop
def gEp:Sch:=.fx 3 gEj .stop
def gEq:Sch:=.fl 0 gEk
def gEr:Sch:=.fx 5 gEl .stop
def gEs:Sch:=.fx 2 gEg .stop
def gEt:Sch:=.fx 2 (.fl 3 (.fl 4 .nil)) .stop
def gEu:Sch:=.fx 0 gEh .stop
def gEv:Sch:=.fx 10 (.fl 11 (.fl 12 .nil)) .stop
def gEw:Sch:=.fx 0 (.fl 1 (.fl 2 .nil)) .stop
def gEx:Sch:=.fl 0 (.fl 1 (.fx 2 .nil .stop))
def gEy:Sch:=.fx 11 (.fx 12 (.fl 13 .nil) .stop) .stop
def gEz:Sch:=.fx 3 gEr .stop
def gFa:Sch:=.fl 0 (.fl 1 (.fx 2 (.fl 3 .nil) .stop))
def gFb:Sch:=.fl 0 (.fl 1 (.fx 2 (.fx 3 .nil .stop) .stop))
def gFc:Sch:=.fx 6 (.fx 7 (.fl 8 (.fl 9 .nil)) .stop) .stop
def gFd:Sch:=.fx 10 gEy .stop
def gFe:Sch:=.fx 9 gEy .stop
def gFf:Sch:=.fl 0 (.fl 1 gEs)
def gFg:Sch:=.fl 0 (.fl 1 gEt)
def gFh:Sch:=.fx 0 (.fx 1 gEt .stop) .stop
def gFi:Sch:=.fl 0 (.fl 1 (.fx 2 (.fx 3 (.fx 4 .nil .stop) .stop) .stop))
def gFj:Sch:=.fl 0 (.fl 2 (.fx 1 (.fx 3 (.fx 4 (.fx 5 (.fx 6 .nil .stop) .stop) (.fx 5 gEj .stop)) (.fx 5 gEp .stop)) (.fx 5 (.fx 1 gEp .stop) .stop)))
def gFk:Sch:=.fl 0 (.fl 1 (.fl 3 (.fx 2 (.fx 4 (.fx 5 (.fx 6 (.fl 7 .nil) .stop) .stop) .stop) .stop)))
def gFl:Sch:=.fl 0 (.fl 1 (.fx 2 (.fl 3 (.fl 5 (.fl 6 (.fl 9 (.fl 10 (.fx 4 (.fl 7 (.fl 8 (.fx 11 (.fl 12 (.fl 13 .nil)) .stop))) .stop)))))) .stop))
set_option maxHeartbeats 4000000
theorem wEb (p0:Int) (p1:wAJ) (p2:Int) (ah:Nat) (w:World) (U:PHeap) (hS:St0 w U []) (ai:Cl U ah 0 [jV p2]) {r:Bool} (hm:wBZ p0 p1 p2=some r):Gv Try.prog 72 [jV p0,.agg #[jV p1.Skier,jV p1.Mat,jV p1.Clock,jV p1.Time],.pointer (some ⟨ah,0,none⟩)] w (wBw w [] U (fun U_ L_ v=>v=.bool r/\L_=[])):=by
 unfold wBZ at hm
 refine Gv.of Try.func72 rfl Try.ntmps72 Try.results72 rfl (sR gEf rfl (zy (cs:=[jV p1.Skier,jV p1.Mat,jV p1.Clock,jV p1.Time]) rfl rfl rfl rfl rfl rfl (by rfl) hS ?_))
 intro W1 b2 af
 refine oA Z Z (eN (sR fL4 Z (oM Z Z (oL Z (af.ldC (f:=0) ai (v:=jV p2) Z Z zG Z) (oR Z (yO Z Z Z) (oA Z Z (eN (zR ?_))))))))
 first | (obtain rfl:=nA hm) | cases hm
 exact ⟨rfl,_,(ZL rfl),U,_,(af.pick [] _ (by decide) rfl),rfl,rfl⟩
theorem wBp (p0:wAE) (am:Option Addr) (ap:Nat) (an:Option Addr) (aq:Nat) (ao:Option Addr) (au:Nat) (a8:Option Addr) (a9:Nat) (p1:((Int × wAJ)->Option Bool)) (bx:Value) (w:World) (U:PHeap) (hS:St0 w U []) (du:Sl U 1 am ap p0.Starts.length (hD KL.encI p0.Starts)) (dv:Sl U 2 an aq p0.Splits.length (hD wAC p0.Splits)) (dw:Sl U 3 ao au p0.Clocks.length (hD wAA p0.Clocks)) (dx:Sl U 4 a8 a9 p0.Readings.length (hD wAB p0.Readings)) (dy:FnOK Try.prog U bx wIz wJA p1) {r:wAX} (hm:wAt p0 p1=some r):Gv Try.prog 64 [.agg #[.slice am p0.Starts.length ap,.slice an p0.Splits.length aq,.slice ao p0.Clocks.length au,.slice a8 p0.Readings.length a9],bx] w (wBw w [] U (fun U_ L_ v=>∃ (b0:Nat) (A0p00:Option Addr) (c0p00:Nat) (A0p01:Option Addr) (c0p01:Nat) (A0p02:Option Addr) (c0p02:Nat) (A0p03:Option Addr) (c0p03:Nat) (m0p1:Nat) (es0p1:Array MapEntry) (ck0p1:Nat) (A0p2:Option Addr) (c0p2:Nat),v=.pointer (some ⟨b0,0,none⟩)/\L_=[.blk b0 124 [.slice A0p00 r.Race.Starts.length c0p00,.slice A0p01 r.Race.Splits.length c0p01,.slice A0p02 r.Race.Clocks.length c0p02,.slice A0p03 r.Race.Readings.length c0p03,.map (some m0p1),.slice A0p2 r.edges.length c0p2],.obj m0p1 (.map es0p1 ck0p1),.row A0p2 c0p2 130 7 (hD wAQ r.edges)]/\Sl U_ 1 A0p00 c0p00 r.Race.Starts.length (hD KL.encI r.Race.Starts)/\Sl U_ 2 A0p01 c0p01 r.Race.Splits.length (hD wAC r.Race.Splits)/\Sl U_ 3 A0p02 c0p02 r.Race.Clocks.length (hD wAA r.Race.Clocks)/\Sl U_ 4 A0p03 c0p03 r.Race.Readings.length (hD wAB r.Race.Readings)/\MpR es0p1 wBD wBJ r.number)):=by
 unfold wAt at hm
 refine Gv.of Try.func64 Z Try.ntmps64 Try.results64 Z (sR gEf Z ?_)
 let B0:List Value:=[.slice am p0.Starts.length ap,.slice an p0.Splits.length aq,.slice ao p0.Clocks.length au,.slice a8 p0.Readings.length a9]
 refine zy (cs:=B0) rfl rfl rfl rfl rfl rfl (by rfl) hS ?_
 intro W1 b2 bY
 refine yI rfl rfl rfl rfl rfl rfl (eN (sR (wDF gEg) rfl (zc rfl rfl rfl rfl (fun _=>zE rfl rfl zI rfl ZO) (ZF rfl rfl rfl rfl (bY.ldB (j:=0) rfl rfl rfl Zs (v:=.slice a8 p0.Readings.length a9) rfl) rfl (zc rfl rfl rfl rfl (fun _=>zx rfl rfl ZN) (bnK hm fun x5 h6 dI=>OKS.makeSliceZ (sz:=4) (enc:=wAB) (z:=(⟨0,0,0,0⟩:wAJ)) (v:=jV 0) rfl rfl rfl rfl rfl (wBj ZN) wHW rfl rfl rfl rfl (by decide) (by decide) rfl rfl h6 bY ?_))))))
 intro W8 b9 cY
 have bp:sW w U U [.row (some ⟨b9,0,none⟩) x5.length 39 4 (hD wAB x5),.blk b2 28 B0] W8:=cY
 refine yI rfl rfl rfl rfl rfl rfl (eN (sR (wDF (.fx 3 .nil .stop)) rfl (zw rfl rfl rfl rfl rfl rfl (zc rfl rfl rfl rfl (fun _=>zE rfl rfl zI rfl ZO) (ZF rfl rfl rfl rfl (bp.ldB (j:=1) rfl rfl rfl Zs (v:=.slice a8 p0.Readings.length a9) rfl) rfl (bnK dI fun av cN dE=>OKS.copyM (j:=0) (f:=wAB) (m:=x5) (ys:=p0.Readings) (z:=av) (a:=0) (n:=x5.length) rfl rfl rfl rfl rfl rfl ZN ZW bp rfl (fun _=>rfl) (fun _=>rfl) rfl cN rfl (by simp) (.inr (by simp)) rfl (bp.srcS dx) rfl ?_))))))
 intro cp df br
 let B1:Res:=.row (some ⟨b9,0,none⟩) x5.length 39 4 (hD wAB av)
 have bX:sW w U U [B1,.blk b2 28 B0] cp:=df
 refine eN (sR (wDF (.fx 3 .nil .stop)) rfl (zw rfl rfl rfl rfl rfl (Eq.trans (b:=(.slice (some ⟨b9,0,none⟩) x5.length x5.length:Value)) (c:=(.slice (some ⟨b9,0,none⟩) av.length x5.length:Value)) rfl (by rw [br])) ?_))
 have dN:=bX.rowCap (j:=0) rfl (by decide) (wAD (f:=wAB) (sz:=4) (fun _=>rfl) av)
 refine zc (v:=.slice (some ⟨b9,0,none⟩) 0 x5.length) Z Z Z Z (fun _=>ZH (Runs.slc (sz:=4) (a:=0) (b:=0) Z Z (.inr ⟨Z,Z⟩) (.inl ⟨_,Z,Z⟩) ZN ZW (Int.le_refl _) (Int.le_refl _) (Int.natCast_nonneg _) dN) slc0) (oR Z (zE Z Z zI Z ZO) (zU (j:=1) (vs:=[.slice (some ⟨b9,0,none⟩) 0 x5.length]) Z Z Z Z bX Z Z Z Z ZO (zA Z) Z Z Z ?_))
 intro cr dg
 have dh:sW w U U [B1,.blk b2 28 [.slice am p0.Starts.length ap,.slice an p0.Splits.length aq,.slice ao p0.Clocks.length au,.slice (some ⟨b9,0,none⟩) 0 x5.length]] cr:=dg
 refine eN (zM (sR fL3 rfl (zw rfl rfl rfl rfl rfl (Eq.trans (b:=(.slice (some ⟨b9,0,none⟩) x5.length x5.length:Value)) (c:=(.slice (some ⟨b9,0,none⟩) av.length x5.length:Value)) rfl (by rw [br])) (zc rfl rfl rfl rfl (fun _=>zx rfl rfl ZN) (zw rfl rfl rfl rfl rfl rfl (eN (zd ?_)))))))
 have q:=bnd dE
 obtain ⟨⟨eg,dP⟩,dz,cd⟩:=q
 try dsimp only at cd
 have q:=wAx dz
 obtain ⟨bs,dA⟩:=q
 replace bs:=zO bs
 refine CK.forN' (fun ah (ag,ak) σ_ w_=>∃ (U_:PHeap),σ_ 21=jV (↑ah:Int)/\σ_ 1=bx/\σ_ 2=.pointer (some ⟨b2,0,none⟩)/\σ_ 19=.slice (some ⟨b9,0,none⟩) ag.length x5.length/\σ_ 20=jV (↑av.length:Int)/\PHeap.Le U U_/\sW w U U_ [.row (some ⟨b9,0,none⟩) x5.length 39 4 (hD wAB ag),.blk b2 28 [.slice am p0.Starts.length ap,.slice an p0.Splits.length aq,.slice ao p0.Clocks.length au,.slice (some ⟨b9,0,none⟩) ak x5.length]] w_/\ag.length=x5.length) dA ?_ ?_ ?_
 exact ⟨U,Z,Z,Z,Z,Z,(zP _),dh,br⟩
 rintro ah ⟨ag,ak⟩ ef eh dT bq ⟨cn,a7,bm,bc,bn,bo,bv,bZ,bU⟩ cf
 try dsimp only at cf
 have bR:Hid ((↑ah:Int) < (↑av.length:Int)):=zO (wAs bq)
 replace bq:=zO bq
 have cc:Hid (w64 ((↑ah:Int) + 1)=(↑(ah + 1):Int)):=zO (by have h1:=bs.out;have h2:=bR.out;rw [wAU] <;> omega)
 refine sR fL1 Z (oR Z (ze Z a7 bo) (eN (zM (cT Z bR (kN (zM (zd (sR (wDF (.fx 3 (.fl 4 (.fx 5 .nil .stop)) .stop)) Z (oM Z a7 (bnK cf fun _ bV dH=>oR Z (Zk Z bn Z a7 ZN ZW (wAS bV)) ?_))))))))))
 have dB:=wBL (xs:=ag) (wAS bV)
 let B2:List Value:=[jV ((gd ag ah).Skier),jV ((gd ag ah).Mat),jV ((gd ag ah).Clock),jV ((gd ag ah).Time)]
 refine ZF rfl rfl rfl rfl (bZ.ldRA (j:=0) rfl rfl rfl rfl yj ZW (vs:=B2) (wFx (sz:=4) (fun _=>rfl) _ _ _ dB (by first | omega | rfl | simp) rfl) rfl) rfl ?_
 let B3:List Value:=[jV 0,jV 0,jV 0,jV 0]
 refine zQ (cs:=B3) Z Z Z Z Z ZX Z bZ ?_
 intro dU az di
 refine oA Z Z (zU (j:=0) (vs:=B2) Z Z Z Z di Z Z Z Z ZW (zA Z) Z Z Z ?_)
 intro ct dk
 let B4:Res:=.blk b2 28 [.slice am p0.Starts.length ap,.slice an p0.Splits.length aq,.slice ao p0.Clocks.length au,.slice (some ⟨b9,0,none⟩) ak x5.length]
 let B5:Res:=.row (some ⟨b9,0,none⟩) x5.length 39 4 (hD wAB ag)
 have ca:sW w U cn [.blk az 39 B2,B5,B4] ct:=dk
 refine eN (sR (wDF gEg) Z (oM Z bm (oM Z Z (oL Z (ca.ldBA (j:=0) Z Z Z yj ZW (vs:=B2) Z Z) (bnK dH fun d9 cV dJ=>?_)))))
 have cW:=dy.le bv
 refine OKS.callV (a:=((↑ah:Int),(gd ag ah))) Z Z Z Z Z Z (zB Z (zB Z zJ)) ca cW Z cV ?_
 rintro aw dR d7 cu cg dl ⟨rfl,rfl⟩
 have bd:sW w U aw [.blk az 39 B2,B5,B4] cu:=dl
 refine oR Z (Zg Z Z) (eN (ifc dJ ?_ ?_))
 intro bk dK
 refine ZE (nC bk.out) (Zo (ZA (zL (rR fL2 Z (oR Z (ZH (za Z a7 Z) (congrArg (jV) cc.out)) (oM Z Z (zh ?_)))))))
 cases dK
 exact zL ⟨rfl,⟨aw,rfl,bm,bc,bn,bo,(bv.trans cg),(bd.pick [1,2] _ (by decide) rfl),bU⟩⟩
 intro bk dL
 refine ZI (nF (bk.out)) (rR (wDF (.fx 3 (.fx 4 (.fl 5 (.fx 6 .nil .stop)) .stop) .stop)) Z (oR Z (zE Z bc zI Z ZO) (oL Z (bd.ldB (j:=2) Z Z Z Zs (v:=.slice (some ⟨b9,0,none⟩) ak x5.length) Z) (oL Z (bd.ldBA (j:=0) Z Z Z yj ZW (vs:=B2) Z Z) (zr (pv:=[(0,.agg B2.toArray)]) (zs:=B3) (cs:=B2) Z Z Z Z Z (wAH Z wAO) ZN ZW ZX Z Z Z Z Z bd ?_)))))
 intro cx cA dm
 let B6:Res:=.row (some ⟨cA,0,none⟩) 1 39 4 (hD wAB [(gd ag ah)])
 have cb:sW w U aw [B6,.blk az 39 B2,B5,B4] cx:=dm
 refine bnK dL fun _ cX dM=>OKS.appendP (j:=2) (k:=ak) (enc:=wAB) (m:=ag) (v:=(gd ag ah)) rfl rfl rfl rfl rfl Try.underlying26 wHW rfl rfl cb rfl rfl rfl (cb.srcR (j:=0) rfl (by decide) (wAD (f:=wAB) (sz:=4) (fun _=>rfl) [(gd ag ah)])) (fun _=>rfl) (fun _=>rfl) cX rfl ?_
 intro cy dp
 let B7:Res:=.row (some ⟨b9,0,none⟩) x5.length 39 4 (hD wAB (nH ag ak (gd ag ah)))
 have dq:sW w U aw [B6,.blk az 39 B2,B7,B4] cy:=dp
 refine oR Z (zE Z bc zI Z ZO) (zU (j:=3) (vs:=[.slice (some ⟨b9,0,none⟩) (ak + 1) x5.length]) Z Z Z Z dq Z Z Z Z ZO (zA Z) Z Z Z ?_)
 intro cz dr
 have dt:sW w U aw [B6,.blk az 39 B2,B7,.blk b2 28 [.slice am p0.Starts.length ap,.slice an p0.Splits.length aq,.slice ao p0.Clocks.length au,.slice (some ⟨b9,0,none⟩) (ak + 1) x5.length]] cz:=dr
 refine zh (ZA (zL (rR fL2 Z (oR Z (ZH (za Z a7 Z) (congrArg (jV) cc.out)) (oM Z Z (zh ?_))))))
 cases dM
 exact zL ⟨rfl,⟨aw,rfl,bm,bc,(Eq.trans (b:=(.slice (some ⟨b9,0,none⟩) ag.length x5.length:Value)) (c:=(.slice (some ⟨b9,0,none⟩) ((nH ag ak (gd ag ah)).length) x5.length:Value)) bn (by simp only [nB])),bo,(bv.trans cg),(dt.pick [2,3] _ (by decide) rfl),(nB.trans bU)⟩⟩
 rintro ej bi ⟨cm,cE,dV,cC,dW,cD,bt,cZ,dX⟩
 have cB:Hid (¬ ((↑(((↑av.length:Int):Int) - 0).toNat:Int) < (↑av.length:Int))):=zO (wAc)
 refine sR fL1 Z (oR Z (ze Z cE cD) (eN (zM (cF Z cB (Zb (zo (zo (ZV (zL (sR gEn Z (bnK cd fun ax bT dC=>?_)))))))))))
 obtain rfl:ax.length=dP:=wMC bT
 have c6:=cZ.cutRowC (enc:=wAB) (k:=0) rfl bT
 let B8:List Value:=[.slice am p0.Starts.length ap,.slice an p0.Splits.length aq,.slice ao p0.Clocks.length au,.slice (some ⟨b9,0,none⟩) ax.length x5.length]
 have bW:sW w U cm [.row (some ⟨b9,0,none⟩) x5.length 39 4 (hD wAB ax),.blk b2 28 B8] bi:=c6
 refine oL Z (bW.ldBA (j:=1) Z Z cC zf zY (vs:=B8) Z Z) ?_
 have q:=bW.freezeR (k:=0) (n:=ax.length) rfl (wAD (f:=wAB) (sz:=4) (fun _=>rfl) ax) (by decide)
 obtain ⟨bG,bu,dO,da⟩:=q
 have db:sW w U bG [.blk b2 28 B8] bi:=da
 have cG:=du.le bt
 have cH:=cG.le bu
 have cI:=dv.le bt
 have cJ:=cI.le bu
 have cK:=dw.le bt
 have cL:=cK.le bu
 refine bnK dC fun ay cM dD=>zF 0 Z Z Z Z (zD Z Z Try.call89 (zB Z zJ) Z) db (fun hs=>wFI (⟨p0.Starts,p0.Splits,p0.Clocks,ax⟩:wAE) am ap an aq ao au (some ⟨b9,0,none⟩) x5.length bi bG hs cH cJ cL dO cM) (.inr Z) ?_
 rintro bH dQ dZ co dY dd ⟨bJ,bz,bL,bA,bM,bB,bN,bC,bO,bw,bS,bQ,be,bj,rfl,rfl,cO,cP,cQ,cR,cS⟩
 have de:sW w U bH [.blk bJ 124 [.slice bz ay.Race.Starts.length bL,.slice bA ay.Race.Splits.length bM,.slice bB ay.Race.Clocks.length bN,.slice bC ay.Race.Readings.length bO,.map (some bw),.slice be ay.edges.length bj],.obj bw (.map bS bQ),.row be bj 130 7 (hD wAQ ay.edges),.blk b2 28 B8] co:=dd
 refine oA Z Z (eN (zR ?_))
 have hE:=nA dD;first | subst r | cases hE
 exact ⟨rfl,_,(ZL rfl),bH,_,(de.pick [0,1,2] _ (by decide) rfl),bJ,bz,bL,bA,bM,bB,bN,bC,bO,bw,bS,bQ,be,bj,rfl,rfl,cO,cP,cQ,cR,cS⟩
theorem wEj (p0:List Int) (am:Option Addr) (an:Nat) (w:World) (U:PHeap) (hS:St0 w U []) (au:Sl U 1 am an p0.length (hD KL.encI p0)) {r:Int} (hm:wCF p0=some r):Gv Try.prog 104 [.slice am p0.length an] w (wBw w [] U (fun U_ L_ v=>v=jV r/\L_=[])):=by
 unfold wCF at hm
 refine Gv.of Try.func104 Z Try.ntmps104 Try.results104 Z (sR fL1 Z (oA Z Z (eN (zM (sR fL3 Z (oM Z Z (oR Z (zx Z Z zK) (oR Z (ze Z Z Z) (eN ?_)))))))))
 by_cases c1:(↑p0.length:Int) < 1
 have av:=hm;rw [if_pos c1] at av;replace c1:=zO c1
 refine cT Z c1 (rR gEi Z ?_)
 cases av
 have aw:=hm;rw [if_neg c1] at aw;replace c1:=zO c1
 refine cF Z c1 (kN (sR fL4 Z (oM Z Z (bnK aw fun x4 h5 bp=>?_))))
 have q:=au.el (fun _=>rfl) (wAb h5)
 obtain ⟨b7,bA,bf,bg⟩:=q
 refine oR Z (Zk Z Z bf Z zK zC (wCl h5)) (oL Z (hS.ldC (f:=0) bg (v:=jV x4) Z Z zG Z) (oA Z Z (eN (zM (sR fL1 Z (oA Z Z (eN (zd (bnK bp fun bC bj bn=>?_)))))))))
 have q:=wAx bj
 obtain ⟨ak,bk⟩:=q
 replace ak:=zO ak
 refine CK.forN' (fun af ay σ_ w_=>∃ (U_:PHeap),σ_ 4=jV (1 + ↑af:Int)/\σ_ 0=.slice am p0.length an/\σ_ 3=jV ay/\PHeap.Le U U_/\sW w U U_ [] w_) bk ?_ ?_ ?_
 exact ⟨U,Z,Z,Z,(zP _),hS⟩
 rintro af ay bB bD bt aj ⟨az,ah,ag,a9,ax,aq⟩ bq
 have ao:Hid ((1 + ↑af:Int) < (↑p0.length:Int)):=zO (lp_lt aj)
 replace aj:=zO aj
 have bm:Hid (w64 ((1 + ↑af:Int) + 1)=(1 + ↑(af + 1):Int)):=zO (by have h1:=ak.out;have h2:=ao.out;rw [wAU] <;> omega)
 refine zM (sR fL4 Z (oM Z ah (oM Z ag (oR Z (zx Z Z zK) (oR Z (ze Z Z Z) (eN (cT Z ao (kN (zM (zd (rR fL7 Z (oM Z a9 (oM Z ag (oM Z ah (bnK bq fun br ai bo=>?_)))))))))))))))
 have bd:=au.le ax
 have q:=bd.el (fun _=>rfl) (wAb ai)
 obtain ⟨bv,bz,be,bh⟩:=q
 refine oR Z (Zd Z Z be Z zK zC (wCG ai) (wCM ai)) (oL Z (aq.ldC (f:=0) bh (v:=jV br) Z Z zG Z) (oR Z (Runs.max Z Z Z) (oA Z Z (zh (ZA (zL (rR fL3 Z (oM Z ah (oR Z (ZH (za Z Z Z) (congrArg (jV) bm.out)) (oA Z Z (zh ?_)))))))))))
 cases bo
 exact zL ⟨Z,⟨az,Z,ag,Z,ax,aq⟩⟩
 rintro bE bu ⟨a7,bc,ba,bb,bx,bi⟩
 have a8:Hid (¬ ((1 + ↑(((↑p0.length:Int):Int) - 1).toNat:Int) < (↑p0.length:Int))):=zO (wLx)
 refine zM (sR fL4 Z (oM Z bc (oM Z ba (oR Z (zx Z Z zK) (oR Z (ze Z Z Z) (eN (cF Z a8 (Zb (zo (zo (ZV (zL (sR fL2 Z (oM Z bb (oA Z Z (eN (zR ?_)))))))))))))))))
 have hE:=nA bn;first | subst r | cases hE
 exact ⟨Z,_,(ZL Z),a7,_,bi,Z,Z⟩
theorem wIC (p0:List Int) (ae:Option Addr) (af:Nat) (w:World) (U:PHeap) (hS:St0 w U []) (am:Sl U 1 ae af p0.length (hD KL.encI p0)) {r:Int} (hm:wDi p0=some r):Gv Try.prog 73 [.slice ae p0.length af] w (wBw w [] U (fun U_ L_ v=>v=jV r/\L_=[])):=by
 unfold wDi at hm
 refine Gv.of Try.func73 Z Try.ntmps73 Try.results73 Z (sR fL1 Z (oA Z Z (eN (sR gEn Z (oM Z Z (bnK hm fun x1 h2 an=>zF 0 Z Z Z Z (zD Z Z Try.call104 (zB Z zJ) Z) hS (fun hs=>wEj p0 ae af w U hs am h2) (.inr Z) ?_))))))
 rintro U4 L5 v6 W7 ap ak ⟨rfl,rfl⟩
 have aj:sW w U U4 [] W7:=ak
 refine oA Z Z (eN (zR ?_))
 have hE:=nA an;first | subst r | cases hE
 exact ⟨Z,_,(ZL Z),U4,_,aj,Z,Z⟩
theorem wFJ (p0:wAE) (cn:Option Addr) (cr:Nat) (co:Option Addr) (ct:Nat) (cp:Option Addr) (cu:Nat) (bz:Option Addr) (bA:Nat) (p1:wAP) (w:World) (U:PHeap) (hS:St0 w U []) (qR:Sl U 1 cn cr p0.Starts.length (hD KL.encI p0.Starts)) (qS:Sl U 2 co ct p0.Splits.length (hD wAC p0.Splits)) (qT:Sl U 3 cp cu p0.Clocks.length (hD wAA p0.Clocks)) (qU:Sl U 4 bz bA p0.Readings.length (hD wAB p0.Readings)) {r:(List Int) × Int} (hm:wCk p0 p1=some r):Gv Try.prog 35 [.agg #[.slice cn p0.Starts.length cr,.slice co p0.Splits.length ct,.slice cp p0.Clocks.length cu,.slice bz p0.Readings.length bA],.agg #[jV p1.Skier,jV p1.Mat]] w (wBw w [] U (fun U_ L_ v=>∃ (A0:Option Addr) (c0:Nat),v=.tuple #[.slice A0 r.1.length c0,jV r.2]/\L_=[.row A0 c0 3 1 (hD KL.encI r.1)])):=by
 unfold wCk at hm
 refine Gv.of Try.func35 Z Try.ntmps35 Try.results35 Z (sR (.fx 0 gEo .stop) Z ?_)
 let B0:List Value:=[.slice cn p0.Starts.length cr,.slice co p0.Splits.length ct,.slice cp p0.Clocks.length cu,.slice bz p0.Readings.length bA]
 refine zy (cs:=B0) rfl rfl rfl rfl rfl rfl (by rfl) hS ?_
 intro W1 b2 o9
 let B1:List Value:=[jV p1.Skier,jV p1.Mat]
 refine zy (cs:=B1) rfl rfl rfl rfl rfl rfl (by rfl) o9 ?_
 intro W5 b6 fc
 refine oA Z Z (oA Z Z (eN (sR (.fl 0 (.fl 1 (.fx 2 (.fx 3 (wLh (.nil)) .stop) .stop))) Z (oL Z (fc.ldBA (j:=1) Z Z Z zf zY (vs:=B0) Z Z) (oL Z (fc.ldBA (j:=0) Z Z Z ZY ZG (vs:=B1) Z Z) (zr (pv:=[(0,.agg B1.toArray)]) (zs:=[jV 0,jV 0]) (cs:=B1) Z Z Z Z Z (wAH Z wAO) Zq ZG Zu Z Z Z Z Z fc ?_))))))
 intro W9 gi om
 have ow:sW w U U [.row (some ⟨gi,0,none⟩) 1 45 2 (hD wAT [p1]),.blk b6 45 B1,.blk b2 28 B0] W9:=om
 have q:=ow.freezeR (k:=0) (n:=[p1].length) rfl (wAD (f:=wAT) (sz:=2) (fun _=>rfl) [p1]) (by decide)
 obtain ⟨fN,dJ,rk,ox⟩:=q
 have oy:sW w U fN [.blk b6 45 B1,.blk b2 28 B0] W9:=ox
 have eO:=qR.le dJ
 have eU:=qS.le dJ
 have eV:=qT.le dJ
 have eX:=qU.le dJ
 have q:=bnd hm
 obtain ⟨⟨rF,im⟩,jw,da⟩:=q
 try dsimp only at da
 refine zF 0 Z Z Z Z (zD Z Z Try.call46 (zB Z (zB Z zJ)) Z) oy (fun hs=>wDs p0 cn cr co ct cp cu bz bA [p1] (some ⟨gi,0,none⟩) 1 W9 fN hs eO eU eV eX rk jw) (.inr Z) ?_
 rintro bg rN s5 bJ bj gS gO
 rcases rF with _ | bh
 try dsimp only at da
 obtain ⟨rfl,rfl⟩:=gO
 have gU:sW w U bg [.blk b6 45 B1,.blk b2 28 B0] bJ:=gS
 refine oM Z Z (oR Z (zT Z Z (v:=.pointer none) Z) (oR Z (zT Z Z (v:=jV im) Z) (oA Z Z (oA Z Z (eN (zM (sR fL2 Z (oM Z Z (oR Z (Ze Z Z Z) (eN (ifc da ?_ ?_)))))))))))
 intro eG q7
 refine ZE (ZD (fun h=>h eG.out)) (kN (zM (bnK q7 fun tx gN rd=>bnK rd fun tz eZ dI=>zt zu [3,2,1,2,0,2,0] gFj (by kernel_rfl) ?_)))
 have dE:=gU.drew
 generalize hw_W75:({ bJ with drawn:=bJ.drawn + 1 }:World)=iX at dE ⊢
 refine oM Z Z (oL Z (dE.ldBA (j:=0) Z Z Z ZY ZG (vs:=B1) Z Z) (zm ?_ ?_))
 refine zF 0 Z Z Z Z (zD Z Z yG zJ Z) dE (fun hs=>wAl iX bg hs gN) (.inr Z) ?_
 rintro ek sc tp gf sN qr ⟨rfl,rfl⟩
 have g6:sW w U ek [.blk b6 45 B1,.blk b2 28 B0] gf:=qr
 refine zm ?_ ?_
 refine zF 0 Z Z Z Z (zD Z Z yL (zB Z zJ) Z) g6 (fun hs=>wBQ p1 gf ek hs eZ) (.inr Z) ?_
 rintro iw sh tu i3 sO qE ⟨rfl,rfl⟩
 have qF:sW w U iw [.blk b6 45 B1,.blk b2 28 B0] i3:=qE
 refine zm ?_ ?_
 cases dI
 refine zQ (cs:=[jV 0,jV 0]) Z Z Z Z Z zi Z qF ?_
 intro sw sB sI
 cases dI
 refine zQ (cs:=[jV 0,jV 0]) Z Z Z Z Z zi Z g6 ?_
 intro i9 jb qQ
 refine zF 0 Z Z Z Z (zD Z Z yL (zB Z zJ) Z) qQ (fun hs=>wBQ p1 i9 ek hs eZ) (.inr Z) ?_
 rintro iq rG sQ iB sJ ol ⟨rfl,rfl⟩
 have sF:sW w U iq [.blk jb 41 [jV 0,jV 0],.blk b6 45 B1,.blk b2 28 B0] iB:=ol
 cases dI
 let B2:List Value:=[jV 0,jV 0]
 refine zQ (cs:=B2) Z Z Z Z Z zi Z dE ?_
 intro iC gj oo
 refine zF 0 Z Z Z Z (zD Z Z yG zJ Z) oo (fun hs=>wAl iC bg hs gN) (.inr Z) ?_
 rintro fM rH sS fZ sK oq ⟨rfl,rfl⟩
 have ot:sW w U fM [.blk gj 41 B2,.blk b6 45 B1,.blk b2 28 B0] fZ:=oq
 refine zF 0 Z Z Z Z (zD Z Z yL (zB Z zJ) Z) ot (fun hs=>wBQ p1 fZ fM hs eZ) (.inr Z) ?_
 rintro ir rI sT iD sM ou ⟨rfl,rfl⟩
 have sG:sW w U ir [.blk gj 41 B2,.blk b6 45 B1,.blk b2 28 B0] iD:=ou
 cases dI
 intro eG qX
 refine cT Z eG (sR fL3 Z (oM Z Z (oA Z Z (oA Z Z (eN (zR (zW ?_)))))))
 have ov:=gU.nilrow 3 1
 cases qX
 exact ⟨rfl,_,(wDf rfl rfl),bg,_,(ov.pick [0] _ (by decide) rfl),none,0,rfl,rfl⟩
 try dsimp only at da
 obtain ⟨bM,cw,cN,cx,cO,cy,cP,cz,cQ,ah,aj,ai,cA,cR,rfl,rfl,dp,dq,dr,dt,du,dv⟩:=gO
 let B3:Res:=.blk bM 124 [.slice cw bh.Race.Starts.length cN,.slice cx bh.Race.Splits.length cO,.slice cy bh.Race.Clocks.length cP,.slice cz bh.Race.Readings.length cQ,.map (some ah),.slice cA bh.edges.length cR]
 have gP:sW w U bg [B3,.obj ah (.map aj ai),.blk b6 45 B1,.blk b2 28 B0] bJ:=gS
 refine oM Z Z (oR Z (zT Z Z (v:=.pointer (some ⟨bM,0,none⟩)) Z) (oR Z (zT Z Z (v:=jV im) Z) (oA Z Z (oA Z Z (eN (zM (sR fL2 Z (oM Z Z (oR Z (Ze Z Z Z) (eN (ifc da ?_ ?_)))))))))))
 intro eF qY
 refine ZE (ZD (fun h=>h eF.out)) (kN ?_)
 have q:=bnd qY
 obtain ⟨⟨bo,bp⟩,ry,g9⟩:=q
 try dsimp only at g9
 let B4:List Value:=[jV bo,jV bp]
 refine yS (fun σ_ w_=>∃ (U_:PHeap) (am:Nat),σ_ 2=.pointer (some ⟨b2,0,none⟩)/\σ_ 3=.pointer (some ⟨b6,0,none⟩)/\σ_ 8=.pointer (some ⟨am,0,none⟩)/\PHeap.Le bg U_/\sW w U U_ [B3,.obj ah (.map aj ai),.blk b6 45 B1,.blk b2 28 B0,.blk am 41 B4] w_) ?_ ?_
 refine bnK ry fun dK gK qZ=>bnK qZ fun dL eJ q5=>bnK q5 fun bq dw dH=>zt zu [3,2,1,2,0,2,0] gFj (by kernel_rfl) ?_
 have dD:=gP.drew
 generalize hw_W200:({ bJ with drawn:=bJ.drawn + 1 }:World)=iE at dD ⊢
 refine oM Z Z (oL Z (dD.ldBA (j:=2) Z Z Z ZY ZG (vs:=B1) Z Z) (zm ?_ ?_))
 refine zF 0 Z Z Z Z (zD Z Z yG zJ Z) dD (fun hs=>wAl iE bg hs gK) (.inr Z) ?_
 rintro dR rJ sU f4 a7 oB ⟨rfl,rfl⟩
 have gQ:sW w U dR [B3,.obj ah (.map aj ai),.blk b6 45 B1,.blk b2 28 B0] f4:=oB
 refine zm ?_ ?_
 refine zF 0 Z Z Z Z (zD Z Z yL (zB Z zJ) Z) gQ (fun hs=>wBQ p1 f4 dR hs eJ) (.inr Z) ?_
 rintro dh rK sV f5 bb oG ⟨rfl,rfl⟩
 have gR:sW w U dh [B3,.obj ah (.map aj ai),.blk b6 45 B1,.blk b2 28 B0] f5:=oG
 refine zm ?_ ?_
 have jk:=dp.le a7
 have jl:=jk.le bb
 have jm:=dq.le a7
 have jo:=jm.le bb
 have jp:=dr.le a7
 have jq:=jp.le bb
 have jr:=dt.le a7
 have jt:=jr.le bb
 have ju:=dv.le a7
 have jv:=ju.le bb
 refine zF 2 Z Z Z Z (zD Z Z yl (zB Z (zB Z (zB Z zJ))) Z) gR (fun hs=>wAd bh bM cw cN cx cO cy cP cz cQ ah aj ai cA cR dK dL f5 dh hs jl jo jq jt du jv dw) (.inl Z) ?_
 rintro dS rL sX iF rB oH ⟨rfl,rfl⟩
 have oI:sW w U dS [B3,.obj ah (.map aj ai),.blk b6 45 B1,.blk b2 28 B0] iF:=oH
 refine zQ (cs:=[jV 0,jV 0]) Z Z Z Z Z zi Z oI ?_
 intro sn gm oK
 let B5:List Value:=[jV bq.Lo,jV bq.Hi]
 refine zU (j:=0) (vs:=B5) Z Z Z Z oK Z Z Z Z zZ (zA Z) Z Z Z ?_
 intro iG oO
 have oP:sW w U dS [.blk gm 41 B5,B3,.obj ah (.map aj ai),.blk b6 45 B1,.blk b2 28 B0] iG:=oO
 refine zh ?_
 cases dH
 exact zL ⟨rfl,⟨dS,gm,rfl,rfl,rfl,((a7.trans bb).trans rB),(oP.pick [1,2,3,4,0] _ (by decide) rfl)⟩⟩
 let B6:List Value:=[jV 0,jV 0]
 refine zQ (cs:=B6) Z Z Z Z Z zi Z gR ?_
 intro f7 dl oU
 have jx:=dp.le a7
 have jy:=jx.le bb
 have jz:=dq.le a7
 have jA:=jz.le bb
 have jB:=dr.le a7
 have jC:=jB.le bb
 have jD:=dt.le a7
 have jE:=jD.le bb
 have jG:=dv.le a7
 have jH:=jG.le bb
 have oW:sW w U dh [B3,.obj ah (.map aj ai),.blk dl 41 B6,.blk b6 45 B1,.blk b2 28 B0] f7:=oU.pick [1,2,0,3,4] _ (by decide) rfl
 refine zF 2 Z Z Z Z (zD Z Z yl (zB Z (zB Z (zB Z zJ))) Z) oW (fun hs=>wAd bh bM cw cN cx cO cy cP cz cQ ah aj ai cA cR dK dL f7 dh hs jy jA jC jE du jH dw) (.inl Z) ?_
 rintro dT rM sY iH rC oX ⟨rfl,rfl⟩
 have oY:sW w U dT [B3,.obj ah (.map aj ai),.blk dl 41 B6,.blk b6 45 B1,.blk b2 28 B0] iH:=oX
 let B7:List Value:=[jV bq.Lo,jV bq.Hi]
 refine zU (j:=2) (vs:=B7) Z Z Z Z oY Z Z Z Z zZ (zA Z) Z Z Z ?_
 intro iI o0
 have o3:sW w U dT [B3,.obj ah (.map aj ai),.blk dl 41 B7,.blk b6 45 B1,.blk b2 28 B0] iI:=o0
 refine zh ?_
 cases dH
 exact zL ⟨rfl,⟨dT,dl,rfl,rfl,rfl,((a7.trans bb).trans rC),(o3.pick [0,1,3,4,2] _ (by decide) rfl)⟩⟩
 let B8:List Value:=[jV 0,jV 0]
 refine zQ (cs:=B8) Z Z Z Z Z zi Z gQ ?_
 intro iJ cK o5
 refine zF 0 Z Z Z Z (zD Z Z yL (zB Z zJ) Z) o5 (fun hs=>wBQ p1 iJ dR hs eJ) (.inr Z) ?_
 rintro dU rO sZ ep bV o6 ⟨rfl,rfl⟩
 have o7:sW w U dU [.blk cK 41 B8,B3,.obj ah (.map aj ai),.blk b6 45 B1,.blk b2 28 B0] ep:=o6
 have jJ:=dp.le a7
 have jK:=jJ.le bV
 have jL:=dq.le a7
 have jM:=jL.le bV
 have jN:=dr.le a7
 have jO:=jN.le bV
 have jP:=dt.le a7
 have jQ:=jP.le bV
 have jR:=dv.le a7
 have jS:=jR.le bV
 have o8:sW w U dU [B3,.obj ah (.map aj ai),.blk cK 41 B8,.blk b6 45 B1,.blk b2 28 B0] ep:=o7.pick [1,2,0,3,4] _ (by decide) rfl
 refine zF 2 Z Z Z Z (zD Z Z yl (zB Z (zB Z (zB Z zJ))) Z) o8 (fun hs=>wAd bh bM cw cN cx cO cy cP cz cQ ah aj ai cA cR dK dL ep dU hs jK jM jO jQ du jS dw) (.inl Z) ?_
 rintro dV rP s6 iK rD pd ⟨rfl,rfl⟩
 have pe:sW w U dV [B3,.obj ah (.map aj ai),.blk cK 41 B8,.blk b6 45 B1,.blk b2 28 B0] iK:=pd
 let B9:List Value:=[jV bq.Lo,jV bq.Hi]
 refine zU (j:=2) (vs:=B9) Z Z Z Z pe Z Z Z Z zZ (zA Z) Z Z Z ?_
 intro iL pf
 have pg:sW w U dV [B3,.obj ah (.map aj ai),.blk cK 41 B9,.blk b6 45 B1,.blk b2 28 B0] iL:=pf
 refine zh ?_
 cases dH
 exact zL ⟨rfl,⟨dV,cK,rfl,rfl,rfl,((a7.trans bV).trans rD),(pg.pick [0,1,3,4,2] _ (by decide) rfl)⟩⟩
 let cG:List Value:=[jV 0,jV 0]
 refine zQ (cs:=cG) Z Z Z Z Z zi Z dD ?_
 intro iM bL ph
 refine zF 0 Z Z Z Z (zD Z Z yG zJ Z) ph (fun hs=>wAl iM bg hs gK) (.inr Z) ?_
 rintro fO rQ s7 f8 bW pj ⟨rfl,rfl⟩
 have pk:sW w U fO [.blk bL 41 cG,B3,.obj ah (.map aj ai),.blk b6 45 B1,.blk b2 28 B0] f8:=pj
 refine zF 0 Z Z Z Z (zD Z Z yL (zB Z zJ) Z) pk (fun hs=>wBQ p1 f8 fO hs eJ) (.inr Z) ?_
 rintro dW rS s8 er bX pm ⟨rfl,rfl⟩
 have pn:sW w U dW [.blk bL 41 cG,B3,.obj ah (.map aj ai),.blk b6 45 B1,.blk b2 28 B0] er:=pm
 have jU:=dp.le bW
 have jW:=jU.le bX
 have jX:=dq.le bW
 have jY:=jX.le bX
 have jZ:=dr.le bW
 have j0:=jZ.le bX
 have j1:=dt.le bW
 have j2:=j1.le bX
 have j3:=dv.le bW
 have j4:=j3.le bX
 have po:sW w U dW [B3,.obj ah (.map aj ai),.blk bL 41 cG,.blk b6 45 B1,.blk b2 28 B0] er:=pn.pick [1,2,0,3,4] _ (by decide) rfl
 refine zF 2 Z Z Z Z (zD Z Z yl (zB Z (zB Z (zB Z zJ))) Z) po (fun hs=>wAd bh bM cw cN cx cO cy cP cz cQ ah aj ai cA cR dK dL er dW hs jW jY j0 j2 du j4 dw) (.inl Z) ?_
 rintro dX rT s9 iN rE pp ⟨rfl,rfl⟩
 have pq:sW w U dX [B3,.obj ah (.map aj ai),.blk bL 41 cG,.blk b6 45 B1,.blk b2 28 B0] iN:=pp
 let fz:List Value:=[jV bq.Lo,jV bq.Hi]
 refine zU (j:=2) (vs:=fz) Z Z Z Z pq Z Z Z Z zZ (zA Z) Z Z Z ?_
 intro iO pu
 have py:sW w U dX [B3,.obj ah (.map aj ai),.blk bL 41 fz,.blk b6 45 B1,.blk b2 28 B0] iO:=pu
 refine zh ?_
 cases dH
 exact zL ⟨rfl,⟨dX,bL,rfl,rfl,rfl,((bW.trans bX).trans rE),(py.pick [0,1,3,4,2] _ (by decide) rfl)⟩⟩
 rintro tD so ⟨fP,am,gD,je,jf,bk,gT⟩
 refine sR fL1 Z (oA Z Z (eN (zM (sR fL4 Z (oR Z (zE Z gD zI Z ZO) (oL Z (gT.ldB (j:=3) Z Z Z Zs (v:=.slice bz p0.Readings.length bA) Z) (oR Z (zx Z Z ZN) (oM Z Z (eN (zd (bnK g9 fun tC qV q6=>?_)))))))))))
 have q:=wAx qV
 obtain ⟨fg,qW⟩:=q
 replace fg:=zO fg
 refine CK.forN' (fun az bU σ_ w_=>∃ (U_:PHeap) (bB:Option Addr) (bO:Nat),σ_ 30=jV (↑az:Int)/\σ_ 2=.pointer (some ⟨b2,0,none⟩)/\σ_ 3=.pointer (some ⟨b6,0,none⟩)/\σ_ 8=.pointer (some ⟨am,0,none⟩)/\σ_ 9=.slice bB bU.length bO/\σ_ 29=jV (↑p0.Readings.length:Int)/\PHeap.Le fP U_/\sW w U U_ [B3,.obj ah (.map aj ai),.blk b6 45 B1,.blk b2 28 B0,.blk am 41 B4,.row bB bO 3 1 (hD KL.encI bU)] w_) qW ?_ ?_ ?_
 have pz:=gT.nilrow 3 1
 exact ⟨fP,none,0,rfl,gD,je,jf,rfl,rfl,(zP _),(pz.pick [1,2,3,4,5,0] _ (by decide) rfl)⟩
 rintro az bU tB tE sq ff ⟨fQ,bB,bO,bx,bR,bS,cX,cY,bT,be,pB⟩ rz
 have gw:Hid ((↑az:Int) < (↑p0.Readings.length:Int)):=zO (wAs ff)
 replace ff:=zO ff
 have g8:Hid (w64 ((↑az:Int) + 1)=(↑(az + 1):Int)):=zO (by have h1:=fg.out;have h2:=gw.out;rw [wAU] <;> omega)
 refine sR fL1 Z (oR Z (ze Z bx bT) (eN (zM (cT Z gw (kN (zM (zd (sR gEq Z (oM Z bx (zQ (cs:=[jV 0]) Z Z Z Z Z zz Z pB ?_))))))))))
 intro sr ba pC
 let cH:List Value:=[jV (↑az:Int)]
 refine zU (j:=0) (vs:=cH) Z Z Z Z pC Z Z Z Z zC (zA Z) Z Z Z ?_
 intro eu pD
 let ao:Res:=.row bB bO 3 1 (hD KL.encI bU)
 have pE:sW w U fQ [.blk ba 3 cH,B3,.obj ah (.map aj ai),.blk b6 45 B1,.blk b2 28 B0,.blk am 41 B4,ao] eu:=pD
 refine eN ?_
 have q:=bnd rz
 obtain ⟨⟨br,bs⟩,rA,ib⟩:=q
 try dsimp only at ib
 let bD:List Value:=[jV br,jV bs]
 refine yS (fun σ_ w_=>∃ (U_:PHeap) (bi:Nat),σ_ 2=.pointer (some ⟨b2,0,none⟩)/\σ_ 3=.pointer (some ⟨b6,0,none⟩)/\σ_ 8=.pointer (some ⟨am,0,none⟩)/\σ_ 9=.slice bB bU.length bO/\σ_ 10=.pointer (some ⟨ba,0,none⟩)/\σ_ 11=.pointer (some ⟨bi,0,none⟩)/\σ_ 29=jV (↑p0.Readings.length:Int)/\σ_ 30=jV (↑az:Int)/\PHeap.Le fQ U_/\sW w U U_ [B3,.obj ah (.map aj ai),.blk b6 45 B1,.blk b2 28 B0,.blk am 41 B4,ao,.blk bi 41 bD] w_/\Cl U_ ba 0 cH) ?_ ?_
 refine bnK rA fun ap gM q8=>bnK q8 fun dd eY q9=>bnK q9 fun de dx rc=>bnK rc fun bf cZ db=>zt zu [1,3,2,2,1,2,0,2,0] (.fl 0 (.fl 1 (.fl 4 (.fx 2 (.fx 3 (.fx 5 (.fx 6 (.fx 7 (.fx 8 .nil .stop) .stop) (.fx 7 gEl .stop)) (.fx 7 gEr .stop)) (.fx 7 gEz .stop)) (.fx 7 (.fx 2 gEz .stop) .stop))))) (by kernel_rfl) ?_
 have e0:=pE.drew
 generalize hw_W537:({ eu with drawn:=eu.drawn + 1 }:World)=f9 at e0 ⊢
 refine oL Z (e0.ldBA (j:=4) Z Z bR zf zY (vs:=B0) Z Z) ?_
 have q:=e0.freeze (k:=0) rfl
 obtain ⟨bI,a9,bd,pF⟩:=q
 replace bd:=Cl.of bd
 have fb:sW w U bI [B3,.obj ah (.map aj ai),.blk b6 45 B1,.blk b2 28 B0,.blk am 41 B4,ao] f9:=pF
 replace bd:Cl bI ba 0 cH:=bd
 refine oR Z (Runs.mkf Z zJ (zB Z zJ)) (oL Z (fb.ldBA (j:=2) Z Z bS ZY ZG (vs:=B1) Z Z) (zm ?_ ?_))
 have j5:=eO.le bj
 have j6:=j5.le bk
 have j7:=j6.le be
 have j8:=j7.le a9
 have j9:=eU.le bj
 have k3:=j9.le bk
 have k5:=k3.le be
 have k6:=k5.le a9
 have k7:=eV.le bj
 have k8:=k7.le bk
 have k9:=k8.le be
 have lb:=k9.le a9
 have lc:=eX.le bj
 have lf:=lc.le bk
 have lg:=lf.le be
 have lh:=lg.le a9
 have oi:FnOK Try.prog bI (.func (.func 72) #[] #[.pointer (some ⟨ba,0,none⟩)]) wIz wJA (fun x=>wBZ x.1 x.2 (↑az:Int)):=⟨72,[],[.pointer (some ⟨ba,0,none⟩)],rfl,Try.call72,fun U1 w1 x y vs le hs ha hm=>by obtain rfl:=ha;exact wEb x.1 x.2 (↑az:Int) ba w1 U1 hs (bd.le le) hm⟩
 refine zF 0 Z Z Z Z (zD Z Z Try.call64 (zB Z (zB Z zJ)) Z) fb (fun hs=>wBp p0 cn cr co ct cp cu bz bA (fun x=>wBZ x.1 x.2 (↑az:Int)) (.func (.func 72) #[] #[.pointer (some ⟨ba,0,none⟩)]) f9 bI hs j8 k6 lb lh oi gM) (.inr Z) ?_
 rintro dY rV ta ga bm pG ⟨cL,cB,cS,cC,cU,cD,cV,cE,cW,aq,aw,av,bC,bQ,rfl,rfl,dy,dz,dA,dB,dC⟩
 let ax:Res:=.blk cL 124 [.slice cB ap.Race.Starts.length cS,.slice cC ap.Race.Splits.length cU,.slice cD ap.Race.Clocks.length cV,.slice cE ap.Race.Readings.length cW,.map (some aq),.slice bC ap.edges.length bQ]
 let bE:Res:=.row bC bQ 130 7 (hD wAQ ap.edges)
 have gX:sW w U dY [ax,.obj aq (.map aw av),bE,B3,.obj ah (.map aj ai),.blk b6 45 B1,.blk b2 28 B0,.blk am 41 B4,ao] ga:=pG
 refine zm ?_ ?_
 refine zF 0 Z Z Z Z (zD Z Z yG zJ Z) gX (fun hs=>wAl ga dY hs eY) (.inr Z) ?_
 rintro dZ rW tc gb a8 pH ⟨rfl,rfl⟩
 have gY:sW w U dZ [ax,.obj aq (.map aw av),bE,B3,.obj ah (.map aj ai),.blk b6 45 B1,.blk b2 28 B0,.blk am 41 B4,ao] gb:=pH
 refine zm ?_ ?_
 refine zF 0 Z Z Z Z (zD Z Z yL (zB Z zJ) Z) gY (fun hs=>wBQ p1 gb dZ hs dx) (.inr Z) ?_
 rintro it rX te ew bc pI ⟨rfl,rfl⟩
 have gZ:sW w U it [ax,.obj aq (.map aw av),bE,B3,.obj ah (.map aj ai),.blk b6 45 B1,.blk b2 28 B0,.blk am 41 B4,ao] ew:=pI
 refine zm ?_ ?_
 have q:=gZ.freezeR (k:=2) (n:=ap.edges.length) rfl (wAD (f:=wAQ) (sz:=7) (fun _=>rfl) ap.edges) (by decide)
 obtain ⟨fR,bY,rn,pJ⟩:=q
 have pK:sW w U fR [ax,.obj aq (.map aw av),B3,.obj ah (.map aj ai),.blk b6 45 B1,.blk b2 28 B0,.blk am 41 B4,ao] ew:=pJ
 have lj:=dy.le a8
 have lk:=lj.le bc
 have ll:=lk.le bY
 have lm:=dz.le a8
 have ln:=lm.le bc
 have lp:=ln.le bY
 have lq:=dA.le a8
 have ls:=lq.le bc
 have lu:=ls.le bY
 have lv:=dB.le a8
 have lw:=lv.le bc
 have lx:=lw.le bY
 refine zF 2 Z Z Z Z (zD Z Z yl (zB Z (zB Z (zB Z zJ))) Z) pK (fun hs=>wAd ap cL cB cS cC cU cD cV cE cW aq aw av bC bQ dd de ew fR hs ll lp lu lx dC rn cZ) (.inl Z) ?_
 rintro d7 rY tf iP ic pL ⟨rfl,rfl⟩
 have pM:sW w U d7 [ax,.obj aq (.map aw av),B3,.obj ah (.map aj ai),.blk b6 45 B1,.blk b2 28 B0,.blk am 41 B4,ao] iP:=pL
 refine zQ (cs:=[jV 0,jV 0]) Z Z Z Z Z zi Z pM ?_
 intro su gp pN
 let fA:List Value:=[jV bf.Lo,jV bf.Hi]
 refine zU (j:=0) (vs:=fA) Z Z Z Z pN Z Z Z Z zZ (zA Z) Z Z Z ?_
 intro iQ pO
 have pP:sW w U d7 [.blk gp 41 fA,ax,.obj aq (.map aw av),B3,.obj ah (.map aj ai),.blk b6 45 B1,.blk b2 28 B0,.blk am 41 B4,ao] iQ:=pO
 refine zh ?_
 cases db
 have ly:=bd.le bm
 have lz:=ly.le a8
 have lA:=lz.le bc
 have lB:=lA.le bY
 have lD:=lB.le ic
 exact zL ⟨rfl,⟨d7,gp,bR,bS,cX,cY,rfl,rfl,bT,bx,(((((a9.trans bm).trans a8).trans bc).trans bY).trans ic),(pP.pick [3,4,5,6,7,8,0] _ (by decide) rfl),lD⟩⟩
 let df:List Value:=[jV 0,jV 0]
 refine zQ (cs:=df) Z Z Z Z Z zi Z gZ ?_
 intro ey cM pQ
 have q:=pQ.freezeR (k:=3) (n:=ap.edges.length) rfl (wAD (f:=wAQ) (sz:=7) (fun _=>rfl) ap.edges) (by decide)
 obtain ⟨d9,bZ,ro,pR⟩:=q
 have pS:sW w U d9 [.blk cM 41 df,ax,.obj aq (.map aw av),B3,.obj ah (.map aj ai),.blk b6 45 B1,.blk b2 28 B0,.blk am 41 B4,ao] ey:=pR
 have lE:=dy.le a8
 have lF:=lE.le bc
 have lG:=lF.le bZ
 have lH:=dz.le a8
 have lI:=lH.le bc
 have lJ:=lI.le bZ
 have lK:=dA.le a8
 have lL:=lK.le bc
 have lM:=lL.le bZ
 have lN:=dB.le a8
 have lO:=lN.le bc
 have lP:=lO.le bZ
 have pT:sW w U d9 [ax,.obj aq (.map aw av),.blk cM 41 df,B3,.obj ah (.map aj ai),.blk b6 45 B1,.blk b2 28 B0,.blk am 41 B4,ao] ey:=pS.pick [1,2,0,3,4,5,6,7,8] _ (by decide) rfl
 refine zF 2 Z Z Z Z (zD Z Z yl (zB Z (zB Z (zB Z zJ))) Z) pT (fun hs=>wAd ap cL cB cS cC cU cD cV cE cW aq aw av bC bQ dd de ey d9 hs lG lJ lM lP dC ro cZ) (.inl Z) ?_
 rintro ef rZ tg iR ie pU ⟨rfl,rfl⟩
 have pV:sW w U ef [ax,.obj aq (.map aw av),.blk cM 41 df,B3,.obj ah (.map aj ai),.blk b6 45 B1,.blk b2 28 B0,.blk am 41 B4,ao] iR:=pU
 let fC:List Value:=[jV bf.Lo,jV bf.Hi]
 refine zU (j:=2) (vs:=fC) Z Z Z Z pV Z Z Z Z zZ (zA Z) Z Z Z ?_
 intro iS pW
 have pX:sW w U ef [ax,.obj aq (.map aw av),.blk cM 41 fC,B3,.obj ah (.map aj ai),.blk b6 45 B1,.blk b2 28 B0,.blk am 41 B4,ao] iS:=pW
 refine zh ?_
 cases db
 have lQ:=bd.le bm
 have lR:=lQ.le a8
 have lS:=lR.le bc
 have lT:=lS.le bZ
 have lU:=lT.le ie
 exact zL ⟨rfl,⟨ef,cM,bR,bS,cX,cY,rfl,rfl,bT,bx,(((((a9.trans bm).trans a8).trans bc).trans bZ).trans ie),(pX.pick [3,4,5,6,7,8,2] _ (by decide) rfl),lU⟩⟩
 let cI:List Value:=[jV 0,jV 0]
 refine zQ (cs:=cI) Z Z Z Z Z zi Z gY ?_
 intro iT bN pY
 refine zF 0 Z Z Z Z (zD Z Z yL (zB Z zJ) Z) pY (fun hs=>wBQ p1 iT dZ hs dx) (.inr Z) ?_
 rintro iu r6 th di ca pZ ⟨rfl,rfl⟩
 have p4:sW w U iu [.blk bN 41 cI,ax,.obj aq (.map aw av),bE,B3,.obj ah (.map aj ai),.blk b6 45 B1,.blk b2 28 B0,.blk am 41 B4,ao] di:=pZ
 have q:=p4.freezeR (k:=3) (n:=ap.edges.length) rfl (wAD (f:=wAQ) (sz:=7) (fun _=>rfl) ap.edges) (by decide)
 obtain ⟨eg,cb,rp,p5⟩:=q
 have p6:sW w U eg [.blk bN 41 cI,ax,.obj aq (.map aw av),B3,.obj ah (.map aj ai),.blk b6 45 B1,.blk b2 28 B0,.blk am 41 B4,ao] di:=p5
 have lV:=dy.le a8
 have lW:=lV.le ca
 have lX:=lW.le cb
 have lY:=dz.le a8
 have lZ:=lY.le ca
 have l5:=lZ.le cb
 have l6:=dA.le a8
 have l7:=l6.le ca
 have l8:=l7.le cb
 have ma:=dB.le a8
 have mb:=ma.le ca
 have mc:=mb.le cb
 have p7:sW w U eg [ax,.obj aq (.map aw av),.blk bN 41 cI,B3,.obj ah (.map aj ai),.blk b6 45 B1,.blk b2 28 B0,.blk am 41 B4,ao] di:=p6.pick [1,2,0,3,4,5,6,7,8] _ (by decide) rfl
 refine zF 2 Z Z Z Z (zD Z Z yl (zB Z (zB Z (zB Z zJ))) Z) p7 (fun hs=>wAd ap cL cB cS cC cU cD cV cE cW aq aw av bC bQ dd de di eg hs lX l5 l8 mc dC rp cZ) (.inl Z) ?_
 rintro eh r7 tj iU ig p8 ⟨rfl,rfl⟩
 have p9:sW w U eh [ax,.obj aq (.map aw av),.blk bN 41 cI,B3,.obj ah (.map aj ai),.blk b6 45 B1,.blk b2 28 B0,.blk am 41 B4,ao] iU:=p8
 let fD:List Value:=[jV bf.Lo,jV bf.Hi]
 refine zU (j:=2) (vs:=fD) Z Z Z Z p9 Z Z Z Z zZ (zA Z) Z Z Z ?_
 intro iV qa
 have qb:sW w U eh [ax,.obj aq (.map aw av),.blk bN 41 fD,B3,.obj ah (.map aj ai),.blk b6 45 B1,.blk b2 28 B0,.blk am 41 B4,ao] iV:=qa
 refine zh ?_
 cases db
 have md:=bd.le bm
 have me:=md.le a8
 have mf:=me.le ca
 have mg:=mf.le cb
 have mh:=mg.le ig
 exact zL ⟨rfl,⟨eh,bN,bR,bS,cX,cY,rfl,rfl,bT,bx,(((((a9.trans bm).trans a8).trans ca).trans cb).trans ig),(qb.pick [3,4,5,6,7,8,2] _ (by decide) rfl),mh⟩⟩
 let bF:List Value:=[jV 0,jV 0]
 refine zQ (cs:=bF) Z Z Z Z Z zi Z gX ?_
 intro iW bt qc
 refine zF 0 Z Z Z Z (zD Z Z yG zJ Z) qc (fun hs=>wAl iW dY hs eY) (.inr Z) ?_
 rintro fS r8 tk ge cc qd ⟨rfl,rfl⟩
 have qe:sW w U fS [.blk bt 41 bF,ax,.obj aq (.map aw av),bE,B3,.obj ah (.map aj ai),.blk b6 45 B1,.blk b2 28 B0,.blk am 41 B4,ao] ge:=qd
 refine zF 0 Z Z Z Z (zD Z Z yL (zB Z zJ) Z) qe (fun hs=>wBQ p1 ge fS hs dx) (.inr Z) ?_
 rintro iv r9 tm dk cd qf ⟨rfl,rfl⟩
 have qh:sW w U iv [.blk bt 41 bF,ax,.obj aq (.map aw av),bE,B3,.obj ah (.map aj ai),.blk b6 45 B1,.blk b2 28 B0,.blk am 41 B4,ao] dk:=qf
 have q:=qh.freezeR (k:=3) (n:=ap.edges.length) rfl (wAD (f:=wAQ) (sz:=7) (fun _=>rfl) ap.edges) (by decide)
 obtain ⟨ej,cf,rq,qi⟩:=q
 have qj:sW w U ej [.blk bt 41 bF,ax,.obj aq (.map aw av),B3,.obj ah (.map aj ai),.blk b6 45 B1,.blk b2 28 B0,.blk am 41 B4,ao] dk:=qi
 have mi:=dy.le cc
 have mj:=mi.le cd
 have mm:=mj.le cf
 have mn:=dz.le cc
 have mo:=mn.le cd
 have mp:=mo.le cf
 have mq:=dA.le cc
 have mr:=mq.le cd
 have ms:=mr.le cf
 have mu:=dB.le cc
 have mw:=mu.le cd
 have mx:=mw.le cf
 have qk:sW w U ej [ax,.obj aq (.map aw av),.blk bt 41 bF,B3,.obj ah (.map aj ai),.blk b6 45 B1,.blk b2 28 B0,.blk am 41 B4,ao] dk:=qj.pick [1,2,0,3,4,5,6,7,8] _ (by decide) rfl
 refine zF 2 Z Z Z Z (zD Z Z yl (zB Z (zB Z (zB Z zJ))) Z) qk (fun hs=>wAd ap cL cB cS cC cU cD cV cE cW aq aw av bC bQ dd de dk ej hs mm mp ms mx dC rq cZ) (.inl Z) ?_
 rintro en sa tn iY ii qm ⟨rfl,rfl⟩
 have qn:sW w U en [ax,.obj aq (.map aw av),.blk bt 41 bF,B3,.obj ah (.map aj ai),.blk b6 45 B1,.blk b2 28 B0,.blk am 41 B4,ao] iY:=qm
 let fE:List Value:=[jV bf.Lo,jV bf.Hi]
 refine zU (j:=2) (vs:=fE) Z Z Z Z qn Z Z Z Z zZ (zA Z) Z Z Z ?_
 intro iZ qo
 have qp:sW w U en [ax,.obj aq (.map aw av),.blk bt 41 fE,B3,.obj ah (.map aj ai),.blk b6 45 B1,.blk b2 28 B0,.blk am 41 B4,ao] iZ:=qo
 refine zh ?_
 cases db
 have my:=bd.le bm
 have mz:=my.le cc
 have mA:=mz.le cd
 have mB:=mA.le cf
 have mC:=mB.le ii
 exact zL ⟨rfl,⟨en,bt,bR,bS,cX,cY,rfl,rfl,bT,bx,(((((a9.trans bm).trans cc).trans cd).trans cf).trans ii),(qp.pick [3,4,5,6,7,8,2] _ (by decide) rfl),mC⟩⟩
 let bG:List Value:=[jV 0,jV 0]
 refine zQ (cs:=bG) Z Z Z Z Z zi Z fb ?_
 intro i2 bu qq
 have mD:=eO.le bj
 have mE:=mD.le bk
 have mF:=mE.le be
 have mG:=mF.le a9
 have mH:=eU.le bj
 have mI:=mH.le bk
 have mJ:=mI.le be
 have mK:=mJ.le a9
 have mL:=eV.le bj
 have mM:=mL.le bk
 have mN:=mM.le be
 have mO:=mN.le a9
 have mP:=eX.le bj
 have mQ:=mP.le bk
 have mR:=mQ.le be
 have mS:=mR.le a9
 have oj:FnOK Try.prog bI (.func (.func 72) #[] #[.pointer (some ⟨ba,0,none⟩)]) wIz wJA (fun x=>wBZ x.1 x.2 (↑az:Int)):=⟨72,[],[.pointer (some ⟨ba,0,none⟩)],rfl,Try.call72,fun U1 w1 x y vs le hs ha hm=>by obtain rfl:=ha;exact wEb x.1 x.2 (↑az:Int) ba w1 U1 hs (bd.le le) hm⟩
 refine zF 0 Z Z Z Z (zD Z Z Try.call64 (zB Z (zB Z zJ)) Z) qq (fun hs=>wBp p0 cn cr co ct cp cu bz bA (fun x=>wBZ x.1 x.2 (↑az:Int)) (.func (.func 72) #[] #[.pointer (some ⟨ba,0,none⟩)]) i2 bI hs mG mK mO mS oj gM) (.inr Z) ?_
 rintro fT sd tq gg ij qs ⟨gq,fq,gx,ft,gy,fu,gz,fw,gA,bn,bw,bv,dM,eH,rfl,rfl,mT,mU,mV,mW,mX⟩
 let bH:Res:=.blk gq 124 [.slice fq ap.Race.Starts.length gx,.slice ft ap.Race.Splits.length gy,.slice fu ap.Race.Clocks.length gz,.slice fw ap.Race.Readings.length gA,.map (some bn),.slice dM ap.edges.length eH]
 let dO:Res:=.row dM eH 130 7 (hD wAQ ap.edges)
 have qt:sW w U fT [bH,.obj bn (.map bw bv),dO,.blk bu 41 bG,B3,.obj ah (.map aj ai),.blk b6 45 B1,.blk b2 28 B0,.blk am 41 B4,ao] gg:=qs
 refine zF 0 Z Z Z Z (zD Z Z yG zJ Z) qt (fun hs=>wAl gg fT hs eY) (.inr Z) ?_
 rintro fU sf tr gh cg qu ⟨rfl,rfl⟩
 have qv:sW w U fU [bH,.obj bn (.map bw bv),dO,.blk bu 41 bG,B3,.obj ah (.map aj ai),.blk b6 45 B1,.blk b2 28 B0,.blk am 41 B4,ao] gh:=qu
 refine zF 0 Z Z Z Z (zD Z Z yL (zB Z zJ) Z) qv (fun hs=>wBQ p1 gh fU hs dx) (.inr Z) ?_
 rintro iy sg tt eA ci qw ⟨rfl,rfl⟩
 have qx:sW w U iy [bH,.obj bn (.map bw bv),dO,.blk bu 41 bG,B3,.obj ah (.map aj ai),.blk b6 45 B1,.blk b2 28 B0,.blk am 41 B4,ao] eA:=qw
 have q:=qx.freezeR (k:=2) (n:=ap.edges.length) rfl (wAD (f:=wAQ) (sz:=7) (fun _=>rfl) ap.edges) (by decide)
 obtain ⟨fV,cm,rv,qy⟩:=q
 have qz:sW w U fV [bH,.obj bn (.map bw bv),.blk bu 41 bG,B3,.obj ah (.map aj ai),.blk b6 45 B1,.blk b2 28 B0,.blk am 41 B4,ao] eA:=qy
 have mY:=mT.le cg
 have mZ:=mY.le ci
 have m3:=mZ.le cm
 have m4:=mU.le cg
 have m5:=m4.le ci
 have m6:=m5.le cm
 have m7:=mV.le cg
 have m8:=m7.le ci
 have m9:=m8.le cm
 have n3:=mW.le cg
 have n4:=n3.le ci
 have n5:=n4.le cm
 refine zF 2 Z Z Z Z (zD Z Z yl (zB Z (zB Z (zB Z zJ))) Z) qz (fun hs=>wAd ap gq fq gx ft gy fu gz fw gA bn bw bv dM eH dd de eA fV hs m3 m6 m9 n5 mX rv cZ) (.inl Z) ?_
 rintro eo sj tv i4 ik qA ⟨rfl,rfl⟩
 have qB:sW w U eo [bH,.obj bn (.map bw bv),.blk bu 41 bG,B3,.obj ah (.map aj ai),.blk b6 45 B1,.blk b2 28 B0,.blk am 41 B4,ao] i4:=qA
 let fG:List Value:=[jV bf.Lo,jV bf.Hi]
 refine zU (j:=2) (vs:=fG) Z Z Z Z qB Z Z Z Z zZ (zA Z) Z Z Z ?_
 intro i5 qC
 have qD:sW w U eo [bH,.obj bn (.map bw bv),.blk bu 41 fG,B3,.obj ah (.map aj ai),.blk b6 45 B1,.blk b2 28 B0,.blk am 41 B4,ao] i5:=qC
 refine zh ?_
 cases db
 have n6:=bd.le ij
 have n7:=n6.le cg
 have n8:=n7.le ci
 have n9:=n8.le cm
 have oa:=n9.le ik
 exact zL ⟨rfl,⟨eo,bu,bR,bS,cX,cY,rfl,rfl,bT,bx,(((((a9.trans ij).trans cg).trans ci).trans cm).trans ik),(qD.pick [3,4,5,6,7,8,2] _ (by decide) rfl),oa⟩⟩
 rintro tF sv ⟨iz,bi,gE,gF,dm,gG,jg,gH,gI,gJ,il,c6,oc⟩
 refine sR (wKg (.fx 10 (.fx 11 (.fl 12 .nil) .stop) .stop)) Z (oR Z (zE Z dm zX Z zC) (oL Z (c6.ldB (j:=4) Z Z Z zG (v:=jV bo) Z) (oR Z (zE Z gH zX Z zC) (oL Z (c6.ldB (j:=6) Z Z Z zG (v:=jV br) Z) (oR Z (yP Z Z Z) (oR Z (zE Z gH zX Z zC) (oL Z (c6.ldB (j:=6) Z Z Z zG (v:=jV bs) Z) (oR Z (zE Z dm zX Z zC) (oL Z (c6.ldB (j:=4) Z Z Z zG (v:=jV bp) Z) (oR Z (yP Z Z Z) (zr (pv:=[(0,jV (w64 (bo - br))),(1,jV (w64 (bs - bp)))]) (zs:=[jV 0,jV 0]) (cs:=[jV (w64 (bo - br)),jV (w64 (bs - bp))]) Z Z Z Z Z (wAH Z (wAH Z wAO)) zK zC zz Z Z Z Z Z c6 ?_)))))))))))
 intro eE gu qG
 have qH:sW w U iz [.row (some ⟨gu,0,none⟩) 2 3 1 (hD KL.encI [w64 (bo - br),w64 (bs - bp)]),B3,.obj ah (.map aj ai),.blk b6 45 B1,.blk b2 28 B0,.blk am 41 B4,ao,.blk bi 41 bD] eE:=qG
 have q:=qH.freezeR (k:=0) (n:=[w64 (bo - br),w64 (bs - bp)].length) rfl (wAD (f:=KL.encI) (sz:=1) (fun _=>rfl) [w64 (bo - br),w64 (bs - bp)]) (by decide)
 obtain ⟨fY,fh,rx,qI⟩:=q
 have qJ:sW w U fY [B3,.obj ah (.map aj ai),.blk b6 45 B1,.blk b2 28 B0,.blk am 41 B4,ao,.blk bi 41 bD] eE:=qI
 refine bnK ib fun tA od re=>zF 0 Z Z Z Z (zD Z Z Try.call73 (zB Z zJ) Z) qJ (fun hs=>wIC [w64 (bo - br),w64 (bs - bp)] (some ⟨gu,0,none⟩) 2 eE fY hs rx od) (.inr Z) ?_
 rintro cJ sk tw i6 fj qK ⟨rfl,rfl⟩
 have fd:sW w U cJ [B3,.obj ah (.map aj ai),.blk b6 45 B1,.blk b2 28 B0,.blk am 41 B4,ao,.blk bi 41 bD] i6:=qK
 refine oR Z (ye Z Z Z) (eN (ifc re ?_ ?_))
 intro eI rf
 refine cT Z eI (rR gFf Z (oM Z gG ?_))
 have oe:=oc.le fh
 have og:=oe.le fj
 refine oL Z (fd.ldC (f:=0) og (v:=jV (↑az:Int)) Z jg zG Z) (zr (pv:=[(0,jV (↑az:Int))]) (zs:=[jV 0]) (cs:=cH) Z Z Z Z Z (wAH Z wAO) zK zC zz Z Z Z Z Z fd ?_)
 intro i7 ja qL
 let fH:Res:=.row (some ⟨ja,0,none⟩) 1 3 1 (hD KL.encI [(↑az:Int)])
 have g7:sW w U cJ [fH,B3,.obj ah (.map aj ai),.blk b6 45 B1,.blk b2 28 B0,.blk am 41 B4,ao,.blk bi 41 bD] i7:=qL
 refine bnK rf fun io oh rh=>Zw (j:=6) (enc:=KL.encI) (xs:=bU) (ys:=[(↑az:Int)]) (zs:=io) rfl rfl rfl rfl rfl yb wGu rfl rfl rfl rfl rfl rfl g7 rfl rfl rfl (g7.srcR (j:=0) rfl (by decide) (wAD (f:=KL.encI) (sz:=1) (fun _=>rfl) [(↑az:Int)])) (fun _=>rfl) (fun _=>rfl) oh rfl ?_
 intro fy gC i8 qM
 have qN:sW w U cJ [fH,B3,.obj ah (.map aj ai),.blk b6 45 B1,.blk b2 28 B0,.blk am 41 B4,.row fy gC 3 1 (hD KL.encI io),.blk bi 41 bD] i8:=qM
 refine oA Z Z (zh (ZA (zL (rR fL2 Z (oR Z (ZH (za Z gJ Z) (congrArg (jV) g8.out)) (oM Z Z (zh ?_)))))))
 cases rh
 exact zL ⟨rfl,⟨cJ,fy,gC,rfl,gE,gF,dm,rfl,gI,(((be.trans il).trans fh).trans fj),(qN.pick [1,2,3,4,5,6] _ (by decide) rfl)⟩⟩
 intro eI ri
 refine cF Z eI (Zo (ZA (zL (rR fL2 Z (oR Z (ZH (za Z gJ Z) (congrArg (jV) g8.out)) (oM Z Z (zh ?_)))))))
 cases ri
 exact zL ⟨rfl,⟨cJ,bB,bO,rfl,gE,gF,dm,gG,gI,(((be.trans il).trans fh).trans fj),(fd.pick [0,1,2,3,4,5] _ (by decide) rfl)⟩⟩
 rintro tG sA ⟨iA,ip,jc,jj,sC,sD,sE,jh,ji,sP,qO⟩
 have jd:Hid (¬ ((↑(((↑p0.Readings.length:Int):Int) - 0).toNat:Int) < (↑p0.Readings.length:Int))):=zO (wAc)
 refine sR fL1 Z (oR Z (ze Z jj ji) (eN (zM (cF Z jd (Zb (zo (zo (ZV (zL (sR fL3 Z (oM Z jh (oA Z Z (oA Z Z (eN (zR ?_)))))))))))))))
 cases q6
 exact ⟨rfl,_,(wDf rfl rfl),iA,_,(qO.pick [5] _ (by decide) rfl),ip,jc,rfl,rfl⟩
 intro eF rj
 refine cT Z eF (sR fL3 Z (oM Z Z (oA Z Z (oA Z Z (eN (zR (zW ?_)))))))
 have qP:=gP.nilrow 3 1
 cases rj
 exact ⟨rfl,_,(wDf rfl rfl),bg,_,(qP.pick [0] _ (by decide) rfl),none,0,rfl,rfl⟩
end Go.Proofs.Ytlnfbjphfoipaaa
namespace Go.Proofs.Ytlnfbjphfoipaaa
open Go.KL
set_option maxHeartbeats 4000000
theorem wBV (p0:List wAJ) (ae:Option Addr) (af:Nat) (p1:Int) (p2:Int) (w:World) (U:PHeap) (hS:St ⟨w,[.row ae af 39 4 (hD wAB p0)],U⟩ U [.row ae af 39 4 (hD wAB p0)] w) {r:List wAJ} (hm:wAe p0 p1 p2=some r):Gv Try.prog 36 [.slice ae p0.length af,.int .i64 p1,.int .i64 p2] w (wBw w [.row ae af 39 4 (hD wAB p0)] U (fun U_ L_ v=>∃ (A0:Option Addr) (c0:Nat),v=.slice A0 r.length c0/\L_=[.row A0 c0 39 4 (hD wAB r)])) :=
 wIv (z:=.int .i64 0) (fun _=>rfl) (by omega) (fun _=>rfl) rfl (fun b c n i j cs w h1 h2 h3 h4 h5 h6 h7 h8=>Go.Proofs.delCalls36 b c n i j cs w h1 h2 h3 h4 h5 h6 h7 h8) hS hm
theorem wES (p0:List Int) (an:Option Addr) (ao:Nat) (p1:Int) (w:World) (U:PHeap) (hS:St0 w U []) (bh:Sl U 1 an ao p0.length (hD KL.encI p0)) {r:Int} (hm:wBr p0 p1=some r):Gv Try.prog 59 [.slice an p0.length ao,jV p1] w (wBw w [] U (fun U_ L_ v=>v=jV r/\L_=[])):=by
 unfold wBr at hm
 refine Gv.of Try.func59 Z Try.ntmps59 Try.results59 Z (sR fL1 Z (oA Z Z (eN (zM (sR fL3 Z (oM Z Z (oR Z (zx Z Z zK) (oM Z Z (eN (zd ?_))))))))))
 have q:=wBy hm
 obtain ⟨r3,ai⟩:=q
 have q:=wBx ai
 obtain ⟨ak,bk⟩:=q
 replace ak:=zO ak
 refine yX (fun k2 _ σ_ w_=>∃ (U_:PHeap),σ_ 8=jV (↑k2:Int)/\σ_ 0=.slice an p0.length ao/\σ_ 1=jV p1/\σ_ 7=jV (↑p0.length:Int)/\PHeap.Le U U_/\sW w U U_ [] w_) bk ?_ ?_ ?_
 exact ⟨U,Z,Z,Z,Z,(zP _),hS⟩
 rintro k2 ⟨⟩ bC bE W8 aj ⟨ap,ag,au,av,aw,a7,ah⟩ az bi
 try dsimp only at az
 have aq:Hid ((↑k2:Int) < (↑p0.length:Int)):=zO (wAs aj)
 replace aj:=zO aj
 have bm:Hid (w64 ((↑k2:Int) + 1)=(↑(k2 + 1):Int)):=zO (by have h1:=ak.out;have h2:=aq.out;rw [wAU] <;> omega)
 refine sR fL1 Z (oR Z (ze Z ag aw) (eN (zM (cT Z aq (kN (zM (zd (sR fL2 Z (oM Z ag (oA Z Z (eN (sR fL6 Z (oM Z av (oM Z au (oM Z Z (bnK az fun bs ax bn=>?_))))))))))))))))
 have bd:=bh.le a7
 have q:=bd.el (fun _=>rfl) (wAb ax)
 obtain ⟨bv,bA,be,bf⟩:=q
 refine oR Z (Zk Z Z be Z zK zC (wCl ax)) (oL Z (ah.ldC (f:=0) bf (v:=jV bs) Z Z zG Z) (oR Z (yO Z Z Z) (eN (ifc bn ?_ ?_))))
 intro af bo
 refine cT Z af (sR fL2 Z (oM Z Z (oA Z Z (eN (zR (zq (zW ?_)))))))
 have q:=wAY bo
 obtain ⟨br,bp,ba⟩:=q
 have q:=wBY hm ai (bi br ba)
 obtain rfl:=q
 refine zW (zq (zW ?_))
 cases bp
 exact ⟨Z,_,(ZL Z),ap,_,ah,Z,Z⟩
 intro af bq
 refine cF Z af (Zo (ZA (zL (rR fL2 Z (oR Z (ZH (za Z ag Z) (congrArg (jV) bm.out)) (oM Z Z (zh ?_)))))))
 have q:=nA bq
 obtain rfl:=q
 exact zL ⟨Z,_,Z,⟨ap,Z,au,av,aw,a7,ah⟩⟩
 rintro ⟨⟩ bD bt ⟨a8,bc,bw,bx,bb,bz,bg⟩ bj
 have ay:=wCm hm ai bj
 try dsimp only at ay
 have a9:Hid (¬ ((↑(((↑p0.length:Int):Int) - 0).toNat:Int) < (↑p0.length:Int))):=zO (wAc)
 refine sR fL1 Z (oR Z (ze Z bc bb) (eN (zM (cF Z a9 (Zb (zo (zo (ZV (zL (sR fL1 Z (oA Z Z (eN (zR ?_)))))))))))))
 cases ay
 exact ⟨Z,_,(ZL Z),a8,_,bg,Z,Z⟩
theorem wCt (p0:List Int) (af:Option Addr) (ag:Nat) (p1:Int) (w:World) (U:PHeap) (hS:St0 w U []) (ao:Sl U 1 af ag p0.length (hD KL.encI p0)) {r:Bool} (hm:wAq p0 p1=some r):Gv Try.prog 26 [.slice af p0.length ag,jV p1] w (wBw w [] U (fun U_ L_ v=>v=.bool r/\L_=[])):=by
 unfold wAq at hm
 refine Gv.of Try.func26 Z Try.ntmps26 Try.results26 Z (sR fL1 Z (oA Z Z (eN (sR gFg Z (oM Z Z (oM Z Z (bnK hm fun x1 h2 ai=>zF 0 Z Z Z Z (zD Z Z Try.call59 (zB Z (zB Z zJ)) Z) hS (fun hs=>wES p0 af ag p1 w U hs ao h2) (.inr Z) ?_)))))))
 rintro U4 L5 v6 W7 aq an ⟨rfl,rfl⟩
 have am:sW w U U4 [] W7:=an
 refine oR Z (Runs.geq Z Z Z) (oA Z Z (eN (zR ?_)))
 first | (obtain rfl:=nA ai) | cases ai
 exact ⟨Z,_,(ZL Z),U4,_,am,Z,Z⟩
theorem wBR  (w:World) (U:PHeap) (hS:St0 w U [])  {r:wAE} (hm:wAr =some r):Gv Try.prog 52 [] w (wBw w [] U (fun U_ L_ v=>∃ (au:Option Addr) (ba:Nat) (av:Option Addr) (bb:Nat) (aw:Option Addr) (bc:Nat) (ax:Option Addr) (bd:Nat),v=.agg #[.slice au r.Starts.length ba,.slice av r.Splits.length bb,.slice aw r.Clocks.length bc,.slice ax r.Readings.length bd]/\L_=[.row au ba 3 1 (hD KL.encI r.Starts),.row av bb 41 2 (hD wAC r.Splits),.row aw bc 43 3 (hD wAA r.Clocks),.row ax bd 39 4 (hD wAB r.Readings)])):=by
 unfold wAr at hm
 refine Gv.of Try.func52 Z Try.ntmps52 Try.results52 Z (sR (.fx 0 .nil .stop) Z ?_)
 let B0:List Value:=[.slice none 0 0,.slice none 0 0,.slice none 0 0,.slice none 0 0]
 refine zQ (cs:=B0) Z Z Z Z Z yC Z hS ?_
 intro W1 b2 bs
 refine eN (sR (.fx 0 (.fl 1 (.fl 2 (.fx 3 (.fl 4 (.fl 5 (.fx 6 (fC7_9 (.fx 10 (.fl 11 (.fx 12 .nil .stop)) .stop)) .stop))) .stop))) .stop) Z (zr (pv:=[(0,jV 0),(1,jV 300)]) (zs:=[jV 0,jV 0]) (cs:=[jV 0,jV 300]) Z Z Z Z Z (wAH Z (wAH Z wAO)) zK zC zz Z Z Z Z Z bs ?_))
 intro W5 b6 bt
 let B1:Res:=.row (some ⟨b6,0,none⟩) 2 3 1 (hD KL.encI [0,300])
 have bu:sW w U U [B1,.blk b2 28 B0] W5:=bt
 let B2:List Value:=[jV 0,jV 0]
 refine oR Z (zk (pv:=[(0,jV 1000),(1,jV 1200)]) (z:=B2) (cs:=[jV 1000,jV 1200]) Z (wAH Z (wAH Z wAO)) zi wBd Z Z) (oR Z (zk (pv:=[(0,jV 900),(1,jV 1500)]) (z:=B2) (cs:=[jV 900,jV 1500]) Z (wAH Z (wAH Z wAO)) zi wBd Z Z) (zr (pv:=[(0,.agg #[jV 1000,jV 1200]),(1,.agg #[jV 900,jV 1500])]) (zs:=[jV 0,jV 0,jV 0,jV 0]) (cs:=[jV 1000,jV 1200,jV 900,jV 1500]) Z Z Z Z Z (wAH Z (wAH Z wAO)) zn zZ zi Z Z Z Z Z bu ?_))
 intro bf ai bk
 let B3:Res:=.row (some ⟨ai,0,none⟩) 2 41 2 (hD wAC [(⟨1000,1200⟩:wAF),(⟨900,1500⟩:wAF)])
 have bm:sW w U U [B3,B1,.blk b2 28 B0] bf:=bk
 refine oR Z (zk (pv:=[(0,jV (-5)),(1,jV 5)]) (z:=B2) (cs:=[jV (-5),jV 5]) Z (wAH Z (wAH Z wAO)) zi wBd Z Z) ?_
 let B4:List Value:=[jV (-5),jV 5,jV 1]
 let B5:List Value:=[jV 0,jV 0,jV 0]
 refine oR Z (zk (pv:=[(0,.agg #[jV (-5),jV 5]),(1,jV 1)]) (z:=B5) (cs:=B4) Z (wAH Z (wAH Z wAO)) yZ wIZ Z Z) (zr (pv:=[(0,.agg B4.toArray)]) (zs:=B5) (cs:=B4) Z Z Z Z Z (wAH Z wAO) ZS yA yZ Z Z Z Z Z bm ?_)
 intro bg aj bn
 let B6:Res:=.row (some ⟨aj,0,none⟩) 1 43 3 (hD wAA [(⟨(⟨-5,5⟩:wAF),1⟩:wAG)])
 have bo:sW w U U [B6,B3,B1,.blk b2 28 B0] bg:=bn
 let B7:List Value:=[jV 0,jV 0,jV 0,jV 0]
 let B8:List Value:=[jV 0,jV 2,jV 0,jV 2250]
 refine oR Z (zk (pv:=[(1,jV 2),(3,jV 2250)]) (z:=B7) (cs:=B8) Z (wAH Z (wAH Z wAO)) ZX wDD Z Z) ?_
 let B9:List Value:=[jV 1,jV 1,jV 0,jV 1400]
 refine oR Z (zk (pv:=[(0,jV 1),(1,jV 1),(3,jV 1400)]) (z:=B7) (cs:=B9) Z (wAH Z (wAH Z (wAH Z wAO))) ZX wDD Z Z) ?_
 let ay:List Value:=[jV 1,jV 2,jV 0,jV 2499]
 refine oR Z (zk (pv:=[(0,jV 1),(1,jV 2),(3,jV 2499)]) (z:=B7) (cs:=ay) Z (wAH Z (wAH Z (wAH Z wAO))) ZX wDD Z Z) (zr (pv:=[(0,.agg B8.toArray),(1,.agg B9.toArray),(2,.agg ay.toArray)]) (zs:=[jV 0,jV 0,jV 0,jV 0,jV 0,jV 0,jV 0,jV 0,jV 0,jV 0,jV 0,jV 0]) (cs:=[jV 0,jV 2,jV 0,jV 2250,jV 1,jV 1,jV 0,jV 1400,jV 1,jV 2,jV 0,jV 2499]) Z Z Z Z Z (wAH Z (wAH Z (wAH Z wAO))) ZN ZW ZX Z Z Z Z Z bo ?_)
 intro bh ak bp
 let az:Res:=.row (some ⟨ak,0,none⟩) 3 39 4 (hD wAB [(⟨0,2,0,2250⟩:wAJ),(⟨1,1,0,1400⟩:wAJ),(⟨1,2,0,2499⟩:wAJ)])
 have bq:sW w U U [az,B6,B3,B1,.blk b2 28 B0] bh:=bp
 let af:List Value:=[.slice (some ⟨b6,0,none⟩) 2 2,.slice (some ⟨ai,0,none⟩) 2 2,.slice (some ⟨aj,0,none⟩) 1 1,.slice (some ⟨ak,0,none⟩) 3 3]
 refine oR Z (zk (pv:=[(0,.slice (some ⟨b6,0,none⟩) 2 2),(1,.slice (some ⟨ai,0,none⟩) 2 2),(2,.slice (some ⟨aj,0,none⟩) 1 1),(3,.slice (some ⟨ak,0,none⟩) 3 3)]) (z:=B0) (cs:=af) Z (wAH Z (wAH Z (wAH Z (wAH Z wAO)))) yC wIY Z Z) (zU (j:=4) (vs:=af) Z Z Z Z bq Z Z Z Z zY (zA Z) Z Z Z ?_)
 intro bi br
 have be:sW w U U [az,B6,B3,B1,.blk b2 28 af] bi:=br
 refine eN (zR ?_)
 cases hm
 exact ⟨rfl,_,(wFv (v:=.agg af.toArray) ⟨⟨_,rfl,(wAw zf zY (be.blkAt (k:=4) rfl) (vs:=af) rfl rfl)⟩,trivial⟩),U,_,(be.pick [3,2,1,0] _ (by decide) rfl),(some ⟨b6,0,none⟩),2,(some ⟨ai,0,none⟩),2,(some ⟨aj,0,none⟩),1,(some ⟨ak,0,none⟩),3,rfl,rfl⟩
theorem wJB (p0:wAE) (be:Option Addr) (bi:Nat) (bf:Option Addr) (bj:Nat) (bg:Option Addr) (bk:Nat) (bh:Option Addr) (bm:Nat) (p1:wAP) (p2:wAP) (w:World) (U:PHeap) (hS:St0 w U []) (dh:Sl U 1 be bi p0.Starts.length (hD KL.encI p0.Starts)) (di:Sl U 2 bf bj p0.Splits.length (hD wAC p0.Splits)) (dk:Sl U 3 bg bk p0.Clocks.length (hD wAA p0.Clocks)) (dl:Sl U 4 bh bm p0.Readings.length (hD wAB p0.Readings)) {r:wAF × Int} (hm:wFX p0 p1 p2=some r):Gv Try.prog 25 [.agg #[.slice be p0.Starts.length bi,.slice bf p0.Splits.length bj,.slice bg p0.Clocks.length bk,.slice bh p0.Readings.length bm],.agg #[jV p1.Skier,jV p1.Mat],.agg #[jV p2.Skier,jV p2.Mat]] w (wBw w [] U (fun U_ L_ v=>v=.tuple #[.agg #[jV r.1.Lo,jV r.1.Hi],jV r.2]/\L_=[])):=by
 unfold wFX at hm
 refine Gv.of Try.func25 Z Try.ntmps25 Try.results25 Z (sR (.fx 0 (.fx 1 gEs .stop) .stop) Z ?_)
 let B0:List Value:=[.slice be p0.Starts.length bi,.slice bf p0.Splits.length bj,.slice bg p0.Clocks.length bk,.slice bh p0.Readings.length bm]
 refine zy (cs:=B0) rfl rfl rfl rfl rfl rfl (by rfl) hS ?_
 intro W1 b2 da
 let B1:List Value:=[jV p1.Skier,jV p1.Mat]
 refine zy (cs:=B1) rfl rfl rfl rfl rfl rfl (by rfl) da ?_
 intro W5 b6 db
 let B2:List Value:=[jV p2.Skier,jV p2.Mat]
 refine zy (cs:=B2) rfl rfl rfl rfl rfl rfl (by rfl) db ?_
 intro W9 ak cP
 let B3:List Value:=[jV 0,jV 0]
 refine zQ (cs:=B3) Z Z Z Z Z zi Z cP ?_
 intro dL am ba
 refine oA Z Z (eN (sR (wDF (.fx 3 (.fx 4 (wHq (.nil)) .stop) .stop)) Z (oL Z (ba.ldBA (j:=3) Z Z Z zf zY (vs:=B0) Z Z) (oL Z (ba.ldBA (j:=2) Z Z Z ZY ZG (vs:=B1) Z Z) (oL Z (ba.ldBA (j:=1) Z Z Z ZY ZG (vs:=B2) Z Z) (zr (pv:=[(0,.agg B1.toArray),(1,.agg B2.toArray)]) (zs:=[jV 0,jV 0,jV 0,jV 0]) (cs:=[jV p1.Skier,jV p1.Mat,jV p2.Skier,jV p2.Mat]) Z Z Z Z Z (wAH Z (wAH Z wAO)) Zq ZG Zu Z Z Z Z Z ba ?_))))))
 intro bp bG cX
 have cY:sW w U U [.row (some ⟨bG,0,none⟩) 2 45 2 (hD wAT [p1,p2]),.blk am 41 B3,.blk ak 45 B2,.blk b6 45 B1,.blk b2 28 B0] bp:=cX
 have q:=cY.freezeR (k:=0) (n:=[p1,p2].length) rfl (wAD (f:=wAT) (sz:=2) (fun _=>rfl) [p1,p2]) (by decide)
 obtain ⟨bB,bd,dy,cZ⟩:=q
 have c6:sW w U bB [.blk am 41 B3,.blk ak 45 B2,.blk b6 45 B1,.blk b2 28 B0] bp:=cZ
 have cz:=dh.le bd
 have cA:=di.le bd
 have cB:=dk.le bd
 have cC:=dl.le bd
 have q:=bnd hm
 obtain ⟨⟨dA,bn⟩,cD,az⟩:=q
 try dsimp only at az
 refine zF 0 Z Z Z Z (zD Z Z Try.call46 (zB Z (zB Z zJ)) Z) c6 (fun hs=>wDs p0 be bi bf bj bg bk bh bm [p1,p2] (some ⟨bG,0,none⟩) 2 bp bB hs cz cA cB cC dy cD) (.inr Z) ?_
 rintro ap dH dW ax dQ bR bN
 rcases dA with _ | ay
 try dsimp only at az
 obtain ⟨rfl,rfl⟩:=bN
 have bS:sW w U ap [.blk am 41 B3,.blk ak 45 B2,.blk b6 45 B1,.blk b2 28 B0] ax:=bR
 refine oM Z Z (oR Z (zT Z Z (v:=.pointer none) Z) (oR Z (zT Z Z (v:=jV bn) Z) (oA Z Z (oA Z Z (eN (zM (sR fL2 Z (oM Z Z (oR Z (Ze Z Z Z) (eN (ifc az ?_ ?_)))))))))))
 intro br dt
 refine ZE (ZD (fun h=>h br.out)) (kN (zM (zt zu [3,1,2,1,2,0,0,3] gFk (by kernel_rfl) ?_)))
 have bb:=bS.drew
 generalize hw_W61:({ ax with drawn:=ax.drawn + 1 }:World)=ca at bb ⊢
 refine oM Z Z (oL Z (bb.ldBA (j:=2) Z Z Z ZY ZG (vs:=B1) Z Z) (oL Z (bb.ldBA (j:=1) Z Z Z ZY ZG (vs:=B2) Z Z) (bnK dt fun dZ cE du=>zF 0 Z Z Z Z (zD Z Z yL (zB Z zJ) Z) bb (fun hs=>wBQ p1 ca ap hs cE) (.inr Z) ?_)))
 rintro bC dI dX bF dR dd ⟨rfl,rfl⟩
 have de:sW w U bC [.blk am 41 B3,.blk ak 45 B2,.blk b6 45 B1,.blk b2 28 B0] bF:=dd
 refine bnK du fun d7 cG dv=>zF 0 Z Z Z Z (zD Z Z yL (zB Z zJ) Z) de (fun hs=>wBQ p2 bF bC hs cG) (.inr Z) ?_
 rintro bW dJ dY cb dS df ⟨rfl,rfl⟩
 have dO:sW w U bW [.blk am 41 B3,.blk ak 45 B2,.blk b6 45 B1,.blk b2 28 B0] cb:=df
 cases dv
 intro br dw
 refine cT Z br (sR gFa Z (oR Z (zk (pv:=[]) (z:=B3) (cs:=B3) Z wAO zi wBd Z Z) (oM Z Z (zU (j:=0) (vs:=B3) Z Z Z Z bS Z Z Z Z zZ (zA Z) Z Z Z ?_))))
 intro cc dg
 have bT:sW w U ap [.blk am 41 B3,.blk ak 45 B2,.blk b6 45 B1,.blk b2 28 B0] cc:=dg
 refine oA Z Z (eN (zR (zW ?_)))
 cases dw
 exact ⟨rfl,_,(wDg (rs:=[.cell 6 41,.tmp 7]) (vs:=[.agg B3.toArray,jV bn]) ⟨⟨_,rfl,(wAw Zn zZ (bT.blkAt (k:=0) rfl) (vs:=B3) rfl rfl)⟩,⟨rfl,trivial⟩⟩ rfl),ap,_,(bT.pick [] _ (by decide) rfl),rfl,rfl⟩
 try dsimp only at az
 obtain ⟨bq,bt,bH,bu,bI,bv,bJ,bw,bL,aq,av,au,bx,bM,rfl,rfl,cH,cI,cJ,cK,cL,cM⟩:=bN
 let B4:Res:=.blk bq 124 [.slice bt ay.Race.Starts.length bH,.slice bu ay.Race.Splits.length bI,.slice bv ay.Race.Clocks.length bJ,.slice bw ay.Race.Readings.length bL,.map (some aq),.slice bx ay.edges.length bM]
 have bU:sW w U ap [B4,.obj aq (.map av au),.blk am 41 B3,.blk ak 45 B2,.blk b6 45 B1,.blk b2 28 B0] ax:=bR
 refine oM Z Z (oR Z (zT Z Z (v:=.pointer (some ⟨bq,0,none⟩)) Z) (oR Z (zT Z Z (v:=jV bn) Z) (oA Z Z (oA Z Z (eN (zM (sR fL2 Z (oM Z Z (oR Z (Ze Z Z Z) (eN (ifc az ?_ ?_)))))))))))
 intro bs dx
 refine ZE (ZD (fun h=>h bs.out)) (kN (zM (zt zu [3,1,2,1,2,0,0,3] gFk (by kernel_rfl) ?_)))
 have bc:=bU.drew
 generalize hw_W98:({ ax with drawn:=ax.drawn + 1 }:World)=cd at bc ⊢
 refine oM Z Z (oL Z (bc.ldBA (j:=4) Z Z Z ZY ZG (vs:=B1) Z Z) (oL Z (bc.ldBA (j:=3) Z Z Z ZY ZG (vs:=B2) Z Z) (bnK dx fun dB cf dm=>zF 0 Z Z Z Z (zD Z Z yL (zB Z zJ) Z) bc (fun hs=>wBQ p1 cd ap hs cf) (.inr Z) ?_)))
 rintro bz dC dT bD a7 cN ⟨rfl,rfl⟩
 have cO:sW w U bz [B4,.obj aq (.map av au),.blk am 41 B3,.blk ak 45 B2,.blk b6 45 B1,.blk b2 28 B0] bD:=cN
 refine bnK dm fun dz cg dp=>zF 0 Z Z Z Z (zD Z Z yL (zB Z zJ) Z) cO (fun hs=>wBQ p2 bD bz hs cg) (.inr Z) ?_
 rintro bA dD dU bE a8 cQ ⟨rfl,rfl⟩
 have cR:sW w U bA [B4,.obj aq (.map av au),.blk am 41 B3,.blk ak 45 B2,.blk b6 45 B1,.blk b2 28 B0] bE:=cQ
 have ci:=cH.le a7
 have cm:=ci.le a8
 have cn:=cI.le a7
 have co:=cn.le a8
 have cp:=cJ.le a7
 have cr:=cp.le a8
 have ct:=cK.le a7
 have cu:=ct.le a8
 have cw:=cM.le a7
 have cx:=cw.le a8
 refine bnK dp fun bV cy dq=>zF 2 Z Z Z Z (zD Z Z yl (zB Z (zB Z (zB Z zJ))) Z) cR (fun hs=>wAd ay bq bt bH bu bI bv bJ bw bL aq av au bx bM dB dz bE bA hs cm co cr cu cL cx cy) (.inl Z) ?_
 rintro bo dE dV bX dP cS ⟨rfl,rfl⟩
 have cU:sW w U bo [B4,.obj aq (.map av au),.blk am 41 B3,.blk ak 45 B2,.blk b6 45 B1,.blk b2 28 B0] bX:=cS
 let B5:List Value:=[jV bV.Lo,jV bV.Hi]
 refine zU (j:=2) (vs:=B5) Z Z Z Z cU Z Z Z Z zZ (zA Z) Z Z Z ?_
 intro bY cV
 have bO:sW w U bo [B4,.obj aq (.map av au),.blk am 41 B5,.blk ak 45 B2,.blk b6 45 B1,.blk b2 28 B0] bY:=cV
 refine oA Z Z (eN (zR ?_))
 cases dq
 exact ⟨rfl,_,(wDg (rs:=[.cell 6 41,.tmp 7]) (vs:=[.agg B5.toArray,jV 0]) ⟨⟨_,rfl,(wAw Zn zZ (bO.blkAt (k:=2) rfl) (vs:=B5) rfl rfl)⟩,⟨rfl,trivial⟩⟩ rfl),bo,_,(bO.pick [] _ (by decide) rfl),rfl,rfl⟩
 intro bs dr
 refine cT Z bs (sR gFa Z (oR Z (zk (pv:=[]) (z:=B3) (cs:=B3) Z wAO zi wBd Z Z) (oM Z Z (zU (j:=2) (vs:=B3) Z Z Z Z bU Z Z Z Z zZ (zA Z) Z Z Z ?_))))
 intro bZ cW
 have bQ:sW w U ap [B4,.obj aq (.map av au),.blk am 41 B3,.blk ak 45 B2,.blk b6 45 B1,.blk b2 28 B0] bZ:=cW
 refine oA Z Z (eN (zR (zW ?_)))
 cases dr
 exact ⟨rfl,_,(wDg (rs:=[.cell 6 41,.tmp 7]) (vs:=[.agg B3.toArray,jV bn]) ⟨⟨_,rfl,(wAw Zn zZ (bQ.blkAt (k:=2) rfl) (vs:=B3) rfl rfl)⟩,⟨rfl,trivial⟩⟩ rfl),ap,_,(bQ.pick [] _ (by decide) rfl),rfl,rfl⟩
theorem wFK (p0:wAE) (ak:Option Addr) (ap:Nat) (am:Option Addr) (aq:Nat) (an:Option Addr) (au:Nat) (ao:Option Addr) (av:Nat) (p1:wAK) (w:World) (U:PHeap) (hS:St0 w U []) (bm:Sl U 1 ak ap p0.Starts.length (hD KL.encI p0.Starts)) (bn:Sl U 2 am aq p0.Splits.length (hD wAC p0.Splits)) (bo:Sl U 3 an au p0.Clocks.length (hD wAA p0.Clocks)) (bp:Sl U 4 ao av p0.Readings.length (hD wAB p0.Readings)) {r:Bool} (hm:wCB p0 p1=some r):Gv Try.prog 101 [.agg #[.slice ak p0.Starts.length ap,.slice am p0.Splits.length aq,.slice an p0.Clocks.length au,.slice ao p0.Readings.length av],.agg #[jV p1.Kind,jV p1.Skier,jV p1.Index,.bool p1.Up]] w (wBw w [] U (fun U_ L_ v=>v=.bool r/\L_=[])):=by
 unfold wCB at hm
 refine Gv.of Try.func101 Z Try.ntmps101 Try.results101 Z ?_
 by_cases c1:p1.Kind=0
 have cI:=hm;rw [if_pos c1] at cI
 refine sR gEu Z ?_
 let B0:List Value:=[.slice ak p0.Starts.length ap,.slice am p0.Splits.length aq,.slice an p0.Clocks.length au,.slice ao p0.Readings.length av]
 refine zy (cs:=B0) rfl rfl rfl rfl rfl rfl (by rfl) hS ?_
 intro W6 b7 eY
 let B1:List Value:=[jV p1.Kind,jV p1.Skier,jV p1.Index,.bool p1.Up]
 refine zy (cs:=B1) rfl rfl rfl rfl rfl rfl (by rfl) eY ?_
 intro cc bF d9
 refine yI rfl rfl rfl rfl rfl rfl (eN (zM (zt zu [3,1,2,3,2,3,1,3,3,1,1,2,3,3] gFl (by kernel_rfl) ?_)))
 have bQ:=d9.drew
 generalize hw_W15:({ cc with drawn:=cc.drawn + 1 }:World)=cO at bQ ⊢
 refine oR Z (zE Z Z zl Z yM) (oL Z (bQ.ldB (j:=0) Z Z Z yU (v:=jV p1.Kind) Z) (bnK cI fun gE di fj=>zF 0 Z Z Z Z (zD Z Z yR (zB Z (zB Z (zB Z zJ))) Z) bQ (fun hs=>wBb p1.Kind 0 3 cO U hs di) (.inr Z) ?_))
 rintro bB fN gu cp bu eG ⟨rfl,rfl⟩
 have bg:sW w U bB [.blk bF 78 B1,.blk b7 28 B0] cp:=eG
 refine oM Z Z (ifc fj ?_ ?_)
 intro ah fy
 refine zc Z Z Z (zS Z Z (congrArg hH ah.out)) (fun _=>zE Z Z zl Z yM) (ZF Z Z Z (zS Z Z (congrArg hH ah.out)) (bg.ldB (j:=0) Z Z Z yU (v:=jV p1.Kind) Z) Z (ZF Z Z Z (zS Z Z (congrArg hH ah.out)) (bg.ldBA (j:=1) Z Z Z zf zY (vs:=B0) Z Z) Z (ZF Z Z Z (zS Z Z (congrArg hH ah.out)) (bg.ldBA (j:=0) Z Z Z Zz Zh (vs:=B1) Z Z) Z ?_)))
 have q:=bnd fy
 obtain ⟨⟨⟩,dA,cH⟩:=q
 try dsimp only at cH
 refine zF 0 Z Z Z (zS Z Z (congrArg hH ah.out)) (zD Z Z yV zJ Z) bg (fun hs=>wAv cp bB hs dA) (.inr Z) ?_
 rintro bY fR gx ct bv eH ⟨rfl,rfl⟩
 have eI:sW w U bY [.blk bF 78 B1,.blk b7 28 B0] ct:=eH
 refine zc rfl rfl rfl (zS rfl rfl (congrArg hH ah.out)) (fun _=>(yi (i:=0) rfl rfl (congrArg (jV) c1) Zp ZU (by decide) (by decide) (wCh yY ZU rfl))) (zc rfl rfl rfl (zS rfl rfl (congrArg hH ah.out)) (fun _=>Runs.fld rfl rfl Zv rfl (wEV Try.isAgg165 (v:=.func (.func 108) #[] #[]) rfl)) ?_)
 have dB:=bm.le bu
 have dC:=dB.le bv
 have dD:=bn.le bu
 have dE:=dD.le bv
 have dH:=bo.le bu
 have dI:=dH.le bv
 have dJ:=bp.le bu
 have dK:=dJ.le bv
 refine bnK cH fun gI dL fz=>zF 0 Z Z Z (zS Z Z (congrArg hH ah.out)) (zD Z Z Try.call108 (zB Z (zB Z zJ)) Z) eI (fun hs=>wGO p0 ak ap am aq an au ao av p1 ct bY hs dC dE dI dK dL) (.inr Z) ?_
 rintro bZ fS gy cV gf eJ ⟨rfl,rfl⟩
 have eO:sW w U bZ [.blk bF 78 B1,.blk b7 28 B0] cV:=eJ
 refine oR Z (zN Z (congrArg hH ah.out) Z) (oA Z Z (eN (zR ?_)))
 have hE:=nA fz;first | subst r | cases hE
 exact ⟨rfl,_,(ZL rfl),bZ,_,(eO.pick [] _ (by decide) rfl),rfl,rfl⟩
 intro ah fA
 refine Zf Z Z Z (zV Z Z (congrArg hH (hJ.2 ah.out)) Z) (Zf Z Z Z (zV Z Z (congrArg hH (hJ.2 ah.out)) Z) (Zf Z Z Z (zV Z Z (congrArg hH (hJ.2 ah.out)) Z) (Zf Z Z Z (zV Z Z (congrArg hH (hJ.2 ah.out)) Z) (ZC Z Z Z (zV Z Z (congrArg hH (hJ.2 ah.out)) Z) (Zf Z Z Z (zV Z Z (congrArg hH (hJ.2 ah.out)) Z) (Zf Z Z Z (zV Z Z (congrArg hH (hJ.2 ah.out)) Z) (ZC Z Z Z (zV Z Z (congrArg hH (hJ.2 ah.out)) Z) (oR Z (zg Z (congrArg hH (hJ.2 ah.out)) Z) (oA Z Z (eN (zR ?_)))))))))))
 have hE:=nA fA;first | subst r | cases hE
 exact ⟨rfl,_,(ZL rfl),bB,_,(bg.pick [] _ (by decide) rfl),rfl,rfl⟩
 by_cases c2:p1.Kind=1
 have cJ:=hm;rw [if_neg c1,if_pos c2] at cJ
 refine sR gEu Z ?_
 let B2:List Value:=[.slice ak p0.Starts.length ap,.slice am p0.Splits.length aq,.slice an p0.Clocks.length au,.slice ao p0.Readings.length av]
 refine zy (cs:=B2) rfl rfl rfl rfl rfl rfl (by rfl) hS ?_
 intro f4 bJ eU
 let B3:List Value:=[jV p1.Kind,jV p1.Skier,jV p1.Index,.bool p1.Up]
 refine zy (cs:=B3) rfl rfl rfl rfl rfl rfl (by rfl) eU ?_
 intro cu bL eV
 refine yI rfl rfl rfl rfl rfl rfl (eN (zM (zt zu [3,1,2,3,2,3,1,3,3,1,1,2,3,3] gFl (by kernel_rfl) ?_)))
 have bT:=eV.drew
 generalize hw_W66:({ cu with drawn:=cu.drawn + 1 }:World)=cW at bT ⊢
 refine oR Z (zE Z Z zl Z yM) (oL Z (bT.ldB (j:=0) Z Z Z yU (v:=jV p1.Kind) Z) (bnK cJ fun gJ dM fC=>zF 0 Z Z Z Z (zD Z Z yR (zB Z (zB Z (zB Z zJ))) Z) bT (fun hs=>wBb p1.Kind 0 3 cW U hs dM) (.inr Z) ?_))
 rintro bD fT gz cw bw eX ⟨rfl,rfl⟩
 have bh:sW w U bD [.blk bL 78 B3,.blk bJ 28 B2] cw:=eX
 refine oM Z Z (ifc fC ?_ ?_)
 intro ai fD
 refine zc Z Z Z (zS Z Z (congrArg hH ai.out)) (fun _=>zE Z Z zl Z yM) (ZF Z Z Z (zS Z Z (congrArg hH ai.out)) (bh.ldB (j:=0) Z Z Z yU (v:=jV p1.Kind) Z) Z (ZF Z Z Z (zS Z Z (congrArg hH ai.out)) (bh.ldBA (j:=1) Z Z Z zf zY (vs:=B2) Z Z) Z (ZF Z Z Z (zS Z Z (congrArg hH ai.out)) (bh.ldBA (j:=0) Z Z Z Zz Zh (vs:=B3) Z Z) Z ?_)))
 have q:=bnd fD
 obtain ⟨⟨⟩,dN,cK⟩:=q
 try dsimp only at cK
 refine zF 0 Z Z Z (zS Z Z (congrArg hH ai.out)) (zD Z Z yV zJ Z) bh (fun hs=>wAv cw bD hs dN) (.inr Z) ?_
 rintro ca fU gA cx bx eZ ⟨rfl,rfl⟩
 have e0:sW w U ca [.blk bL 78 B3,.blk bJ 28 B2] cx:=eZ
 refine zc rfl rfl rfl (zS rfl rfl (congrArg hH ai.out)) (fun _=>(yi (i:=1) rfl rfl (congrArg (jV) c2) Zp ZU (by decide) (by decide) (wCh yY ZU rfl))) (zc rfl rfl rfl (zS rfl rfl (congrArg hH ai.out)) (fun _=>Runs.fld rfl rfl Zv rfl (wEV Try.isAgg165 (v:=.func (.func 111) #[] #[]) rfl)) ?_)
 have dO:=bm.le bw
 have dP:=dO.le bx
 have dQ:=bn.le bw
 have dR:=dQ.le bx
 have dS:=bo.le bw
 have dT:=dS.le bx
 have dU:=bp.le bw
 have dV:=dU.le bx
 refine bnK cK fun gK dW fE=>zF 0 Z Z Z (zS Z Z (congrArg hH ai.out)) (zD Z Z Try.call111 (zB Z (zB Z zJ)) Z) e0 (fun hs=>wGR p0 ak ap am aq an au ao av p1 cx ca hs dP dR dT dV dW) (.inr Z) ?_
 rintro cb fG gg cM f8 dX ⟨rfl,rfl⟩
 have dY:sW w U cb [.blk bL 78 B3,.blk bJ 28 B2] cM:=dX
 refine oR Z (zN Z (congrArg hH ai.out) Z) (oA Z Z (eN (zR ?_)))
 have hE:=nA fE;first | subst r | cases hE
 exact ⟨rfl,_,(ZL rfl),cb,_,(dY.pick [] _ (by decide) rfl),rfl,rfl⟩
 intro ai fb
 refine Zf Z Z Z (zV Z Z (congrArg hH (hJ.2 ai.out)) Z) (Zf Z Z Z (zV Z Z (congrArg hH (hJ.2 ai.out)) Z) (Zf Z Z Z (zV Z Z (congrArg hH (hJ.2 ai.out)) Z) (Zf Z Z Z (zV Z Z (congrArg hH (hJ.2 ai.out)) Z) (ZC Z Z Z (zV Z Z (congrArg hH (hJ.2 ai.out)) Z) (Zf Z Z Z (zV Z Z (congrArg hH (hJ.2 ai.out)) Z) (Zf Z Z Z (zV Z Z (congrArg hH (hJ.2 ai.out)) Z) (ZC Z Z Z (zV Z Z (congrArg hH (hJ.2 ai.out)) Z) (oR Z (zg Z (congrArg hH (hJ.2 ai.out)) Z) (oA Z Z (eN (zR ?_)))))))))))
 have hE:=nA fb;first | subst r | cases hE
 exact ⟨rfl,_,(ZL rfl),bD,_,(bh.pick [] _ (by decide) rfl),rfl,rfl⟩
 by_cases c3:p1.Kind=2
 have cA:=hm;rw [if_neg c1,if_neg c2,if_pos c3] at cA
 refine sR gEu Z ?_
 let B4:List Value:=[.slice ak p0.Starts.length ap,.slice am p0.Splits.length aq,.slice an p0.Clocks.length au,.slice ao p0.Readings.length av]
 refine zy (cs:=B4) rfl rfl rfl rfl rfl rfl (by rfl) hS ?_
 intro fV bE dZ
 let B5:List Value:=[jV p1.Kind,jV p1.Skier,jV p1.Index,.bool p1.Up]
 refine zy (cs:=B5) rfl rfl rfl rfl rfl rfl (by rfl) dZ ?_
 intro cd bG d7
 refine yI rfl rfl rfl rfl rfl rfl (eN (zM (zt zu [3,1,2,3,2,3,1,3,3,1,1,2,3,3] gFl (by kernel_rfl) ?_)))
 have bO:=d7.drew
 generalize hw_W117:({ cd with drawn:=cd.drawn + 1 }:World)=cN at bO ⊢
 refine oR Z (zE Z Z zl Z yM) (oL Z (bO.ldB (j:=0) Z Z Z yU (v:=jV p1.Kind) Z) (bnK cA fun gC cX fc=>zF 0 Z Z Z Z (zD Z Z yR (zB Z (zB Z (zB Z zJ))) Z) bO (fun hs=>wBb p1.Kind 0 3 cN U hs cX) (.inr Z) ?_))
 rintro bz fH gh cf bq ef ⟨rfl,rfl⟩
 have bd:sW w U bz [.blk bG 78 B5,.blk bE 28 B4] cf:=ef
 refine oM Z Z (ifc fc ?_ ?_)
 intro af fd
 refine zc Z Z Z (zS Z Z (congrArg hH af.out)) (fun _=>zE Z Z zl Z yM) (ZF Z Z Z (zS Z Z (congrArg hH af.out)) (bd.ldB (j:=0) Z Z Z yU (v:=jV p1.Kind) Z) Z (ZF Z Z Z (zS Z Z (congrArg hH af.out)) (bd.ldBA (j:=1) Z Z Z zf zY (vs:=B4) Z Z) Z (ZF Z Z Z (zS Z Z (congrArg hH af.out)) (bd.ldBA (j:=0) Z Z Z Zz Zh (vs:=B5) Z Z) Z ?_)))
 have q:=bnd fd
 obtain ⟨⟨⟩,cY,cB⟩:=q
 try dsimp only at cB
 refine zF 0 Z Z Z (zS Z Z (congrArg hH af.out)) (zD Z Z yV zJ Z) bd (fun hs=>wAv cf bz hs cY) (.inr Z) ?_
 rintro bU fI gi cg br eg ⟨rfl,rfl⟩
 have eh:sW w U bU [.blk bG 78 B5,.blk bE 28 B4] cg:=eg
 refine zc rfl rfl rfl (zS rfl rfl (congrArg hH af.out)) (fun _=>(yi (i:=2) rfl rfl (congrArg (jV) c3) Zp ZU (by decide) (by decide) (wCh yY ZU rfl))) (zc rfl rfl rfl (zS rfl rfl (congrArg hH af.out)) (fun _=>Runs.fld rfl rfl Zv rfl (wEV Try.isAgg165 (v:=.func (.func 114) #[] #[]) rfl)) ?_)
 have cZ:=bm.le bq
 have c6:=cZ.le br
 have da:=bn.le bq
 have db:=da.le br
 have dd:=bo.le bq
 have de:=dd.le br
 have df:=bp.le bq
 have dg:=df.le br
 refine bnK cB fun gD dh ff=>zF 0 Z Z Z (zS Z Z (congrArg hH af.out)) (zD Z Z Try.call114 (zB Z (zB Z zJ)) Z) eh (fun hs=>wGU p0 ak ap am aq an au ao av p1 cg bU hs c6 db de dg dh) (.inr Z) ?_
 rintro bV fJ gj cP f9 ej ⟨rfl,rfl⟩
 have ek:sW w U bV [.blk bG 78 B5,.blk bE 28 B4] cP:=ej
 refine oR Z (zN Z (congrArg hH af.out) Z) (oA Z Z (eN (zR ?_)))
 have hE:=nA ff;first | subst r | cases hE
 exact ⟨rfl,_,(ZL rfl),bV,_,(ek.pick [] _ (by decide) rfl),rfl,rfl⟩
 intro af fg
 refine Zf Z Z Z (zV Z Z (congrArg hH (hJ.2 af.out)) Z) (Zf Z Z Z (zV Z Z (congrArg hH (hJ.2 af.out)) Z) (Zf Z Z Z (zV Z Z (congrArg hH (hJ.2 af.out)) Z) (Zf Z Z Z (zV Z Z (congrArg hH (hJ.2 af.out)) Z) (ZC Z Z Z (zV Z Z (congrArg hH (hJ.2 af.out)) Z) (Zf Z Z Z (zV Z Z (congrArg hH (hJ.2 af.out)) Z) (Zf Z Z Z (zV Z Z (congrArg hH (hJ.2 af.out)) Z) (ZC Z Z Z (zV Z Z (congrArg hH (hJ.2 af.out)) Z) (oR Z (zg Z (congrArg hH (hJ.2 af.out)) Z) (oA Z Z (eN (zR ?_)))))))))))
 have hE:=nA fg;first | subst r | cases hE
 exact ⟨rfl,_,(ZL rfl),bz,_,(bd.pick [] _ (by decide) rfl),rfl,rfl⟩
 by_cases c4:p1.Kind=3
 have cC:=hm;rw [if_neg c1,if_neg c2,if_neg c3,if_pos c4] at cC
 refine sR gEu Z ?_
 let B6:List Value:=[.slice ak p0.Starts.length ap,.slice am p0.Splits.length aq,.slice an p0.Clocks.length au,.slice ao p0.Readings.length av]
 refine zy (cs:=B6) rfl rfl rfl rfl rfl rfl (by rfl) hS ?_
 intro fY bH en
 let B7:List Value:=[jV p1.Kind,jV p1.Skier,jV p1.Index,.bool p1.Up]
 refine zy (cs:=B7) rfl rfl rfl rfl rfl rfl (by rfl) en ?_
 intro ci bI eo
 refine yI rfl rfl rfl rfl rfl rfl (eN (zM (zt zu [3,1,2,3,2,3,1,3,3,1,1,2,3,3] gFl (by kernel_rfl) ?_)))
 have bR:=eo.drew
 generalize hw_W168:({ ci with drawn:=ci.drawn + 1 }:World)=cQ at bR ⊢
 refine oR Z (zE Z Z zl Z yM) (oL Z (bR.ldB (j:=0) Z Z Z yU (v:=jV p1.Kind) Z) (bnK cC fun gF dk fh=>zF 0 Z Z Z Z (zD Z Z yR (zB Z (zB Z (zB Z zJ))) Z) bR (fun hs=>wBb p1.Kind 0 3 cQ U hs dk) (.inr Z) ?_))
 rintro bA fK gm cm bs ep ⟨rfl,rfl⟩
 have be:sW w U bA [.blk bI 78 B7,.blk bH 28 B6] cm:=ep
 refine oM Z Z (ifc fh ?_ ?_)
 intro ag fk
 refine zc Z Z Z (zS Z Z (congrArg hH ag.out)) (fun _=>zE Z Z zl Z yM) (ZF Z Z Z (zS Z Z (congrArg hH ag.out)) (be.ldB (j:=0) Z Z Z yU (v:=jV p1.Kind) Z) Z (ZF Z Z Z (zS Z Z (congrArg hH ag.out)) (be.ldBA (j:=1) Z Z Z zf zY (vs:=B6) Z Z) Z (ZF Z Z Z (zS Z Z (congrArg hH ag.out)) (be.ldBA (j:=0) Z Z Z Zz Zh (vs:=B7) Z Z) Z ?_)))
 have q:=bnd fk
 obtain ⟨⟨⟩,dl,cD⟩:=q
 try dsimp only at cD
 refine zF 0 Z Z Z (zS Z Z (congrArg hH ag.out)) (zD Z Z yV zJ Z) be (fun hs=>wAv cm bA hs dl) (.inr Z) ?_
 rintro bW fM gp cn bt er ⟨rfl,rfl⟩
 have eu:sW w U bW [.blk bI 78 B7,.blk bH 28 B6] cn:=er
 refine zc rfl rfl rfl (zS rfl rfl (congrArg hH ag.out)) (fun _=>(yi (i:=3) rfl rfl (congrArg (jV) c4) Zp ZU (by decide) (by decide) (wCh yY ZU rfl))) (zc rfl rfl rfl (zS rfl rfl (congrArg hH ag.out)) (fun _=>Runs.fld rfl rfl Zv rfl (wEV Try.isAgg165 (v:=.func (.func 117) #[] #[]) rfl)) ?_)
 have dm:=bm.le bs
 have dp:=dm.le bt
 have dq:=bn.le bs
 have dr:=dq.le bt
 have dt:=bo.le bs
 have du:=dt.le bt
 have dv:=bp.le bs
 have dw:=dv.le bt
 refine bnK cD fun gG dx fm=>zF 0 Z Z Z (zS Z Z (congrArg hH ag.out)) (zD Z Z Try.call117 (zB Z (zB Z zJ)) Z) eu (fun hs=>wFz p0 ak ap am aq an au ao av p1 cn bW hs dp dr du dw dx) (.inr Z) ?_
 rintro bX fO gq cR ga ew ⟨rfl,rfl⟩
 have ey:sW w U bX [.blk bI 78 B7,.blk bH 28 B6] cR:=ew
 refine oR Z (zN Z (congrArg hH ag.out) Z) (oA Z Z (eN (zR ?_)))
 have hE:=nA fm;first | subst r | cases hE
 exact ⟨rfl,_,(ZL rfl),bX,_,(ey.pick [] _ (by decide) rfl),rfl,rfl⟩
 intro ag fq
 refine Zf Z Z Z (zV Z Z (congrArg hH (hJ.2 ag.out)) Z) (Zf Z Z Z (zV Z Z (congrArg hH (hJ.2 ag.out)) Z) (Zf Z Z Z (zV Z Z (congrArg hH (hJ.2 ag.out)) Z) (Zf Z Z Z (zV Z Z (congrArg hH (hJ.2 ag.out)) Z) (ZC Z Z Z (zV Z Z (congrArg hH (hJ.2 ag.out)) Z) (Zf Z Z Z (zV Z Z (congrArg hH (hJ.2 ag.out)) Z) (Zf Z Z Z (zV Z Z (congrArg hH (hJ.2 ag.out)) Z) (ZC Z Z Z (zV Z Z (congrArg hH (hJ.2 ag.out)) Z) (oR Z (zg Z (congrArg hH (hJ.2 ag.out)) Z) (oA Z Z (eN (zR ?_)))))))))))
 have hE:=nA fq;first | subst r | cases hE
 exact ⟨rfl,_,(ZL rfl),bA,_,(be.pick [] _ (by decide) rfl),rfl,rfl⟩
 have cE:=hm;rw [if_neg c1,if_neg c2,if_neg c3,if_neg c4] at cE
 refine sR gEu Z ?_
 let B8:List Value:=[.slice ak p0.Starts.length ap,.slice am p0.Splits.length aq,.slice an p0.Clocks.length au,.slice ao p0.Readings.length av]
 refine zy (cs:=B8) rfl rfl rfl rfl rfl rfl (by rfl) hS ?_
 intro fZ cy eA
 let B9:List Value:=[jV p1.Kind,jV p1.Skier,jV p1.Index,.bool p1.Up]
 refine zy (cs:=B9) rfl rfl rfl rfl rfl rfl (by rfl) eA ?_
 intro co cz eD
 refine yI rfl rfl rfl rfl rfl rfl (eN (zM (zt zu [3,1,2,3,2,3,1,3,3,1,1,2,3,3] gFl (by kernel_rfl) ?_)))
 have bS:=eD.drew
 generalize hw_W219:({ co with drawn:=co.drawn + 1 }:World)=cS at bS ⊢
 refine oR Z (zE Z Z zl Z yM) (oL Z (bS.ldB (j:=0) Z Z Z yU (v:=jV p1.Kind) Z) (bnK cE fun gH dy ft=>zF 0 Z Z Z Z (zD Z Z yR (zB Z (zB Z (zB Z zJ))) Z) bS (fun hs=>wBb p1.Kind 0 3 cS U hs dy) (.inr Z) ?_))
 rintro bC fP gv cr gb eE ⟨rfl,rfl⟩
 have bf:sW w U bC [.blk cz 78 B9,.blk cy 28 B8] cr:=eE
 refine oM Z Z (ifc ft ?_ ?_)
 intro aj fu
 refine zc Z Z Z (zS Z Z (congrArg hH aj.out)) (fun _=>zE Z Z zl Z yM) (ZF Z Z Z (zS Z Z (congrArg hH aj.out)) (bf.ldB (j:=0) Z Z Z yU (v:=jV p1.Kind) Z) Z (ZF Z Z Z (zS Z Z (congrArg hH aj.out)) (bf.ldBA (j:=1) Z Z Z zf zY (vs:=B8) Z Z) Z (ZF Z Z Z (zS Z Z (congrArg hH aj.out)) (bf.ldBA (j:=0) Z Z Z Zz Zh (vs:=B9) Z Z) Z ?_)))
 have q:=bnd fu
 obtain ⟨⟨⟩,dz,cG⟩:=q
 try dsimp only at cG
 refine zF 0 Z Z Z (zS Z Z (congrArg hH aj.out)) (zD Z Z yV zJ Z) bf (fun hs=>wAv cr bC hs dz) (.inr Z) ?_
 rintro cL fQ gw cU ge eF ⟨rfl,rfl⟩
 have f7:sW w U cL [.blk cz 78 B9,.blk cy 28 B8] cU:=eF
 cases cG
 intro aj fw
 refine Zf Z Z Z (zV Z Z (congrArg hH (hJ.2 aj.out)) Z) (Zf Z Z Z (zV Z Z (congrArg hH (hJ.2 aj.out)) Z) (Zf Z Z Z (zV Z Z (congrArg hH (hJ.2 aj.out)) Z) (Zf Z Z Z (zV Z Z (congrArg hH (hJ.2 aj.out)) Z) (ZC Z Z Z (zV Z Z (congrArg hH (hJ.2 aj.out)) Z) (Zf Z Z Z (zV Z Z (congrArg hH (hJ.2 aj.out)) Z) (Zf Z Z Z (zV Z Z (congrArg hH (hJ.2 aj.out)) Z) (ZC Z Z Z (zV Z Z (congrArg hH (hJ.2 aj.out)) Z) (oR Z (zg Z (congrArg hH (hJ.2 aj.out)) Z) (oA Z Z (eN (zR ?_)))))))))))
 have hE:=nA fw;first | subst r | cases hE
 exact ⟨rfl,_,(ZL rfl),bC,_,(bf.pick [] _ (by decide) rfl),rfl,rfl⟩
end Go.Proofs.Ytlnfbjphfoipaaa
namespace Go.Proofs.Ytlnfbjphfoipaaa
open Go.KL
set_option maxHeartbeats 4000000
theorem wEL (p0:List wAK) (ap:Option Addr) (aq:Nat) (p1:(wAK->Option Bool)) (au:Value) (w:World) (U:PHeap) (hS:St0 w U []) (bw:Sl U 4 ap aq p0.length (hD wBX p0)) (bx:FnOK Try.prog U au wKI wMK p1) {r:Bool} (hm:wCQ p0 p1=some r):Gv Try.prog 102 [.slice ap p0.length aq,au] w (wBw w [] U (fun U_ L_ v=>v=.bool r/\L_=[])):=by
 unfold wCQ at hm
 refine Gv.of Try.func102 Z Try.ntmps102 Try.results102 Z (sR fL1 Z (oA Z Z (eN (zM (sR fL3 Z (oM Z Z (oR Z (zx Z Z yQ) (oM Z Z (eN (zd ?_))))))))))
 have q:=wBy hm
 obtain ⟨r3,ak⟩:=q
 have q:=wBx ak
 obtain ⟨an,bB⟩:=q
 replace an:=zO an
 refine yX (fun k2 _ σ_ w_=>∃ (U_:PHeap),σ_ 9=jV (↑k2:Int)/\σ_ 1=au/\σ_ 7=.slice ap p0.length aq/\σ_ 8=jV (↑p0.length:Int)/\PHeap.Le U U_/\sW w U U_ [] w_) bB ?_ ?_ ?_
 exact ⟨U,Z,Z,Z,Z,(zP _),hS⟩
 rintro k2 ⟨⟩ bY ca W8 am ⟨be,aj,ax,ay,az,ao,a8⟩ bc bz
 try dsimp only at bc
 have aw:Hid ((↑k2:Int) < (↑p0.length:Int)):=zO (wAs am)
 replace am:=zO am
 have bC:Hid (w64 ((↑k2:Int) + 1)=(↑(k2 + 1):Int)):=zO (by have h1:=an.out;have h2:=aw.out;rw [wAU] <;> omega)
 refine sR fL1 Z (oR Z (ze Z aj az) (eN (zM (cT Z aw (kN (zM (zd (sR gFb Z (bnK bc fun ae a7 bD=>?_)))))))))
 have bn:=bw.le ao
 have q:=bn.el (fun _=>rfl) (wAb a7)
 obtain ⟨bQ,bU,bq,br⟩:=q
 refine oR Z (Zk Z ay bq aj yQ Zh (wCl a7)) (oL Z (a8.ldCA (f:=0) br Z Z Zz Zh (us:=[jV ae.Kind,jV ae.Skier,jV ae.Index,.bool ae.Up]) Z Z) (zQ (cs:=[jV 0,jV 0,jV 0,.bool false]) Z Z Z Z Z Zy Z a8 ?_))
 intro bM av bs
 let B0:List Value:=[jV ae.Kind,jV ae.Skier,jV ae.Index,.bool ae.Up]
 refine zU (j:=0) (vs:=B0) Z Z Z Z bs Z Z Z Z Zh (zA Z) Z Z Z ?_
 intro bg bt
 have a9:sW w U be [.blk av 78 B0] bg:=bt
 refine eN (sR gFa Z (oM Z ax (oL Z (a9.ldBA (j:=0) Z Z Z Zz Zh (vs:=B0) Z Z) (bnK bD fun bX bo bE=>?_))))
 have bp:=bx.le ao
 refine OKS.callV (a:=ae) Z Z Z Z Z Z (zB Z zJ) a9 bp Z bo ?_
 rintro ah bL bW bh bI bu ⟨rfl,rfl⟩
 have ba:sW w U ah [.blk av 78 B0] bh:=bu
 refine oR Z (Zg Z Z) (eN (ifc bE ?_ ?_))
 intro ai bF
 refine ZE (nC ai.out) (Zo (ZA (zL (rR fL2 Z (oR Z (ZH (za Z aj Z) (congrArg (jV) bC.out)) (oM Z Z (zh ?_)))))))
 have q:=nA bF
 obtain rfl:=q
 exact zL ⟨rfl,_,rfl,⟨ah,rfl,ax,ay,az,(ao.trans bI),(ba.pick [] _ (by decide) rfl)⟩⟩
 intro ai bG
 refine ZI (nF (ai.out)) (sR fL1 Z (oA Z Z (eN (zR (zq (zW ?_))))))
 have q:=wAY bG
 obtain ⟨bJ,bH,bj⟩:=q
 have q:=wBY hm ak (bz bJ bj)
 obtain rfl:=q
 refine zW (zq (zW ?_))
 have hE:=nA bH;first | subst r | cases hE
 exact ⟨rfl,_,(ZL rfl),ah,_,(ba.pick [] _ (by decide) rfl),rfl,rfl⟩
 rintro ⟨⟩ bZ bN ⟨bf,bm,bR,bS,bk,bT,bv⟩ bA
 have bb:=wCm hm ak bA
 try dsimp only at bb
 have bi:Hid (¬ ((↑(((↑p0.length:Int):Int) - 0).toNat:Int) < (↑p0.length:Int))):=zO (wAc)
 refine sR fL1 Z (oR Z (ze Z bm bk) (eN (zM (cF Z bi (Zb (zo (zo (ZV (zL (sR fL1 Z (oA Z Z (eN (zR ?_)))))))))))))
 have hE:=nA bb;first | subst r | cases hE
 exact ⟨Z,_,(ZL Z),bf,_,bv,Z,Z⟩
theorem wDk (p0:wAE) (ah:Option Addr) (am:Nat) (ai:Option Addr) (an:Nat) (aj:Option Addr) (ao:Nat) (ak:Option Addr) (ap:Nat) (p1:List wAK) (aw:Option Addr) (ax:Nat) (w:World) (U:PHeap) (hS:St0 w U []) (bf:Sl U 1 ah am p0.Starts.length (hD KL.encI p0.Starts)) (bg:Sl U 2 ai an p0.Splits.length (hD wAC p0.Splits)) (bh:Sl U 3 aj ao p0.Clocks.length (hD wAA p0.Clocks)) (bi:Sl U 4 ak ap p0.Readings.length (hD wAB p0.Readings)) (bj:Sl U 4 aw ax p1.length (hD wBX p1)) {r:Int} (hm:wCR p0 p1=some r):Gv Try.prog 69 [.agg #[.slice ah p0.Starts.length am,.slice ai p0.Splits.length an,.slice aj p0.Clocks.length ao,.slice ak p0.Readings.length ap],.slice aw p1.length ax] w (wBw w [] U (fun U_ L_ v=>v=jV r/\L_=[])):=by
 unfold wCR at hm
 refine Gv.of Try.func69 Z Try.ntmps69 Try.results69 Z (sR gEf Z ?_)
 let B0:List Value:=[.slice ah p0.Starts.length am,.slice ai p0.Splits.length an,.slice aj p0.Clocks.length ao,.slice ak p0.Readings.length ap]
 refine zy (cs:=B0) rfl rfl rfl rfl rfl rfl (by rfl) hS ?_
 intro W1 b2 av
 refine oA Z Z (eN (sR fL3 Z (oL Z (av.ldBA (j:=0) Z Z Z zf zY (vs:=B0) Z Z) (oR Z (Runs.mkf Z (zB Z zJ) zJ) (oA Z Z (eN (zM (zd (sR fL4 Z (oM Z Z (oR Z (zx Z Z yQ) (oR Z (ye Z Z Z) (oA Z Z (eN ?_))))))))))))))
 by_cases c5:80 < (↑p1.length:Int)
 have az:=hm;rw [if_pos c5] at az;replace c5:=zO c5
 refine cT Z c5 (sR fL1 Z (oA Z Z (eN (zR (zq (zW ?_))))))
 cases az
 exact ⟨rfl,_,(ZL rfl),U,_,(av.pick [] _ (by decide) rfl),rfl,rfl⟩
 have a7:=hm;rw [if_neg c5] at a7;replace c5:=zO c5
 refine cF Z c5 (sR gFg Z (oM Z Z (oM Z Z ?_)))
 have bd:FnOK Try.prog U (.func (.func 101) #[.agg B0.toArray] #[]) wKI wMK (fun x=>wCB p0 x):=⟨101,[.agg B0.toArray],[],rfl,Try.call101,fun U1 w1 x y vs le hs ha hm=>by obtain rfl:=ha;exact wFK p0 ah am ai an aj ao ak ap x w1 U1 hs (bf.le le) (bg.le le) (bh.le le) (bi.le le) hm⟩
 refine bnK a7 fun x9 bc bk=>zF 0 Z Z Z Z (zD Z Z Try.call102 (zB Z (zB Z zJ)) Z) av (fun hs=>wEL p1 aw ax (fun x=>wCB p0 x) (.func (.func 101) #[.agg B0.toArray] #[]) W1 U hs bj bd bc) (.inr Z) ?_
 rintro aq bp br ba bq be ⟨rfl,rfl⟩
 have ay:sW w U aq [.blk b2 28 B0] ba:=be
 refine oR Z (Zg Z Z) (oA Z Z (eN (ifc bk ?_ ?_)))
 intro au bm
 refine ZE (nC au.out) (Zo (ZA (zL (sR fL1 Z (oA Z Z (eN (zR ?_)))))))
 cases bm
 exact ⟨rfl,_,(ZL rfl),aq,_,(ay.pick [] _ (by decide) rfl),rfl,rfl⟩
 intro au bn
 refine ZI (nF (au.out)) (sR fL1 Z (oA Z Z (eN (zR (zq (zW ?_))))))
 cases bn
 exact ⟨rfl,_,(ZL rfl),aq,_,(ay.pick [] _ (by decide) rfl),rfl,rfl⟩
theorem wCe (p0:wAE) (bb:Option Addr) (bf:Nat) (bc:Option Addr) (bg:Nat) (bd:Option Addr) (bh:Nat) (be:Option Addr) (bi:Nat) (p1:wAL) (p2:List wAK) (bu:Option Addr) (bv:Nat) (w:World) (U:PHeap) (hS:St0 w U []) (cK:Sl U 1 bb bf p0.Starts.length (hD KL.encI p0.Starts)) (cL:Sl U 2 bc bg p0.Splits.length (hD wAC p0.Splits)) (cM:Sl U 3 bd bh p0.Clocks.length (hD wAA p0.Clocks)) (cN:Sl U 4 be bi p0.Readings.length (hD wAB p0.Readings)) (cO:Sl U 4 bu bv p2.length (hD wBX p2)) {r:wAL × Int × Bool} (hm:wCd p0 p1 p2=some r):Gv Try.prog 71 [.agg #[.slice bb p0.Starts.length bf,.slice bc p0.Splits.length bg,.slice bd p0.Clocks.length bh,.slice be p0.Readings.length bi],.agg #[jV p1.skier,jV p1.mat],.slice bu p2.length bv] w (wBw w [] U (fun U_ L_ v=>v=.tuple #[.agg #[jV r.1.skier,jV r.1.mat],jV r.2.1,.bool r.2.2]/\L_=[])):=by
 unfold wCd at hm
 refine Gv.of Try.func71 Z Try.ntmps71 Try.results71 Z (sR gFh Z ?_)
 let B0:List Value:=[.slice bb p0.Starts.length bf,.slice bc p0.Splits.length bg,.slice bd p0.Clocks.length bh,.slice be p0.Readings.length bi]
 refine zy (cs:=B0) rfl rfl rfl rfl rfl rfl (by rfl) hS ?_
 intro W1 b2 cw
 refine zy (cs:=[jV p1.skier,jV p1.mat]) rfl rfl rfl rfl rfl rfl (by rfl) cw ?_
 intro W5 b6 cz
 let B1:List Value:=[jV 0,jV 0]
 refine zQ (cs:=B1) Z Z Z Z Z zb Z cz ?_
 intro W9 ah ct
 refine oA Z Z (oA Z Z (eN (sR fL1 Z (oA Z Z (eN (zM (sR fL3 Z (oM Z Z (oR Z (zx Z Z yQ) (oM Z Z (eN (zd ?_))))))))))))
 have q:=wBy hm
 obtain ⟨dw,br⟩:=q
 have q:=wBx br
 obtain ⟨bt,cR⟩:=q
 replace bt:=zO bt
 refine yX (fun ay (bj,bk,bO) σ_ w_=>∃ (U_:PHeap),σ_ 17=jV (↑ay:Int)/\σ_ 3=.pointer (some ⟨b2,0,none⟩)/\σ_ 4=.pointer (some ⟨b6,0,none⟩)/\σ_ 6=.pointer (some ⟨ah,0,none⟩)/\σ_ 9=jV bO/\σ_ 15=.slice bu p2.length bv/\σ_ 16=jV (↑p2.length:Int)/\PHeap.Le U U_/\sW w U U_ [.blk ah 104 B1,.blk b6 104 [jV bj,jV bk],.blk b2 28 B0] w_) cR ?_ ?_ ?_
 exact ⟨U,Z,Z,Z,Z,Z,Z,Z,(zP _),ct⟩
 rintro ay ⟨bj,bk,bO⟩ dy dA dh bs ⟨bx,bp,bC,ba,bo,cb,bD,bE,ax,bJ⟩ bN cQ
 try dsimp only at bN
 have bA:Hid ((↑ay:Int) < (↑p2.length:Int)):=zO (wAs bs)
 replace bs:=zO bs
 have cS:Hid (w64 ((↑ay:Int) + 1)=(↑(ay + 1):Int)):=zO (by have h1:=bt.out;have h2:=bA.out;rw [wAU] <;> omega)
 refine sR fL1 Z (oR Z (ze Z bp bE) (eN (zM (cT Z bA (kN (zM (zd (sR gFb Z (bnK bN fun am bF cW=>?_)))))))))
 have cd:=cO.le ax
 have q:=cd.el (fun _=>rfl) (wAb bF)
 obtain ⟨dq,dv,co,cp⟩:=q
 refine oR Z (Zk Z bD co bp yQ Zh (wCl bF)) (oL Z (bJ.ldCA (f:=0) cp Z Z Zz Zh (us:=[jV am.Kind,jV am.Skier,jV am.Index,.bool am.Up]) Z Z) (zQ (cs:=[jV 0,jV 0,jV 0,.bool false]) Z Z Z Z Z Zy Z bJ ?_))
 intro dk av cx
 let B2:List Value:=[jV am.Kind,jV am.Skier,jV am.Index,.bool am.Up]
 refine zU (j:=0) (vs:=B2) Z Z Z Z cx Z Z Z Z Zh (zA Z) Z Z Z ?_
 intro bz cy
 let B3:List Value:=[jV bj,jV bk]
 have bq:sW w U bx [.blk av 78 B2,.blk ah 104 B1,.blk b6 104 B3,.blk b2 28 B0] bz:=cy
 refine eN (sR (.fl 0 (.fl 1 (.fx 2 (wJy (.fx 7 (.fx 8 (.fx 9 (.fx 10 (.fl 11 .nil) .stop) .stop) .stop) .stop)) .stop))) Z (oL Z (bq.ldBA (j:=3) Z Z bC zf zY (vs:=B0) Z Z) (oL Z (bq.ldBA (j:=0) Z Z Z Zz Zh (vs:=B2) Z Z) ?_)))
 have cf:=cK.le ax
 have cg:=cL.le ax
 have ci:=cM.le ax
 have cm:=cN.le ax
 have q:=bnd cW
 obtain ⟨⟨a7,bm,c6⟩,cn,bM⟩:=q
 try dsimp only at bM
 refine zF 0 Z Z Z Z (zD Z Z Try.call70 (zB Z (zB Z zJ)) Z) bq (fun hs=>wBW p0 bb bf bc bg bd bh be bi am bz bx hs cf cg ci cm cn) (.inr Z) ?_
 rintro ap de dx bS cY cA ⟨rfl,rfl⟩
 have cB:sW w U ap [.blk av 78 B2,.blk ah 104 B1,.blk b6 104 B3,.blk b2 28 B0] bS:=cA
 refine oM Z Z (oR Z (zT Z Z (v:=.agg #[jV a7.skier,jV a7.mat]) Z) (oR Z (zT Z Z (v:=.agg #[jV bm.skier,jV bm.mat]) Z) (oR Z (zT Z Z (v:=jV c6) Z) (zQ (cs:=B1) Z Z Z Z Z zb Z cB ?_))))
 intro dl a8 cC
 refine zQ (cs:=B1) Z Z Z Z Z zb Z cC ?_
 intro dm a9 cD
 let B4:List Value:=[jV a7.skier,jV a7.mat]
 refine zU (j:=1) (vs:=B4) Z Z Z Z cD Z Z Z Z zH (zA Z) Z Z Z ?_
 intro bT cE
 have cG:sW w U ap [.blk a9 104 B1,.blk a8 104 B4,.blk av 78 B2,.blk ah 104 B1,.blk b6 104 B3,.blk b2 28 B0] bT:=cE
 let B5:List Value:=[jV bm.skier,jV bm.mat]
 refine zU (j:=0) (vs:=B5) Z Z Z Z cG Z Z Z Z zH (zA Z) Z Z Z ?_
 intro bU cH
 have aw:sW w U ap [.blk a9 104 B5,.blk a8 104 B4,.blk av 78 B2,.blk ah 104 B1,.blk b6 104 B3,.blk b2 28 B0] bU:=cH
 refine oA Z Z (eN (zM (sR fL3 Z (oL Z (aw.ldBA (j:=1) Z Z Z zj zH (vs:=B4) Z Z) (oL Z (aw.ldBA (j:=4) Z Z ba zj zH (vs:=B3) Z Z) (oR Z (ZH (yn (enc:=wBa) (a:=a7) (b:=(⟨bj,bk⟩:wAL)) Z Z Z wJe wJd) (congrArg hH (decide_not).symm)) (eN (ifc bM ?_ ?_))))))))
 intro bn cX
 refine ZE (ZD (fun h=>h bn.out)) (kN (rR (wDo (.fx 4 (.fl 5 .nil) .stop)) Z (oL Z (aw.ldBA (j:=0) Z Z Z zj zH (vs:=B5) Z Z) (oM Z cb (oM Z Z (oR Z (za Z Z Z) (zU (j:=4) (vs:=B5) Z Z Z Z aw Z ba Z Z zH (zA Z) Z Z Z ?_)))))))
 intro bV cI
 have cJ:sW w U ap [.blk a9 104 B5,.blk a8 104 B4,.blk av 78 B2,.blk ah 104 B1,.blk b6 104 B5,.blk b2 28 B0] bV:=cI
 refine oA Z Z (zh (ZA (zL (rR fL2 Z (oR Z (ZH (za Z bp Z) (congrArg (jV) cS.out)) (oM Z Z (zh ?_)))))))
 have q:=nA cX
 obtain rfl:=q
 exact zL ⟨rfl,_,rfl,⟨ap,rfl,bC,ba,bo,rfl,bD,bE,(ax.trans cY),(cJ.pick [3,4,5] _ (by decide) rfl)⟩⟩
 intro bn cU
 refine cT Z bn (sR (.fl 0 gEo) Z (oL Z (aw.ldBA (j:=4) Z Z ba zj zH (vs:=B3) Z Z) (zU (j:=3) (vs:=B3) Z Z Z Z aw Z bo Z Z zH (zA Z) Z Z Z ?_)))
 intro bQ cr
 have bG:sW w U ap [.blk a9 104 B5,.blk a8 104 B4,.blk av 78 B2,.blk ah 104 B3,.blk b6 104 B3,.blk b2 28 B0] bQ:=cr
 refine oA Z Z (oA Z Z (eN (zR (zW (zq (zW ?_))))))
 have q:=wAY cU
 obtain ⟨cZ,cV,bX⟩:=q
 have q:=wBY hm br (cQ cZ bX)
 obtain rfl:=q
 refine zW (zq (zW ?_))
 cases cV
 exact ⟨rfl,_,(wDg (rs:=[.cell 6 104,.tmp 7,.tmp 8]) (vs:=[.agg B3.toArray,jV 0,.bool false]) ⟨⟨_,bo,(wAw zj zH (bG.blkAt (k:=3) rfl) (vs:=B3) rfl rfl)⟩,⟨rfl,⟨rfl,trivial⟩⟩⟩ rfl),ap,_,(bG.pick [] _ (by decide) rfl),rfl,rfl⟩
 rintro ⟨da,db,dd⟩ dz dg ⟨bw,cc,dr,bY,bB,bZ,dt,ca,du,bH⟩ cP
 have bL:=wCm hm br cP
 try dsimp only at bL
 have bW:Hid (¬ ((↑(((↑p2.length:Int):Int) - 0).toNat:Int) < (↑p2.length:Int))):=zO (wAc)
 refine sR fL1 Z (oR Z (ze Z cc ca) (eN (zM (cF Z bW (Zb (zo (zo (ZV (zL (sR gFg Z ?_))))))))))
 let B6:List Value:=[jV da,jV db]
 refine oL Z (bH.ldBA (j:=1) Z Z bY zj zH (vs:=B6) Z Z) (oM Z bZ (zU (j:=0) (vs:=B6) Z Z Z Z bH Z bB Z Z zH (zA Z) Z Z Z ?_))
 intro bR cu
 have bI:sW w U bw [.blk ah 104 B6,.blk b6 104 B6,.blk b2 28 B0] bR:=cu
 refine oA Z Z (oA Z Z (eN (zR ?_)))
 cases bL
 exact ⟨rfl,_,(wDg (rs:=[.cell 6 104,.tmp 7,.tmp 8]) (vs:=[.agg B6.toArray,jV dd,.bool true]) ⟨⟨_,bB,(wAw zj zH (bI.blkAt (k:=0) rfl) (vs:=B6) rfl rfl)⟩,⟨rfl,⟨rfl,trivial⟩⟩⟩ rfl),bw,_,(bI.pick [] _ (by decide) rfl),rfl,rfl⟩
theorem wGv (p0:wAE) (aq:Option Addr) (ax:Nat) (au:Option Addr) (ay:Nat) (av:Option Addr) (az:Nat) (aw:Option Addr) (a7:Nat) (p1:wAP) (p2:wAP) (p3:List wAK) (bc:Option Addr) (bd:Nat) (w:World) (U:PHeap) (hS:St0 w U []) (cA:Sl U 1 aq ax p0.Starts.length (hD KL.encI p0.Starts)) (cB:Sl U 2 au ay p0.Splits.length (hD wAC p0.Splits)) (cC:Sl U 3 av az p0.Clocks.length (hD wAA p0.Clocks)) (cD:Sl U 4 aw a7 p0.Readings.length (hD wAB p0.Readings)) (eF:Sl U 4 bc bd p3.length (hD wBX p3)) {r:Int × Int} (hm:wEI p0 p1 p2 p3=some r):Gv Try.prog 41 [.agg #[.slice aq p0.Starts.length ax,.slice au p0.Splits.length ay,.slice av p0.Clocks.length az,.slice aw p0.Readings.length a7],.agg #[jV p1.Skier,jV p1.Mat],.agg #[jV p2.Skier,jV p2.Mat],.slice bc p3.length bd] w (wBw w [] U (fun U_ L_ v=>v=.tuple #[jV r.1,jV r.2]/\L_=[])):=by
 unfold wEI at hm
 refine Gv.of Try.func41 Z Try.ntmps41 Try.results41 Z (sR gFh Z ?_)
 let B0:List Value:=[.slice aq p0.Starts.length ax,.slice au p0.Splits.length ay,.slice av p0.Clocks.length az,.slice aw p0.Readings.length a7]
 refine zy (cs:=B0) rfl rfl rfl rfl rfl rfl (by rfl) hS ?_
 intro W1 b2 ew
 let B1:List Value:=[jV p1.Skier,jV p1.Mat]
 refine zy (cs:=B1) rfl rfl rfl rfl rfl rfl (by rfl) ew ?_
 intro W5 b6 eD
 let B2:List Value:=[jV p2.Skier,jV p2.Mat]
 refine zy (cs:=B2) rfl rfl rfl rfl rfl rfl (by rfl) eD ?_
 intro W9 ah cw
 refine oA Z Z (oA Z Z (eN (sR gEn Z (oL Z (cw.ldBA (j:=2) Z Z Z zf zY (vs:=B0) Z Z) (bnK hm fun f7 de eH=>zF 0 Z Z Z Z (zD Z Z Try.call68 (zB Z zJ) Z) cw (fun hs=>wDq p0 aq ax au ay av az aw a7 W9 U hs cA cB cC cD de) (.inr Z) ?_)))))
 rintro bA fA fS bZ bh eg ⟨rfl,rfl⟩
 have bs:sW w U bA [.blk ah 45 B2,.blk b6 45 B1,.blk b2 28 B0] bZ:=eg
 refine oA Z Z (eN (zM (zd (sR fL3 Z (oM Z Z (oR Z (Ze Z Z Z) (oA Z Z (eN (ifc eH ?_ ?_)))))))))
 intro bI eI
 refine ZE (ZD (fun h=>h bI.out)) (sR (.fl 0 (.fl 1 (.fx 2 (wJy (.fx 7 (wGm (.nil)) .stop)) .stop))) Z (oL Z (bs.ldBA (j:=2) Z Z Z zf zY (vs:=B0) Z Z) (oL Z (bs.ldBA (j:=1) Z Z Z ZY ZG (vs:=B1) Z Z) ?_)))
 have cg:=cA.le bh
 have ci:=cB.le bh
 have cm:=cC.le bh
 have cn:=cD.le bh
 refine bnK eI fun f8 dM fc=>zF 0 Z Z Z Z (zD Z Z Try.call84 (zB Z (zB Z zJ)) Z) bs (fun hs=>wCT p0 aq ax au ay av az aw a7 p1 bZ bA hs cg ci cm cn dM) (.inr Z) ?_
 rintro bE fH fZ cc bi ey ⟨rfl,rfl⟩
 have bt:sW w U bE [.blk ah 45 B2,.blk b6 45 B1,.blk b2 28 B0] cc:=ey
 refine oR Z (Zg Z Z) (oM Z Z (ifc fc ?_ ?_))
 intro ap fd
 refine ZF Z Z Z (zS Z Z (nC ap.out)) (bt.ldBA (j:=2) Z Z Z zf zY (vs:=B0) Z Z) Z (ZF Z Z Z (zS Z Z (nC ap.out)) (bt.ldBA (j:=0) Z Z Z ZY ZG (vs:=B2) Z Z) Z ?_)
 have co:=cg.le bi
 have cp:=ci.le bi
 have cr:=cm.le bi
 have ct:=cn.le bi
 refine bnK fd fun f9 dN ff=>zF 0 Z Z Z (zS Z Z (nC ap.out)) (zD Z Z Try.call84 (zB Z (zB Z zJ)) Z) bt (fun hs=>wCT p0 aq ax au ay av az aw a7 p2 cc bE hs co cp cr ct dN) (.inr Z) ?_
 rintro bF fI f4 cd bj eA ⟨rfl,rfl⟩
 have bO:sW w U bF [.blk ah 45 B2,.blk b6 45 B1,.blk b2 28 B0] cd:=eA
 refine zc Z Z Z (zS Z Z (nC ap.out)) (fun _=>Zg Z Z) (oR Z (zg Z (nC ap.out) Z) (oA Z Z (eN (ifc ff ?_ ?_))))
 intro bL fg
 refine ZE (nC bL.out) (Zo (ZA (zL (zM (sR gFa Z (oL Z (bO.ldBA (j:=2) Z Z Z zf zY (vs:=B0) Z Z) (oM Z Z ?_)))))))
 have bn:=co.le bj
 have bo:=cp.le bj
 have bp:=cr.le bj
 have bq:=ct.le bj
 have dO:=eF.le bh
 have dP:=dO.le bi
 have br:=dP.le bj
 refine bnK fg fun ga dQ fh=>zF 0 Z Z Z Z (zD Z Z Try.call69 (zB Z (zB Z zJ)) Z) bO (fun hs=>wDk p0 aq ax au ay av az aw a7 p3 bc bd cd bF hs bn bo bp bq br dQ) (.inr Z) ?_
 rintro be fJ f5 bG ai eE ⟨rfl,rfl⟩
 have cz:sW w U be [.blk ah 45 B2,.blk b6 45 B1,.blk b2 28 B0] bG:=eE
 refine oA Z Z (eN (sR fL2 Z (oM Z Z (oR Z (Ze Z Z Z) (eN (ifc fh ?_ ?_))))))
 intro bM fj
 refine ZE (ZD (fun h=>h bM.out)) (kN ?_)
 have q:=bnd fj
 obtain ⟨⟨cG,cH,fw,cV⟩,fk,cE⟩:=q
 try dsimp only at cE
 let B3:List Value:=[jV cG,jV cH]
 refine yS (fun σ_ w_=>∃ (U_:PHeap) (bm:Nat),σ_ 6=.pointer (some ⟨ah,0,none⟩)/\σ_ 12=.pointer (some ⟨bm,0,none⟩)/\σ_ 13=jV fw/\σ_ 14=.bool cV/\PHeap.Le be U_/\sW w U U_ [.blk ah 45 B2,.blk b6 45 B1,.blk b2 28 B0,.blk bm 104 B3] w_) ?_ ?_
 refine bnK fk fun bS cu eG=>?_
 have q:=bnd eG
 obtain ⟨⟨an,bQ,bR⟩,bN,bu⟩:=q
 try dsimp only at bu
 refine zt zu [1,1,2,3,2,3,3,3,3,2,0,3,3] (.fl 0 (.fl 1 (.fl 3 (.fx 2 (.fx 4 (wGd (.fx 9 gEv .stop)) (.fx 9 (.fx 4 (wGd gEv) (.stop)) (.stop))) (.fx 9 (.fx 2 (.fx 4 (wGd gEv) (.stop)) (.stop)) (.stop)))))) (by kernel_rfl) ?_
 have bf:=cz.drew
 generalize hw_W127:({ bG with drawn:=bG.drawn + 1 }:World)=cI at bf ⊢
 refine oL Z (bf.ldBA (j:=2) Z Z Z zf zY (vs:=B0) Z Z) (oL Z (bf.ldBA (j:=1) Z Z Z ZY ZG (vs:=B1) Z Z) (oM Z Z (zm ?_ ?_)))
 refine zF 0 Z Z Z Z (zD Z Z yL (zB Z zJ) Z) bf (fun hs=>wBQ p1 cI be hs cu) (.inr Z) ?_
 rintro bx fy fQ bY am dR ⟨rfl,rfl⟩
 have cx:sW w U bx [.blk ah 45 B2,.blk b6 45 B1,.blk b2 28 B0] bY:=dR
 refine zm ?_ ?_
 have c6:=bn.le ai
 have da:=c6.le am
 have db:=bo.le ai
 have dd:=db.le am
 have df:=bp.le ai
 have dg:=df.le am
 have dh:=bq.le ai
 have di:=dh.le am
 have dk:=br.le ai
 have dl:=dk.le am
 refine zF 0 Z Z Z Z (zD Z Z Try.call71 (zB Z (zB Z (zB Z zJ))) Z) cx (fun hs=>wCe p0 aq ax au ay av az aw a7 bS p3 bc bd bY bx hs da dd dg di dl bN) (.inr Z) ?_
 rintro bz fz fR cJ fm dS ⟨rfl,rfl⟩
 have dT:sW w U bz [.blk ah 45 B2,.blk b6 45 B1,.blk b2 28 B0] cJ:=dS
 refine oM Z Z (oR Z (zT Z Z (v:=.agg #[jV an.skier,jV an.mat]) Z) (oR Z (zT Z Z (v:=jV bQ) Z) (oR Z (zT Z Z (v:=.bool bR) Z) (zQ (cs:=[jV 0,jV 0]) Z Z Z Z Z zb Z dT ?_))))
 intro fM cf dU
 let B4:List Value:=[jV an.skier,jV an.mat]
 refine zU (j:=0) (vs:=B4) Z Z Z Z dU Z Z Z Z zH (zA Z) Z Z Z ?_
 intro cK dV
 have dW:sW w U bz [.blk cf 104 B4,.blk ah 45 B2,.blk b6 45 B1,.blk b2 28 B0] cK:=dV
 refine oA Z Z (oA Z Z (zh ?_))
 cases bu
 exact zL ⟨rfl,⟨bz,cf,rfl,rfl,rfl,rfl,(am.trans fm),(dW.pick [1,2,3,0] _ (by decide) rfl)⟩⟩
 refine zQ (cs:=[jV 0,jV 0]) Z Z Z Z Z zb Z cx ?_
 intro cL bH dX
 have dm:=bn.le ai
 have dp:=dm.le am
 have dq:=bo.le ai
 have dr:=dq.le am
 have dt:=bp.le ai
 have du:=dt.le am
 have dv:=bq.le ai
 have dw:=dv.le am
 have dx:=br.le ai
 have dy:=dx.le am
 refine zF 0 Z Z Z Z (zD Z Z Try.call71 (zB Z (zB Z (zB Z zJ))) Z) dX (fun hs=>wCe p0 aq ax au ay av az aw a7 bS p3 bc bd cL bx hs dp dr du dw dy bN) (.inr Z) ?_
 rintro bB fC fT cM fq dY ⟨rfl,rfl⟩
 have dZ:sW w U bB [.blk bH 104 [jV 0,jV 0],.blk ah 45 B2,.blk b6 45 B1,.blk b2 28 B0] cM:=dY
 refine oM Z Z (oR Z (zT Z Z (v:=.agg #[jV an.skier,jV an.mat]) Z) (oR Z (zT Z Z (v:=jV bQ) Z) (oR Z (zT Z Z (v:=.bool bR) Z) ?_)))
 let B5:List Value:=[jV an.skier,jV an.mat]
 refine zU (j:=0) (vs:=B5) Z Z Z Z dZ Z Z Z Z zH (zA Z) Z Z Z ?_
 intro cN d7
 have d9:sW w U bB [.blk bH 104 B5,.blk ah 45 B2,.blk b6 45 B1,.blk b2 28 B0] cN:=d7
 refine oA Z Z (oA Z Z (zh ?_))
 cases bu
 exact zL ⟨rfl,⟨bB,bH,rfl,rfl,rfl,rfl,(am.trans fq),(d9.pick [1,2,3,0] _ (by decide) rfl)⟩⟩
 let B6:List Value:=[jV 0,jV 0]
 refine zQ (cs:=B6) Z Z Z Z Z zb Z bf ?_
 intro cO bk ef
 refine zF 0 Z Z Z Z (zD Z Z yL (zB Z zJ) Z) ef (fun hs=>wBQ p1 cO be hs cu) (.inr Z) ?_
 rintro bW fD fU ca bb eh ⟨rfl,rfl⟩
 have ej:sW w U bW [.blk bk 104 B6,.blk ah 45 B2,.blk b6 45 B1,.blk b2 28 B0] ca:=eh
 have dz:=bn.le ai
 have dA:=dz.le bb
 have dB:=bo.le ai
 have dC:=dB.le bb
 have dD:=bp.le ai
 have dE:=dD.le bb
 have dH:=bq.le ai
 have dI:=dH.le bb
 have dJ:=br.le ai
 have dK:=dJ.le bb
 refine zF 0 Z Z Z Z (zD Z Z Try.call71 (zB Z (zB Z (zB Z zJ))) Z) ej (fun hs=>wCe p0 aq ax au ay av az aw a7 bS p3 bc bd ca bW hs dA dC dE dI dK bN) (.inr Z) ?_
 rintro bC fE fV cP ft ek ⟨rfl,rfl⟩
 have en:sW w U bC [.blk bk 104 B6,.blk ah 45 B2,.blk b6 45 B1,.blk b2 28 B0] cP:=ek
 refine oM Z Z (oR Z (zT Z Z (v:=.agg #[jV an.skier,jV an.mat]) Z) (oR Z (zT Z Z (v:=jV bQ) Z) (oR Z (zT Z Z (v:=.bool bR) Z) ?_)))
 let B7:List Value:=[jV an.skier,jV an.mat]
 refine zU (j:=0) (vs:=B7) Z Z Z Z en Z Z Z Z zH (zA Z) Z Z Z ?_
 intro cQ eo
 have ep:sW w U bC [.blk bk 104 B7,.blk ah 45 B2,.blk b6 45 B1,.blk b2 28 B0] cQ:=eo
 refine oA Z Z (oA Z Z (zh ?_))
 cases bu
 exact zL ⟨rfl,⟨bC,bk,rfl,rfl,rfl,rfl,(bb.trans ft),(ep.pick [1,2,3,0] _ (by decide) rfl)⟩⟩
 rintro gb cb ⟨bX,bm,cW,cX,cY,cZ,fO,er⟩
 refine zM (zM (zt zu [3,3,3,1,1,2,3,3] (wFk (.fx 5 (.fl 6 (.fl 7 .nil)) .stop)) (by kernel_rfl) ?_))
 have bg:=er.drew
 generalize hw_W253:({ cb with drawn:=cb.drawn + 1 }:World)=cR at bg ⊢
 refine oM Z cZ (oR Z (Zg Z Z) (oM Z Z (ifc cE ?_ ?_)))
 intro ao eJ
 refine ZF Z Z Z (zS Z Z (nC ao.out)) (bg.ldBA (j:=3) Z Z cX zj zH (vs:=B3) Z Z) Z (ZF Z Z Z (zS Z Z (nC ao.out)) (bg.ldBA (j:=0) Z Z cW ZY ZG (vs:=B2) Z Z) Z (bnK eJ fun fu dL eO=>zF 0 Z Z Z (zS Z Z (nC ao.out)) (zD Z Z yL (zB Z zJ) Z) bg (fun hs=>wBQ p2 cR bX hs dL) (.inr Z) ?_))
 rintro bD fG fY cS fP eu ⟨rfl,rfl⟩
 have cy:sW w U bD [.blk ah 45 B2,.blk b6 45 B1,.blk b2 28 B0,.blk bm 104 B3] cS:=eu
 refine zc Z Z Z (zS Z Z (nC ao.out)) (fun _=>ZH (yn (enc:=wBa) (a:=(⟨cG,cH⟩:wAL)) (b:=fu) Z Z Z wJe wJd) (congrArg hH (decide_not).symm)) (oR Z (zg Z (nC ao.out) Z) (eN (ifc eO ?_ ?_)))
 intro bJ eU
 refine ZE (ZD (fun h=>h bJ.out)) (kN (sR fL3 Z (oM Z cY (oA Z Z (oA Z Z (eN (zR ?_)))))))
 cases eU
 exact ⟨rfl,_,(wDf rfl rfl),bD,_,(cy.pick [] _ (by decide) rfl),rfl,rfl⟩
 intro bJ eV
 refine cT Z bJ (sR fL2 Z (oA Z Z (oA Z Z (eN (zR (zW ?_))))))
 cases eV
 exact ⟨rfl,_,(wDf rfl rfl),bD,_,(cy.pick [] _ (by decide) rfl),rfl,rfl⟩
 intro ao eX
 refine Zf Z Z Z (zV Z Z (nF (ao.out)) Z) (Zf Z Z Z (zV Z Z (nF (ao.out)) Z) (ZC Z Z Z (zV Z Z (nF (ao.out)) Z) (Zf Z Z Z (zV Z Z (nF (ao.out)) Z) (oR Z (zN Z (nF (ao.out)) Z) (eN (ZI Z (sR fL2 Z (oA Z Z (oA Z Z (eN (zR (zW ?_))))))))))))
 cases eX
 exact ⟨rfl,_,(wDf rfl rfl),bX,_,(bg.pick [] _ (by decide) rfl),rfl,rfl⟩
 intro bM eY
 refine cT Z bM (sR fL3 Z (oM Z Z (oA Z Z (oA Z Z (eN (zR (zW ?_)))))))
 cases eY
 exact ⟨rfl,_,(wDf rfl rfl),be,_,(cz.pick [] _ (by decide) rfl),rfl,rfl⟩
 intro bL eZ
 refine ZI (nF (bL.out)) (sR fL2 Z (oA Z Z (oA Z Z (eN (zR (zq (zW ?_)))))))
 cases eZ
 exact ⟨rfl,_,(wDf rfl rfl),bF,_,(bO.pick [] _ (by decide) rfl),rfl,rfl⟩
 intro ap e0
 refine Zf Z Z Z (zV Z Z (nF (ap.out)) Z) (Zf Z Z Z (zV Z Z (nF (ap.out)) Z) (ZC Z Z Z (zV Z Z (nF (ap.out)) Z) (Zf Z Z Z (zV Z Z (nF (ap.out)) Z) (oR Z (zN Z (nF (ap.out)) Z) (oA Z Z (eN (ZI Z (sR fL2 Z (oA Z Z (oA Z Z (eN (zR (zq (zW ?_))))))))))))))
 cases e0
 exact ⟨rfl,_,(wDf rfl rfl),bE,_,(bt.pick [] _ (by decide) rfl),rfl,rfl⟩
 intro bI fb
 refine cT Z bI (sR fL3 Z (oM Z Z (oA Z Z (oA Z Z (eN (zR (zq (zW ?_))))))))
 cases fb
 exact ⟨rfl,_,(wDf rfl rfl),bA,_,(bs.pick [] _ (by decide) rfl),rfl,rfl⟩
theorem wGw (p0:wAE) (am:Option Addr) (aq:Nat) (an:Option Addr) (au:Nat) (ao:Option Addr) (av:Nat) (ap:Option Addr) (aw:Nat) (p1:Int) (w:World) (U:PHeap) (hS:St0 w U []) (bM:Sl U 1 am aq p0.Starts.length (hD KL.encI p0.Starts)) (bN:Sl U 2 an au p0.Splits.length (hD wAC p0.Splits)) (bO:Sl U 3 ao av p0.Clocks.length (hD wAA p0.Clocks)) (bQ:Sl U 4 ap aw p0.Readings.length (hD wAB p0.Readings)) {r:(Option wAX) × Int} (hm:wEJ p0 p1=some r):Gv Try.prog 50 [.agg #[.slice am p0.Starts.length aq,.slice an p0.Splits.length au,.slice ao p0.Clocks.length av,.slice ap p0.Readings.length aw],jV p1] w (wBw w [] U (fun U_ L_ v=>match r.1 with | none=>v=.tuple #[.pointer none,jV r.2]/\L_=[] | some d=>∃ (b0:Nat) (A0p00:Option Addr) (c0p00:Nat) (A0p01:Option Addr) (c0p01:Nat) (A0p02:Option Addr) (c0p02:Nat) (A0p03:Option Addr) (c0p03:Nat) (m0p1:Nat) (es0p1:Array MapEntry) (ck0p1:Nat) (A0p2:Option Addr) (c0p2:Nat),v=.tuple #[.pointer (some ⟨b0,0,none⟩),jV r.2]/\L_=[.blk b0 124 [.slice A0p00 d.Race.Starts.length c0p00,.slice A0p01 d.Race.Splits.length c0p01,.slice A0p02 d.Race.Clocks.length c0p02,.slice A0p03 d.Race.Readings.length c0p03,.map (some m0p1),.slice A0p2 d.edges.length c0p2],.obj m0p1 (.map es0p1 ck0p1)]/\Sl U_ 1 A0p00 c0p00 d.Race.Starts.length (hD KL.encI d.Race.Starts)/\Sl U_ 2 A0p01 c0p01 d.Race.Splits.length (hD wAC d.Race.Splits)/\Sl U_ 3 A0p02 c0p02 d.Race.Clocks.length (hD wAA d.Race.Clocks)/\Sl U_ 4 A0p03 c0p03 d.Race.Readings.length (hD wAB d.Race.Readings)/\MpR es0p1 wBD wBJ d.number/\Sl U_ 7 A0p2 c0p2 d.edges.length (hD wAQ d.edges))):=by
 unfold wEJ at hm
 refine Gv.of Try.func50 Z Try.ntmps50 Try.results50 Z (sR gEw Z ?_)
 let B0:List Value:=[.slice am p0.Starts.length aq,.slice an p0.Splits.length au,.slice ao p0.Clocks.length av,.slice ap p0.Readings.length aw]
 refine zy (cs:=B0) rfl rfl rfl rfl rfl rfl (by rfl) hS ?_
 intro W1 b2 br
 refine oA Z Z (oA Z Z (eN (sR (wDF (.fx 3 (.fx 4 (wGd (.nil)) .stop) .stop)) Z (oL Z (br.ldBA (j:=0) Z Z Z zf zY (vs:=B0) Z Z) (oM Z Z ?_)))))
 let B1:List Value:=[jV 0,jV p1]
 refine oR Z (zk (pv:=[(0,jV 0),(1,jV p1)]) (z:=[jV 0,jV 0]) (cs:=B1) Z (wAH Z (wAH Z wAO)) Zu wEg Z Z) (zr (pv:=[(0,.agg B1.toArray)]) (zs:=[jV 0,jV 0]) (cs:=B1) Z Z Z Z Z (wAH Z wAO) Zq ZG Zu Z Z Z Z Z br ?_)
 intro W5 b6 bJ
 have bL:sW w U U [.row (some ⟨b6,0,none⟩) 1 45 2 (hD wAT [(⟨0,p1⟩:wAP)]),.blk b2 28 B0] W5:=bJ
 have q:=bL.freezeR (k:=0) (n:=[(⟨0,p1⟩:wAP)].length) rfl (wAD (f:=wAT) (sz:=2) (fun _=>rfl) [(⟨0,p1⟩:wAP)]) (by decide)
 obtain ⟨bd,ak,bR,bF⟩:=q
 have bG:sW w U bd [.blk b2 28 B0] W5:=bF
 have bt:=bM.le ak
 have bu:=bN.le ak
 have bv:=bO.le ak
 have bw:=bQ.le ak
 have q:=bnd hm
 obtain ⟨⟨bS,bs⟩,bx,ag⟩:=q
 try dsimp only at ag
 refine zF 0 Z Z Z Z (zD Z Z Try.call46 (zB Z (zB Z zJ)) Z) bG (fun hs=>wDs p0 am aq an au ao av ap aw [(⟨0,p1⟩:wAP)] (some ⟨b6,0,none⟩) 1 W5 bd hs bt bu bv bw bR bx) (.inr Z) ?_
 rintro ai bT bW be bV bq bp
 rcases bS with _ | ah
 try dsimp only at ag
 obtain ⟨rfl,rfl⟩:=bp
 have bH:sW w U ai [.blk b2 28 B0] be:=bq
 refine oR Z (zT Z Z (v:=.pointer none) Z) (oR Z (zT Z Z (v:=jV bs) Z) (oA Z Z (oA Z Z (eN (zR ?_)))))
 cases ag
 exact ⟨rfl,_,(wDf rfl rfl),ai,_,(bH.pick [] _ (by decide) rfl),rfl,rfl⟩
 try dsimp only at ag
 obtain ⟨az,a8,bh,a9,bi,ba,bj,bb,bk,a7,bo,bm,bc,bn,rfl,rfl,bz,bA,bB,bC,bD,bE⟩:=bp
 have bI:sW w U ai [.blk az 124 [.slice a8 ah.Race.Starts.length bh,.slice a9 ah.Race.Splits.length bi,.slice ba ah.Race.Clocks.length bj,.slice bb ah.Race.Readings.length bk,.map (some a7),.slice bc ah.edges.length bn],.obj a7 (.map bo bm),.blk b2 28 B0] be:=bq
 refine oR Z (zT Z Z (v:=.pointer (some ⟨az,0,none⟩)) Z) (oR Z (zT Z Z (v:=jV bs) Z) (oA Z Z (oA Z Z (eN (zR ?_)))))
 cases ag
 exact ⟨rfl,_,(wDf rfl rfl),ai,_,(bI.pick [0,1] _ (by decide) rfl),az,a8,bh,a9,bi,ba,bj,bb,bk,a7,bo,bm,bc,bn,rfl,rfl,bz,bA,bB,bC,bD,bE⟩
theorem wEk (p0:wAX) (au:Nat) (aq:Option Addr) (av:Nat) (az:Option Addr) (ba:Nat) (a7:Option Addr) (bb:Nat) (a8:Option Addr) (bc:Nat) (ae:Nat) (af:Array MapEntry) (ag:Nat) (a9:Option Addr) (bd:Nat) (p1:Int) (w:World) (U:PHeap) (hS:St0 w U [.blk au 124 [.slice aq p0.Race.Starts.length av,.slice az p0.Race.Splits.length ba,.slice a7 p0.Race.Clocks.length bb,.slice a8 p0.Race.Readings.length bc,.map (some ae),.slice a9 p0.edges.length bd],.obj ae (.map af ag)]) (db:Sl U 1 aq av p0.Race.Starts.length (hD KL.encI p0.Race.Starts)) (dd:Sl U 2 az ba p0.Race.Splits.length (hD wAC p0.Race.Splits)) (de:Sl U 3 a7 bb p0.Race.Clocks.length (hD wAA p0.Race.Clocks)) (df:Sl U 4 a8 bc p0.Race.Readings.length (hD wAB p0.Race.Readings)) (bw:MpR af wBD wBJ p0.number) (dg:Sl U 7 a9 bd p0.edges.length (hD wAQ p0.edges)) {r:(Arr Int 64)} (hm:wCo p0 p1=some r):Gv Try.prog 51 [.pointer (some ⟨au,0,none⟩),jV p1] w (wBw w [.blk au 124 [.slice aq p0.Race.Starts.length av,.slice az p0.Race.Splits.length ba,.slice a7 p0.Race.Clocks.length bb,.slice a8 p0.Race.Readings.length bc,.map (some ae),.slice a9 p0.edges.length bd],.obj ae (.map af ag)] U (fun U_ L_ v=>v=.agg (hD KL.encI r.l).toArray/\L_=[.blk au 124 [.slice aq p0.Race.Starts.length av,.slice az p0.Race.Splits.length ba,.slice a7 p0.Race.Clocks.length bb,.slice a8 p0.Race.Readings.length bc,.map (some ae),.slice a9 p0.edges.length bd],.obj ae (.map af ag)])):=by
 unfold wCo at hm
 refine Gv.of Try.func51 Z Try.ntmps51 Try.results51 Z (sR (.fx 0 .nil .stop) Z (zQ (cs:=hD KL.encI (Arr.fill 64 0).l) Z Z Z Z Z Try.zeroValue109 Z hS ?_))
 intro W3 b4 cU
 let B0:Res:=.blk au 124 [.slice aq p0.Race.Starts.length av,.slice az p0.Race.Splits.length ba,.slice a7 p0.Race.Clocks.length bb,.slice a8 p0.Race.Readings.length bc,.map (some ae),.slice a9 p0.edges.length bd]
 have cZ:SW w [B0,.obj ae (.map af ag)] U U [.blk b4 109 (hD KL.encI (Arr.fill 64 0).l),B0,.obj ae (.map af ag)] W3:=cU
 refine eN (sR (.fx 0 .nil .stop) Z (zQ (cs:=hD KL.encI (Arr.fill 64 0).l) Z Z Z Z Z Try.zeroValue109 Z cZ ?_))
 intro W8 b9 cO
 have bV:SW w [B0,.obj ae (.map af ag)] U U [.blk b9 109 (hD KL.encI (Arr.fill 64 0).l),.blk b4 109 (hD KL.encI (Arr.fill 64 0).l),B0,.obj ae (.map af ag)] W8:=cO
 refine eN (zM (sR fL7 Z (oM Z Z (oR Z (ZT Z Z) (oR Z (zE Z Z ZM Z zY) (oR Z (zE Z Z zI Z ZB) (oL Z (bV.ldB (j:=2) Z Z Z ZK (v:=.slice aq p0.Race.Starts.length av) Z) (oR Z (zx Z Z zK) (oM Z Z (eN (zd (bnK hm fun an dh dw=>?_))))))))))))
 have q:=wAx dh
 obtain ⟨bA,di⟩:=q
 replace bA:=zO bA
 refine CK.forN' (fun ai be σ_ w_=>∃ (U_:PHeap),σ_ 17=jV (↑ai:Int)/\σ_ 0=.pointer (some ⟨au,0,none⟩)/\σ_ 1=jV p1/\σ_ 4=.pointer (some ⟨b4,0,none⟩)/\σ_ 5=.pointer (some ⟨b9,0,none⟩)/\σ_ 16=jV (↑p0.Race.Starts.length:Int)/\PHeap.Le U U_/\SW w [B0,.obj ae (.map af ag)] U U_ [.blk b9 109 (hD KL.encI be.l),.blk b4 109 (hD KL.encI (Arr.fill 64 0).l),B0,.obj ae (.map af ag)] w_) di ?_ ?_ ?_
 exact ⟨U,Z,Z,Z,Z,Z,Z,(zP _),bV⟩
 rintro ai be dT dY bF bx ⟨bD,bt,bn,bN,cC,cD,bO,ay,bv⟩ dy
 have bI:Hid ((↑ai:Int) < (↑p0.Race.Starts.length:Int)):=zO (wAs bx)
 replace bx:=zO bx
 have dr:Hid (w64 ((↑ai:Int) + 1)=(↑(ai + 1):Int)):=zO (by have h1:=bA.out;have h2:=bI.out;rw [wAU] <;> omega)
 refine sR fL1 Z (oR Z (ze Z bt bO) (eN (zM (cT Z bI (kN (zM (zd (sR fL2 Z (oM Z bt (oA Z Z (eN (sR (fC0_8 (.fx 9 (wLj (.fx 14 (.fx 15 (.fl 16 (.fl 17 .nil)) .stop) .stop)) .stop)) Z (oM Z bn (oM Z bn (oR Z (ZT Z Z) (oR Z (zE Z Z ZM Z yF) (oL Z (bv.ldB (j:=2) Z Z Z yJ (v:=.map (some ae)) Z) (oM Z Z (oM Z bN (oR Z (zk (pv:=[(0,jV (↑ai:Int)),(1,jV p1)]) (z:=[jV 0,jV 0]) (cs:=[jV (↑ai:Int),jV p1]) Z (wAH Z (wAH Z wAO)) zb wBO Z Z) (oL Z (bv.lookup1 (j:=3) (mk:=wBD) (mv:=wBJ) (a:=(⟨(↑ai:Int),p1⟩:wAL)) (z:=0) Z Z Z Z (wBj ZP) wCp zz bw) ?_)))))))))))))))))))))
 have cI:=db.le ay
 have cJ:=dd.le ay
 have cK:=de.le ay
 have cL:=df.le ay
 have cM:=dg.le ay
 have q:=bnd dy
 obtain ⟨⟨am,dD,dE⟩,cN,bZ⟩:=q
 try dsimp only at bZ
 have cV:SW w [B0,.obj ae (.map af ag)] U bD [B0,.obj ae (.map af ag),.blk b9 109 (hD KL.encI be.l),.blk b4 109 (hD KL.encI (Arr.fill 64 0).l)] bF:=bv.pick [2,3,0,1] _ (by decide) rfl
 refine zF 2 Z Z Z Z (zD Z Z Try.call57 (zB Z (zB Z (zB Z zJ))) Z) cV (fun hs=>wBP p0 au aq av az ba a7 bb a8 bc ae af ag a9 bd (wBE p0.number (⟨(↑ai:Int),p1⟩:wAL) 0) false bF bD hs cI cJ cK cL bw cM cN) (.inl Z) ?_
 rintro bj dH dS cf dB cW ⟨bf,bm,br,bs,rfl,rfl⟩
 let B1:Res:=.row bf bm 3 1 (hD KL.encI am.far)
 let B2:Res:=.row br bs 3 1 (hD KL.encI am.by_)
 have cX:SW w [B0,.obj ae (.map af ag)] U bj [B1,B2,B0,.obj ae (.map af ag),.blk b9 109 (hD KL.encI be.l),.blk b4 109 (hD KL.encI (Arr.fill 64 0).l)] cf:=cW
 refine oM Z Z (oR Z (zT Z Z (v:=.agg #[.slice bf am.far.length bm,.slice br am.by_.length bs]) Z) (oR Z (zT Z Z (v:=jV dD) Z) (oR Z (zT Z Z (v:=.bool dE) Z) (zQ (cs:=[.slice none 0 0,.slice none 0 0]) Z Z Z Z Z Zm Z cX ?_))))
 intro dL bk cY
 let B3:List Value:=[.slice bf am.far.length bm,.slice br am.by_.length bs]
 refine zU (j:=0) (vs:=B3) Z Z Z Z cY Z Z Z Z yH (zA Z) Z Z Z ?_
 intro cg c6
 have bY:SW w [B0,.obj ae (.map af ag)] U bj [.blk bk 118 B3,B1,B2,B0,.obj ae (.map af ag),.blk b9 109 (hD KL.encI be.l),.blk b4 109 (hD KL.encI (Arr.fill 64 0).l)] cg:=c6
 refine oA Z Z (oA Z Z (eN (sR fL7 Z (oM Z bn (oR Z (ZT Z Z) (oR Z (zE Z Z ZM Z zY) (oR Z (zE Z Z zI Z ZB) (oL Z (bY.ldB (j:=3) Z Z Z ZK (v:=.slice aq p0.Race.Starts.length av) Z) (oR Z (zx Z Z zK) (oM Z Z (eN (zd (bnK bZ fun dV dk dx=>?_)))))))))))))
 have q:=wAx dk
 obtain ⟨bB,dl⟩:=q
 replace bB:=zO bB
 refine CK.forN' (fun aj ax σ_ w_=>∃ (U_:PHeap),σ_ 40=jV (↑aj:Int)/\σ_ 0=.pointer (some ⟨au,0,none⟩)/\σ_ 1=jV p1/\σ_ 4=.pointer (some ⟨b4,0,none⟩)/\σ_ 5=.pointer (some ⟨b9,0,none⟩)/\σ_ 6=jV (↑ai:Int)/\σ_ 7=.pointer (some ⟨bk,0,none⟩)/\σ_ 16=jV (↑p0.Race.Starts.length:Int)/\σ_ 17=jV (↑ai:Int)/\σ_ 39=jV (↑p0.Race.Starts.length:Int)/\PHeap.Le bj U_/\SW w [B0,.obj ae (.map af ag)] U U_ [B1,B2,.blk bk 118 B3,B0,.obj ae (.map af ag),.blk b9 109 (hD KL.encI ax.l),.blk b4 109 (hD KL.encI (Arr.fill 64 0).l)] w_) dl ?_ ?_ ?_
 exact ⟨bj,rfl,bn,bN,cC,cD,rfl,rfl,bO,bt,rfl,(zP _),(bY.pick [1,2,0,3,4,5,6] _ (by decide) rfl)⟩
 rintro aj ax dU dZ bG bz ⟨bE,bu,bQ,bR,cE,bS,bT,bJ,co,cp,bL,dC,da⟩ dz
 have bH:Hid ((↑aj:Int) < (↑p0.Race.Starts.length:Int)):=zO (wAs bz)
 replace bz:=zO bz
 have dq:Hid (w64 ((↑aj:Int) + 1)=(↑(aj + 1):Int)):=zO (by have h1:=bB.out;have h2:=bH.out;rw [wAU] <;> omega)
 refine sR fL1 rfl (zc rfl rfl rfl rfl (fun _=>ze rfl bu bL) (eN (zM (cT Z bH (kN (zM (zd (sR fL2 rfl (zw rfl rfl rfl rfl rfl bu (yI rfl rfl rfl rfl rfl rfl (eN (zt zu [3,3,3,1,3,3,3,1,3,3,3,1,3,1,3,3,0] (wKy (.fx 16 .nil .stop)) (by kernel_rfl) ?_))))))))))))
 have aw:=da.drew
 generalize hw_W107:({ bG with drawn:=bG.drawn + 1 }:World)=dI at aw ⊢
 refine oM Z bT (oM Z Z (oR Z (zE Z bJ Za Z ZB) (oL Z (aw.ldB (j:=2) Z Z Z ZK (v:=.slice bf am.far.length bm) Z) (oM Z bQ (oR Z (ZT Z Z) (oR Z (zE Z Z ZM Z yF) (oL Z (aw.ldB (j:=3) Z Z Z yJ (v:=.map (some ae)) Z) (oM Z Z (oM Z bR (oR Z (zk (pv:=[(0,jV (↑aj:Int)),(1,jV p1)]) (z:=[jV 0,jV 0]) (cs:=[jV (↑aj:Int),jV p1]) Z (wAH Z (wAH Z wAO)) zb wBO Z Z) (oL Z (aw.lookup1 (j:=4) (mk:=wBD) (mv:=wBJ) (a:=(⟨(↑aj:Int),p1⟩:wAL)) (z:=0) Z Z Z Z (wBj ZP) wCp zz bw) (bnK dz fun _ bo dt=>?_))))))))))))
 obtain ⟨dM,bU⟩:=aw.rowSome (j:=0) rfl (by rw [wAD (f:=KL.encI) (sz:=1) (fun _=>rfl) am.far];have hz:=wAS bo;omega)
 refine oR Z (Zd Z Z bU Z zK zC (wBu bo) (wBv bo)) ?_
 have dm:=wBL (xs:=am.far) (wAS bo)
 refine ZF rfl rfl rfl rfl (aw.ldR (j:=0) rfl bU rfl rfl zG (wAV (sz:=1) (fun _=>rfl) _ _ 0 _ dm (by first | omega | rfl | simp) rfl)) rfl (bnK dt fun _ bp du=>zc rfl rfl rfl rfl (fun _=>Runs.iaA rfl bS rfl Try.runUnderlying109 Try.sizeOf108 (wBu bp) (wBv bp)) (bnK du fun _ bq dv=>zc rfl rfl rfl rfl (fun _=>Runs.iaA rfl rfl rfl Try.runUnderlying108 zC (wBu bq) (wBv bq)) ?_))
 have dp:=Arr.at_ ax (k:=(ai * 8 + aj)) (by have hz0:=wAS bp;have hz1:=wAS bq;omega)
 refine zU (j:=5) (vs:=[jV (gd am.far (wBE p0.number (⟨(↑aj:Int),p1⟩:wAL) 0).toNat)]) (cs':=hD KL.encI (ax.set (ai * 8 + aj) (gd am.far (wBE p0.number (⟨(↑aj:Int),p1⟩:wAL) 0).toNat)).l) rfl rfl rfl rfl aw rfl rfl rfl rfl zC (by have hz0:=wAS bp;have hz1:=wAS bq;simp only [List.length_append,List.length_cons,List.length_nil,wCI (f:=KL.encI) (sz:=1) (N:=64) ax (fun _=>rfl) rfl];omega) rfl (wCH (sz:=1) (fo:=0) (fun _=>rfl) _ _ _ _ dp (by first | omega | rfl | simp) (zA rfl) rfl) rfl ?_
 intro cb cP
 have cQ:SW w [B0,.obj ae (.map af ag)] U bE [B1,B2,.blk bk 118 B3,B0,.obj ae (.map af ag),.blk b9 109 (hD KL.encI (ax.set (ai * 8 + aj) (gd am.far (wBE p0.number (⟨(↑aj:Int),p1⟩:wAL) 0).toNat)).l),.blk b4 109 (hD KL.encI (Arr.fill 64 0).l)] cb:=cP
 refine zh (ZA (zL (rR fL2 Z (oR Z (ZH (za Z bu Z) (congrArg (jV) dq.out)) (oM Z Z (zh ?_))))))
 cases dv
 exact zL ⟨Z,⟨bE,Z,bQ,bR,cE,bS,bT,bJ,co,cp,bL,dC,cQ⟩⟩
 rintro dW dJ ⟨ca,cG,cr,ct,cu,cw,dN,dO,cx,cy,cz,dA,cR⟩
 have cm:Hid (¬ ((↑(((↑p0.Race.Starts.length:Int):Int) - 0).toNat:Int) < (↑p0.Race.Starts.length:Int))):=zO (wAc)
 refine sR fL1 Z (oR Z (ze Z cG cz) (eN (zM (cF Z cm (Zb (zo (zo (ZV (ZA (zL (rR fL2 Z (oR Z (ZH (za Z cy Z) (congrArg (jV) dr.out)) (oM Z Z (zh ?_))))))))))))))
 cases dx
 exact zL ⟨rfl,⟨ca,rfl,cr,ct,cu,cw,cx,((ay.trans dB).trans dA),(cR.pick [5,6,3,4] _ (by decide) rfl)⟩⟩
 rintro dX dK ⟨bC,cH,dP,dQ,bM,cA,cB,dR,bW⟩
 have cn:Hid (¬ ((↑(((↑p0.Race.Starts.length:Int):Int) - 0).toNat:Int) < (↑p0.Race.Starts.length:Int))):=zO (wAc)
 refine sR fL1 rfl (zc rfl rfl rfl rfl (fun _=>ze rfl cH cB) (eN (zM (cF Z cn (Zb (zo (zo (ZV (zL (sR gEm rfl (ZF rfl rfl rfl rfl (bW.ldBA (j:=0) rfl rfl cA Try.isAgg109 Try.sizeOf109 (vs:=hD KL.encI an.l) (wMB an (fun _=>rfl) rfl) (wCI an (fun _=>rfl) rfl)) rfl (zU (j:=1) (vs:=hD KL.encI an.l) rfl rfl rfl rfl bW rfl bM rfl rfl (fun w=>by rw [wCI (f:=KL.encI) (sz:=1) (N:=64) an (fun _=>rfl) rfl];exact Try.sizeOf109 w) (by rw [wCI (f:=KL.encI) (sz:=1) (N:=64) an (fun _=>rfl) rfl,wCI (f:=KL.encI) (sz:=1) (N:=64) (Arr.fill 64 0) (fun _=>rfl) rfl];exact zA rfl) (wFe (fun _=>rfl) _) (wIV _ _ (by rw [wCI (f:=KL.encI) (sz:=1) (N:=64) an (fun _=>rfl) rfl,wCI (f:=KL.encI) (sz:=1) (N:=64) (Arr.fill 64 0) (fun _=>rfl) rfl])) rfl ?_))))))))))))
 intro cc cS
 have bX:SW w [B0,.obj ae (.map af ag)] U bC [.blk b9 109 (hD KL.encI an.l),.blk b4 109 (hD KL.encI an.l),B0,.obj ae (.map af ag)] cc:=cS
 refine eN (zR ?_)
 have hE:=nA dw;first | subst r | cases hE
 exact ⟨rfl,_,(wFv (v:=.agg (hD KL.encI an.l).toArray) ⟨⟨_,bM,(wAw Try.isAgg109 Try.sizeOf109 (bX.blkAt (k:=1) rfl) (wMB an (fun _=>rfl) rfl) (wCI an (fun _=>rfl) rfl))⟩,trivial⟩),bC,_,(bX.pick [2,3] _ (by decide) rfl),rfl,rfl⟩
end Go.Proofs.Ytlnfbjphfoipaaa
namespace Go.Proofs.Ytlnfbjphfoipaaa
open Go.KL
set_option maxHeartbeats 4000000
theorem wGx (p0:wAE) (bc:Option Addr) (bd:Nat) (bv:Option Addr) (bz:Nat) (bw:Option Addr) (bA:Nat) (bx:Option Addr) (bB:Nat) (p1:Int) (w:World) (U:PHeap) (hS:St0 w U []) (dY:Sl U 1 bc bd p0.Starts.length (hD KL.encI p0.Starts)) (dZ:Sl U 2 bv bz p0.Splits.length (hD wAC p0.Splits)) (d7:Sl U 3 bw bA p0.Clocks.length (hD wAA p0.Clocks)) (d9:Sl U 4 bx bB p0.Readings.length (hD wAB p0.Readings)) {r:(List wAF) × Int} (hm:wEK p0 p1=some r):Gv Try.prog 17 [.agg #[.slice bc p0.Starts.length bd,.slice bv p0.Splits.length bz,.slice bw p0.Clocks.length bA,.slice bx p0.Readings.length bB],jV p1] w (wBw w [] U (fun U_ L_ v=>∃ (A0:Option Addr) (c0:Nat),v=.tuple #[.slice A0 r.1.length c0,jV r.2]/\L_=[.row A0 c0 41 2 (hD wAC r.1)])):=by
 unfold wEK at hm
 refine Gv.of Try.func17 Z Try.ntmps17 Try.results17 Z (sR gEw Z ?_)
 let B0:List Value:=[.slice bc p0.Starts.length bd,.slice bv p0.Splits.length bz,.slice bw p0.Clocks.length bA,.slice bx p0.Readings.length bB]
 refine zy (cs:=B0) rfl rfl rfl rfl rfl rfl (by rfl) hS ?_
 intro W1 b2 cC
 refine oA Z Z (oA Z Z (eN (sR (.fl 0 (.fl 1 (.fx 2 (wLg (.nil)) .stop))) Z (oL Z (cC.ldBA (j:=0) Z Z Z zf zY (vs:=B0) Z Z) (oM Z Z ?_)))))
 have q:=bnd hm
 obtain ⟨⟨x5,x6⟩,h7,bm⟩:=q
 try dsimp only at bm
 refine zF 0 Z Z Z Z (zD Z Z Try.call50 (zB Z (zB Z zJ)) Z) cC (fun hs=>wGw p0 bc bd bv bz bw bA bx bB p1 W1 U hs dY dZ d7 d9 h7) (.inr Z) ?_
 rintro U9 fb fy bI ft cz cx
 rcases x5 with _ | be
 try dsimp only at bm
 obtain ⟨rfl,rfl⟩:=cx
 have dQ:sW w U U9 [.blk b2 28 B0] bI:=cz
 refine oM Z Z (oR Z (zT Z Z (v:=.pointer none) Z) (oR Z (zT Z Z (v:=jV x6) Z) (oA Z Z (oA Z Z (eN (zM (sR fL2 Z (oM Z Z (oR Z (Ze Z Z Z) (eN (ifc bm ?_ ?_)))))))))))
 intro bO eI
 refine ZE (ZD (fun h=>h bO.out)) (kN (sR gFi Z (oM Z Z (oM Z Z ?_))))
 cases eI
 intro bO eJ
 refine cT Z bO (sR fL3 Z (oM Z Z (oA Z Z (oA Z Z (eN (zR (zW ?_)))))))
 have dR:=dQ.nilrow 41 2
 cases eJ
 exact ⟨rfl,_,(wDf rfl rfl),U9,_,(dR.pick [0] _ (by decide) rfl),none,0,rfl,rfl⟩
 try dsimp only at bm
 obtain ⟨bJ,bX,cm,bY,cn,bZ,co,cb,cr,ah,aj,ai,cc,ct,rfl,rfl,dt,du,dv,dw,dx,dy⟩:=cx
 let B1:Res:=.blk bJ 124 [.slice bX be.Race.Starts.length cm,.slice bY be.Race.Splits.length cn,.slice bZ be.Race.Clocks.length co,.slice cb be.Race.Readings.length cr,.map (some ah),.slice cc be.edges.length ct]
 have cD:sW w U U9 [B1,.obj ah (.map aj ai),.blk b2 28 B0] bI:=cz
 refine oM Z Z (oR Z (zT Z Z (v:=.pointer (some ⟨bJ,0,none⟩)) Z) (oR Z (zT Z Z (v:=jV x6) Z) (oA Z Z (oA Z Z (eN (zM (sR fL2 Z (oM Z Z (oR Z (Ze Z Z Z) (eN (ifc bm ?_ ?_)))))))))))
 intro bQ eO
 refine ZE (ZD (fun h=>h bQ.out)) (kN (sR gFi Z (oM Z Z (oM Z Z (bnK eO fun ae dz eU=>zF 2 Z Z Z Z (zD Z Z Try.call51 (zB Z (zB Z zJ)) Z) cD (fun hs=>wEk be bJ bX cm bY cn bZ co cb cr ah aj ai cc ct p1 bI U9 hs dt du dv dw dx dy dz) (.inl Z) ?_)))))
 rintro bh fc fz cU fw dS ⟨rfl,rfl⟩
 have dT:sW w U bh [B1,.obj ah (.map aj ai),.blk b2 28 B0] cU:=dS
 refine zQ (cs:=hD KL.encI (Arr.fill 64 0).l) Z Z Z Z Z Try.zeroValue109 Z dT ?_
 intro cV am dU
 have dV:sW w U bh [.blk am 109 (hD KL.encI (Arr.fill 64 0).l),B1,.obj ah (.map aj ai),.blk b2 28 B0] cV:=dU
 refine zU (j:=0) (vs:=hD KL.encI ae.l) rfl rfl rfl rfl dV rfl rfl rfl rfl (fun w=>by rw [wCI (f:=KL.encI) (sz:=1) (N:=64) ae (fun _=>rfl) rfl];exact Try.sizeOf109 w) (by rw [wCI (f:=KL.encI) (sz:=1) (N:=64) ae (fun _=>rfl) rfl,wCI (f:=KL.encI) (sz:=1) (N:=64) (Arr.fill 64 0) (fun _=>rfl) rfl];exact zA rfl) (wFe (fun _=>rfl) _) (wIV _ _ (by rw [wCI (f:=KL.encI) (sz:=1) (N:=64) ae (fun _=>rfl) rfl,wCI (f:=KL.encI) (sz:=1) (N:=64) (Arr.fill 64 0) (fun _=>rfl) rfl])) rfl ?_
 intro cW dW
 have cE:sW w U bh [.blk am 109 (hD KL.encI ae.l),B1,.obj ah (.map aj ai),.blk b2 28 B0] cW:=dW
 refine eN (sR fL1 Z (oA Z Z (eN (zM (sR fL4 Z (oR Z (zE Z Z zI Z ZB) (oL Z (cE.ldB (j:=3) Z Z Z ZK (v:=.slice bc p0.Starts.length bd) Z) (oR Z (zx Z Z zK) (oM Z Z (eN (zd (bnK eU fun fD eh eV=>?_))))))))))))
 have q:=wAx eh
 obtain ⟨bV,ej⟩:=q
 replace bV:=zO bV
 refine CK.forN' (fun ao bb σ_ w_=>∃ (U_:PHeap) (bf:Option Addr) (bj:Nat),σ_ 28=jV (↑ao:Int)/\σ_ 2=.pointer (some ⟨b2,0,none⟩)/\σ_ 8=.pointer (some ⟨am,0,none⟩)/\σ_ 9=.slice bf bb.length bj/\σ_ 27=jV (↑p0.Starts.length:Int)/\PHeap.Le bh U_/\sW w U U_ [.blk am 109 (hD KL.encI ae.l),B1,.obj ah (.map aj ai),.blk b2 28 B0,.row bf bj 41 2 (hD wAC bb)] w_) ej ?_ ?_ ?_
 have dX:=cE.nilrow 41 2
 exact ⟨bh,none,0,rfl,rfl,rfl,rfl,rfl,(zP _),(dX.pick [1,2,3,4,0] _ (by decide) rfl)⟩
 rintro ao bb fC fI fj bT ⟨bH,bf,bj,bR,cu,da,db,cw,eZ,dB⟩ eX
 have cg:Hid ((↑ao:Int) < (↑p0.Starts.length:Int)):=zO (wAs bT)
 replace bT:=zO bT
 have ep:Hid (w64 ((↑ao:Int) + 1)=(↑(ao + 1):Int)):=zO (by have h1:=bV.out;have h2:=cg.out;rw [wAU] <;> omega)
 refine sR fL1 Z (oR Z (ze Z bR cw) (eN (zM (cT Z cg (kN (zM (zd (sR fL2 Z (oM Z bR (oA Z Z (eN (sR gEq Z ?_))))))))))))
 let B2:List Value:=[jV 0,jV 0]
 let B3:List Value:=[jV 1,jV 1]
 refine oR Z (zk (pv:=[(0,jV 1),(1,jV 1)]) (z:=B2) (cs:=B3) Z (wAH Z (wAH Z wAO)) zi wBd Z Z) (zQ (cs:=B2) Z Z Z Z Z zi Z dB ?_)
 intro fd av dC
 refine zU (j:=0) (vs:=B3) Z Z Z Z dC Z Z Z Z zZ (zA Z) Z Z Z ?_
 intro cN dD
 let B4:Res:=.row bf bj 41 2 (hD wAC bb)
 have cy:sW w U bH [.blk av 41 B3,.blk am 109 (hD KL.encI ae.l),B1,.obj ah (.map aj ai),.blk b2 28 B0,B4] cN:=dD
 refine eN (zM (sR fL4 Z (oR Z (zE Z cu zI Z ZB) (oL Z (cy.ldB (j:=4) Z Z Z ZK (v:=.slice bc p0.Starts.length bd) Z) (oR Z (zx Z Z zK) (oM Z Z (eN (zd ?_))))))))
 have q:=bnd eX
 obtain ⟨⟨bC,bD⟩,ef,cG⟩:=q
 try dsimp only at cG
 have q:=wAx ef
 obtain ⟨bU,eg⟩:=q
 replace bU:=zO bU
 refine CK.forN' (fun aw (a8,au) σ_ w_=>∃ (U_:PHeap),σ_ 35=jV (↑aw:Int)/\σ_ 2=.pointer (some ⟨b2,0,none⟩)/\σ_ 8=.pointer (some ⟨am,0,none⟩)/\σ_ 9=.slice bf bb.length bj/\σ_ 10=jV (↑ao:Int)/\σ_ 11=.pointer (some ⟨av,0,none⟩)/\σ_ 27=jV (↑p0.Starts.length:Int)/\σ_ 28=jV (↑ao:Int)/\σ_ 34=jV (↑p0.Starts.length:Int)/\PHeap.Le bH U_/\sW w U U_ [.blk av 41 [jV a8,jV au],.blk am 109 (hD KL.encI ae.l),B1,.obj ah (.map aj ai),.blk b2 28 B0,B4] w_) eg ?_ ?_ ?_
 exact ⟨bH,Z,cu,da,db,Z,Z,cw,bR,Z,(zP _),cy⟩
 rintro aw ⟨a8,au⟩ fA fE ff bS ⟨ax,ba,bn,ay,bo,az,an,bp,bq,bk,bt,a7⟩ cH
 try dsimp only at cH
 have ci:Hid ((↑aw:Int) < (↑p0.Starts.length:Int)):=zO (wAs bS)
 replace bS:=zO bS
 have bs:Hid (w64 ((↑aw:Int) + 1)=(↑(aw + 1):Int)):=zO (by have h1:=bU.out;have h2:=ci.out;rw [wAU] <;> omega)
 refine sR fL1 Z (oR Z (ze Z ba bk) (eN (zM (cT Z ci (kN (zM (zd (sR fL2 Z (oM Z ba (oA Z Z (eN (zM (sR fL6 Z (oM Z az (oM Z Z (bnK cH fun _ ap er=>oR Z (Runs.iaA Z ay Z Try.runUnderlying109 Try.sizeOf108 (wBu ap) (wBv ap)) (bnK er fun _ aq eu=>oR Z (Runs.iaA Z Z Z Try.runUnderlying108 zC (wBu aq) (wBv aq)) ?_)))))))))))))))))
 have ek:=Arr.at_ ae (k:=(ao * 8 + aw)) (by have hz0:=wAS ap;have hz1:=wAS aq;omega)
 refine ZF rfl rfl rfl rfl (a7.ldB (j:=1) rfl rfl rfl zG (wAV (sz:=1) (fun _=>rfl) _ _ 0 _ ek (by first | omega | rfl | simp) rfl)) rfl (zc rfl rfl rfl rfl (fun _=>ze rfl rfl rfl) (eN (ifc eu ?_ ?_)))
 intro bL ew
 refine cT Z bL (rR (wDo (.fx 4 .nil .stop)) Z (oR Z (zE Z an zX Z zC) (oL Z (a7.ldB (j:=0) Z Z Z zG (v:=jV a8) Z) (oR Z (za Z Z Z) (oR Z (zE Z an zX Z zC) (zU (j:=0) (vs:=[jV (w64 (a8 + 1))]) Z Z Z Z a7 Z Z Z Z zC (zA Z) Z Z Z ?_))))))
 intro cO dE
 have br:sW w U ax [.blk av 41 [jV (w64 (a8 + 1)),jV au],.blk am 109 (hD KL.encI ae.l),B1,.obj ah (.map aj ai),.blk b2 28 B0,B4] cO:=dE
 refine eN (sR fL6 Z (oM Z Z (oM Z az (oR Z (Runs.iaA Z ay Z Try.runUnderlying109 Try.sizeOf108 (wBu aq) (wBv aq)) (oR Z (Runs.iaA Z Z Z Try.runUnderlying108 zC (wBu ap) (wBv ap)) ?_)))))
 have en:=Arr.at_ ae (k:=(aw * 8 + ao)) (by have hz0:=wAS aq;have hz1:=wAS ap;omega)
 refine ZF rfl rfl rfl rfl (br.ldB (j:=1) rfl rfl rfl zG (wAV (sz:=1) (fun _=>rfl) _ _ 0 _ en (by first | omega | rfl | simp) rfl)) rfl (zc rfl rfl rfl rfl (fun _=>ye rfl rfl rfl) (eN (ifc ew ?_ ?_)))
 intro bM ey
 refine cT Z bM (rR (wDo (.fx 4 .nil .stop)) Z (oR Z (zE Z an zX Z zC) (oL Z (br.ldB (j:=0) Z Z Z zG (v:=jV au) Z) (oR Z (za Z Z Z) (oR Z (zE Z an zX Z zC) (zU (j:=0) (vs:=[jV (w64 (au + 1))]) Z Z Z Z br Z Z Z Z zC (zA Z) Z Z Z ?_))))))
 intro cP dH
 have dI:sW w U ax [.blk av 41 [jV (w64 (a8 + 1)),jV (w64 (au + 1))],.blk am 109 (hD KL.encI ae.l),B1,.obj ah (.map aj ai),.blk b2 28 B0,B4] cP:=dH
 refine zh (ZA (zL (rR fL2 Z (oR Z (ZH (za Z ba Z) (congrArg (jV) bs.out)) (oM Z Z (zh ?_))))))
 cases ey
 exact zL ⟨Z,⟨ax,Z,bn,ay,bo,az,an,bp,bq,bk,bt,dI⟩⟩
 intro bM eA
 refine cF Z bM (Zo (ZA (zL (rR fL2 Z (oR Z (ZH (za Z ba Z) (congrArg (jV) bs.out)) (oM Z Z (zh ?_)))))))
 cases eA
 exact zL ⟨Z,⟨ax,Z,bn,ay,bo,az,an,bp,bq,bk,bt,br⟩⟩
 intro bL eD
 refine cF Z bL (kN (sR fL6 Z (oM Z Z (oM Z az (oR Z (Runs.iaA Z ay Z Try.runUnderlying109 Try.sizeOf108 (wBu aq) (wBv aq)) (oR Z (Runs.iaA Z Z Z Try.runUnderlying108 zC (wBu ap) (wBv ap)) ?_))))))
 have eo:=Arr.at_ ae (k:=(aw * 8 + ao)) (by have hz0:=wAS aq;have hz1:=wAS ap;omega)
 refine ZF rfl rfl rfl rfl (a7.ldB (j:=1) rfl rfl rfl zG (wAV (sz:=1) (fun _=>rfl) _ _ 0 _ eo (by first | omega | rfl | simp) rfl)) rfl (zc rfl rfl rfl rfl (fun _=>ye rfl rfl rfl) (eN (ifc eD ?_ ?_)))
 intro bN eE
 refine cT Z bN (rR (wDo (.fx 4 .nil .stop)) Z (oR Z (zE Z an zX Z zC) (oL Z (a7.ldB (j:=0) Z Z Z zG (v:=jV au) Z) (oR Z (za Z Z Z) (oR Z (zE Z an zX Z zC) (zU (j:=0) (vs:=[jV (w64 (au + 1))]) Z Z Z Z a7 Z Z Z Z zC (zA Z) Z Z Z ?_))))))
 intro cQ dJ
 have dK:sW w U ax [.blk av 41 [jV a8,jV (w64 (au + 1))],.blk am 109 (hD KL.encI ae.l),B1,.obj ah (.map aj ai),.blk b2 28 B0,B4] cQ:=dJ
 refine zh (ZA (zL (rR fL2 Z (oR Z (ZH (za Z ba Z) (congrArg (jV) bs.out)) (oM Z Z (zh ?_))))))
 cases eE
 exact zL ⟨Z,⟨ax,Z,bn,ay,bo,az,an,bp,bq,bk,bt,dK⟩⟩
 intro bN eF
 refine cF Z bN (Zo (ZA (zL (rR fL2 Z (oR Z (ZH (za Z ba Z) (congrArg (jV) bs.out)) (oM Z Z (zh ?_)))))))
 cases eF
 exact zL ⟨Z,⟨ax,Z,bn,ay,bo,az,an,bp,bq,bk,bt,a7⟩⟩
 rintro fG fg ⟨bG,dp,dd,de,df,fk,dg,dh,di,dk,eY,cA⟩
 have cY:Hid (¬ ((↑(((↑p0.Starts.length:Int):Int) - 0).toNat:Int) < (↑p0.Starts.length:Int))):=zO (wAc)
 refine sR fL1 Z (oR Z (ze Z dp dk) (eN (zM (cF Z cY (Zb (zo (zo (ZV (zL (rR gFf Z (oM Z df ?_)))))))))))
 let B5:List Value:=[jV bC,jV bD]
 refine oL Z (cA.ldBA (j:=0) Z Z dg Zn zZ (vs:=B5) Z Z) (zr (pv:=[(0,.agg B5.toArray)]) (zs:=B2) (cs:=B5) Z Z Z Z Z (wAH Z wAO) zn zZ zi Z Z Z Z Z cA ?_)
 intro cR cX dL
 let B6:Res:=.row (some ⟨cX,0,none⟩) 1 41 2 (hD wAC [(⟨bC,bD⟩:wAF)])
 have cB:sW w U bG [B6,.blk av 41 B5,.blk am 109 (hD KL.encI ae.l),B1,.obj ah (.map aj ai),.blk b2 28 B0,B4] cR:=dL
 refine bnK cG fun cI dr eG=>Zw (j:=6) (enc:=wAC) (xs:=bb) (ys:=[(⟨bC,bD⟩:wAF)]) (zs:=cI) rfl rfl rfl rfl rfl Try.underlying24 wJc rfl rfl rfl rfl rfl rfl cB rfl rfl rfl (cB.srcR (j:=0) rfl (by decide) (wAD (f:=wAC) (sz:=2) (fun _=>rfl) [(⟨bC,bD⟩:wAF)])) (fun _=>rfl) (fun _=>rfl) dr rfl ?_
 intro ca cp cS dM
 have dN:sW w U bG [B6,.blk av 41 B5,.blk am 109 (hD KL.encI ae.l),B1,.obj ah (.map aj ai),.blk b2 28 B0,.row ca cp 41 2 (hD wAC cI)] cS:=dM
 refine oA Z Z (zh (ZA (zL (rR fL2 Z (oR Z (ZH (za Z di Z) (congrArg (jV) ep.out)) (oM Z Z (zh ?_)))))))
 cases eG
 exact zL ⟨rfl,⟨bG,ca,cp,rfl,dd,de,rfl,dh,(eZ.trans eY),(dN.pick [2,3,4,5,6] _ (by decide) rfl)⟩⟩
 rintro fH fh ⟨cL,cK,cZ,dq,fm,fq,dl,dm,fu,dO⟩
 have c6:Hid (¬ ((↑(((↑p0.Starts.length:Int):Int) - 0).toNat:Int) < (↑p0.Starts.length:Int))):=zO (wAc)
 refine sR fL1 Z (oR Z (ze Z dq dm) (eN (zM (cF Z c6 (Zb (zo (zo (ZV (zL (sR fL3 Z (oM Z dl (oA Z Z (oA Z Z (eN (zR ?_)))))))))))))))
 cases eV
 exact ⟨rfl,_,(wDf rfl rfl),cL,_,(dO.pick [4] _ (by decide) rfl),cK,cZ,rfl,rfl⟩
 intro bQ eH
 refine cT Z bQ (sR fL3 Z (oM Z Z (oA Z Z (oA Z Z (eN (zR (zW ?_)))))))
 have dP:=cD.nilrow 41 2
 cases eH
 exact ⟨rfl,_,(wDf rfl rfl),U9,_,(dP.pick [0] _ (by decide) rfl),none,0,rfl,rfl⟩
theorem wFh (p0:wAJ) (p1:Int) (ah:Nat) (p2:Int) (ai:Nat) (w:World) (U:PHeap) (hS:St0 w U []) (aj:Cl U ah 0 [jV p1]) (ak:Cl U ai 0 [jV p2]) {r:Bool} (hm:wCS p0 p1 p2=some r):Gv Try.prog 87 [.agg #[jV p0.Skier,jV p0.Mat,jV p0.Clock,jV p0.Time],.pointer (some ⟨ah,0,none⟩),.pointer (some ⟨ai,0,none⟩)] w (wBw w [] U (fun U_ L_ v=>v=.bool r/\L_=[])):=by
 unfold wCS at hm
 refine Gv.of Try.func87 rfl Try.ntmps87 Try.results87 rfl (sR gEf rfl (zy (cs:=[jV p0.Skier,jV p0.Mat,jV p0.Clock,jV p0.Time]) rfl rfl rfl rfl rfl rfl (by rfl) hS ?_))
 intro W1 b2 ag
 refine oA Z Z (eN (sR fL10 Z (oR Z (zE Z Z ZJ Z zC) (oL Z (ag.ldB (j:=0) Z Z Z zG (v:=jV p0.Skier) Z) (oR Z (zE Z Z ZJ Z zC) (oL Z (ag.ldB (j:=0) Z Z Z zG (v:=jV p0.Mat) Z) (oR Z (zk (pv:=[(0,jV p0.Skier),(1,jV p0.Mat)]) (z:=[jV 0,jV 0]) (cs:=[jV p0.Skier,jV p0.Mat]) Z (wAH Z (wAH Z wAO)) Zu wEg Z Z) (oL Z (ag.ldC (f:=0) aj (v:=jV p1) Z Z zG Z) (oL Z (ag.ldC (f:=0) ak (v:=jV p2) Z Z zG Z) (oR Z (zk (pv:=[(0,jV p1),(1,jV p2)]) (z:=[jV 0,jV 0]) (cs:=[jV p1,jV p2]) Z (wAH Z (wAH Z wAO)) Zu wEg Z Z) (oR Z (Runs.eqS (enc:=wAT) (a:=(⟨p0.Skier,p0.Mat⟩:wAP)) (b:=(⟨p1,p2⟩:wAP)) Z Z Z wMN wMM) (oA Z Z (eN (zR ?_))))))))))))))
 first | (obtain rfl:=nA hm) | cases hm
 exact ⟨rfl,_,(ZL rfl),U,_,(ag.pick [] _ (by decide) rfl),rfl,rfl⟩
theorem wCL (p0:List wAJ) (ao:Option Addr) (ap:Nat) (p1:(wAJ->Option Bool)) (aq:Value) (w:World) (U:PHeap) (hS:St0 w U []) (bp:Sl U 4 ao ap p0.length (hD wAB p0)) (bq:FnOK Try.prog U aq wIx wIy p1) {r:Int} (hm:wAm p0 p1=some r):Gv Try.prog 106 [.slice ao p0.length ap,aq] w (wBw w [] U (fun U_ L_ v=>v=jV r/\L_=[])):=by
 unfold wAm at hm
 refine Gv.of Try.func106 Z Try.ntmps106 Try.results106 Z (sR fL1 Z (oA Z Z (eN (zM (sR fL3 Z (oM Z Z (oR Z (zx Z Z ZN) (oM Z Z (eN (zd ?_))))))))))
 have q:=wBy hm
 obtain ⟨r3,aj⟩:=q
 have q:=wBx aj
 obtain ⟨am,bt⟩:=q
 replace am:=zO am
 refine yX (fun k2 _ σ_ w_=>∃ (U_:PHeap),σ_ 8=jV (↑k2:Int)/\σ_ 0=.slice ao p0.length ap/\σ_ 1=aq/\σ_ 7=jV (↑p0.length:Int)/\PHeap.Le U U_/\sW w U U_ [] w_) bt ?_ ?_ ?_
 exact ⟨U,Z,Z,Z,Z,(zP _),hS⟩
 rintro k2 ⟨⟩ bR bT W8 ak ⟨bE,ai,av,aw,ax,an,az⟩ a9 br
 try dsimp only at a9
 have au:Hid ((↑k2:Int) < (↑p0.length:Int)):=zO (wAs ak)
 replace ak:=zO ak
 have bu:Hid (w64 ((↑k2:Int) + 1)=(↑(k2 + 1):Int)):=zO (by have h1:=am.out;have h2:=au.out;rw [wAU] <;> omega)
 refine sR fL1 Z (oR Z (ze Z ai ax) (eN (zM (cT Z au (kN (zM (zd (sR fL2 Z (oM Z ai (oA Z Z (eN (sR (wFk (.fx 5 .nil .stop)) Z (oM Z aw (oM Z av (oM Z Z (bnK a9 fun af ay bv=>?_))))))))))))))))
 have bh:=bp.le an
 have q:=bh.el (fun _=>rfl) (wAb ay)
 obtain ⟨bH,bM,bk,bm⟩:=q
 refine oR Z (Zk Z Z bk Z ZN ZW (wCl ay)) (oL Z (az.ldCA (f:=0) bm Z Z yj ZW (us:=[jV af.Skier,jV af.Mat,jV af.Clock,jV af.Time]) Z Z) (bnK bv fun bQ bi bw=>?_))
 have bj:=bq.le an
 refine OKS.callV (a:=af) Z Z Z Z Z Z (zB Z zJ) az bj Z bi ?_
 rintro ag bD bO bc bB bn ⟨rfl,rfl⟩
 have a7:sW w U ag [] bc:=bn
 refine eN (ifc bw ?_ ?_)
 intro ah bx
 refine ZI (congrArg hH ah.out) (sR fL2 Z (oM Z Z (oA Z Z (eN (zR (zq (zW ?_)))))))
 have q:=wAY bx
 obtain ⟨bC,bz,be⟩:=q
 have q:=wBY hm aj (br bC be)
 obtain rfl:=q
 refine zW (zq (zW ?_))
 cases bz
 exact ⟨Z,_,(ZL Z),ag,_,a7,Z,Z⟩
 intro ah bA
 refine ZE (congrArg hH (hJ.2 ah.out)) (Zo (ZA (zL (rR fL2 Z (oR Z (ZH (za Z ai Z) (congrArg (jV) bu.out)) (oM Z Z (zh ?_)))))))
 have q:=nA bA
 obtain rfl:=q
 exact zL ⟨Z,_,Z,⟨ag,Z,av,aw,ax,(an.trans bB),a7⟩⟩
 rintro ⟨⟩ bS bF ⟨bb,bg,bI,bJ,bf,bL,bo⟩ bs
 have a8:=wCm hm aj bs
 try dsimp only at a8
 have bd:Hid (¬ ((↑(((↑p0.length:Int):Int) - 0).toNat:Int) < (↑p0.length:Int))):=zO (wAc)
 refine sR fL1 Z (oR Z (ze Z bg bf) (eN (zM (cF Z bd (Zb (zo (zo (ZV (zL (sR fL1 Z (oA Z Z (eN (zR ?_)))))))))))))
 cases a8
 exact ⟨Z,_,(ZL Z),bb,_,bo,Z,Z⟩
theorem wCD (p0:List wAJ) (af:Option Addr) (ag:Nat) (p1:(wAJ->Option Bool)) (ah:Value) (w:World) (U:PHeap) (hS:St0 w U []) (ap:Sl U 4 af ag p0.length (hD wAB p0)) (aq:FnOK Try.prog U ah wIx wIy p1) {r:Bool} (hm:wAj p0 p1=some r):Gv Try.prog 86 [.slice af p0.length ag,ah] w (wBw w [] U (fun U_ L_ v=>v=.bool r/\L_=[])):=by
 unfold wAj at hm
 refine Gv.of Try.func86 Z Try.ntmps86 Try.results86 Z (sR fL1 Z (oA Z Z (eN (sR gFg Z (oM Z Z (oM Z Z (bnK hm fun x1 h2 aj=>zF 0 Z Z Z Z (zD Z Z Try.call106 (zB Z (zB Z zJ)) Z) hS (fun hs=>wCL p0 af ag p1 ah w U hs ap aq h2) (.inr Z) ?_)))))))
 rintro U4 L5 v6 W7 av ao ⟨rfl,rfl⟩
 have an:sW w U U4 [] W7:=ao
 refine oR Z (Runs.geq Z Z Z) (oA Z Z (eN (zR ?_)))
 first | (obtain rfl:=nA aj) | cases aj
 exact ⟨Z,_,(ZL Z),U4,_,an,Z,Z⟩
theorem wGX (p0:wAE) (bd:Option Addr) (bf:Nat) (be:Option Addr) (bg:Nat) (bq:Option Addr) (br:Nat) (aq:Option Addr) (au:Nat) (w:World) (U:PHeap) (hS:St0 w U []) (dE:Sl U 1 bd bf p0.Starts.length (hD KL.encI p0.Starts)) (dH:Sl U 2 be bg p0.Splits.length (hD wAC p0.Splits)) (dI:Sl U 3 bq br p0.Clocks.length (hD wAA p0.Clocks)) (cb:Sl U 4 aq au p0.Readings.length (hD wAB p0.Readings)) {r:(List wAP) × Int} (hm:wDy p0=some r):Gv Try.prog 53 [.agg #[.slice bd p0.Starts.length bf,.slice be p0.Splits.length bg,.slice bq p0.Clocks.length br,.slice aq p0.Readings.length au]] w (wBw w [] U (fun U_ L_ v=>∃ (A0:Option Addr) (c0:Nat),v=.tuple #[.slice A0 r.1.length c0,jV r.2]/\L_=[.row A0 c0 45 2 (hD wAT r.1)])):=by
 unfold wDy at hm
 refine Gv.of Try.func53 Z Try.ntmps53 Try.results53 Z (sR gEw Z ?_)
 let B0:List Value:=[.slice bd p0.Starts.length bf,.slice be p0.Splits.length bg,.slice bq p0.Clocks.length br,.slice aq p0.Readings.length au]
 refine zy (cs:=B0) rfl rfl rfl rfl rfl rfl (by rfl) hS ?_
 intro W1 b2 ca
 refine oA Z Z (oA Z Z (eN (zM (sR gEn Z (oL Z (ca.ldBA (j:=0) Z Z Z zf zY (vs:=B0) Z Z) (bnK hm fun x5 h6 dV=>zF 0 Z Z Z Z (zD Z Z Try.call68 (zB Z zJ) Z) ca (fun hs=>wDq p0 bd bf be bg bq br aq au W1 U hs dE dH dI cb h6) (.inr Z) ?_))))))
 rintro U8 L9 er ct dX db ⟨rfl,rfl⟩
 have bF:sW w U U8 [.blk b2 28 B0] ct:=db
 refine oA Z Z (eN (sR fL2 Z (oM Z Z (oR Z (Ze Z Z Z) (eN (ifc dV ?_ ?_))))))
 intro bA dQ
 refine ZE (ZD (fun h=>h bA.out)) (kN (sR fL1 Z (oA Z Z (eN (zM (sR fL4 Z (oR Z (zE Z Z zI Z ZB) (oL Z (bF.ldB (j:=0) Z Z Z ZK (v:=.slice bd p0.Starts.length bf) Z) (oR Z (zx Z Z zK) (oM Z Z (eN (zd (bnK dQ fun eE dK dU=>?_)))))))))))))
 have q:=wAx dK
 obtain ⟨bH,dL⟩:=q
 replace bH:=zO bH
 refine CK.forN' (fun ah bo σ_ w_=>∃ (U_:PHeap) (av:Option Addr) (ax:Nat),σ_ 16=jV (↑ah:Int)/\σ_ 1=.pointer (some ⟨b2,0,none⟩)/\σ_ 5=.slice av bo.length ax/\σ_ 15=jV (↑p0.Starts.length:Int)/\PHeap.Le U8 U_/\sW w U U_ [.blk b2 28 B0,.row av ax 45 2 (hD wAT bo)] w_) dL ?_ ?_ ?_
 have du:=bF.nilrow 45 2
 exact ⟨U8,none,0,rfl,rfl,rfl,rfl,(zP _),(du.pick [1,0] _ (by decide) rfl)⟩
 rintro ah bo eA eG ej bG ⟨bM,av,ax,bE,cK,cL,bT,cf,dv⟩ dW
 have bS:Hid ((↑ah:Int) < (↑p0.Starts.length:Int)):=zO (wAs bG)
 replace bG:=zO bG
 have dM:Hid (w64 ((↑ah:Int) + 1)=(↑(ah + 1):Int)):=zO (by have h1:=bH.out;have h2:=bS.out;rw [wAU] <;> omega)
 refine sR fL1 Z (oR Z (ze Z bE bT) (eN (zM (cT Z bS (kN (zM (zd (sR gEq Z (oM Z bE (zQ (cs:=[jV 0]) Z Z Z Z Z zz Z dv ?_))))))))))
 intro ek aj dw
 let B1:List Value:=[jV (↑ah:Int)]
 refine zU (j:=0) (vs:=B1) Z Z Z Z dw Z Z Z Z zC (zA Z) Z Z Z ?_
 intro cC dx
 let B2:Res:=.row av ax 45 2 (hD wAT bo)
 have dy:sW w U bM [.blk aj 3 B1,.blk b2 28 B0,B2] cC:=dx
 refine eN (sR gEi Z (zQ (cs:=[jV 0]) Z Z Z Z Z zz Z dy ?_))
 intro en bx dz
 refine zU (j:=0) (vs:=[jV 1]) Z Z Z Z dz Z Z Z Z zC (zA Z) Z Z Z ?_
 intro bN dA
 have dB:sW w U bM [.blk bx 3 [jV 1],.blk aj 3 B1,.blk b2 28 B0,B2] bN:=dA
 refine eN (zd ?_)
 have q:=dB.freeze (k:=1) rfl
 obtain ⟨bk,cg,a7,dC⟩:=q
 replace a7:=Cl.of a7
 have dD:sW w U bk [.blk bx 3 [jV 1],.blk b2 28 B0,B2] bN:=dC
 replace a7:Cl bk aj 0 B1:=a7
 refine CK.iter (fun (ba,ae) σ_ w_=>∃ (U_:PHeap) (ao:Option Addr) (ap:Nat) (ak:Nat),σ_ 1=.pointer (some ⟨b2,0,none⟩)/\σ_ 5=.slice ao ba.length ap/\σ_ 6=.pointer (some ⟨aj,0,none⟩)/\σ_ 7=.pointer (some ⟨ak,0,none⟩)/\σ_ 15=jV (↑p0.Starts.length:Int)/\σ_ 16=jV (↑ah:Int)/\PHeap.Le bk U_/\sW w U U_ [.blk b2 28 B0,.row ao ap 45 2 (hD wAT ba),.blk ak 3 [jV ae]] w_) dW ?_ ?_
 exact ⟨bk,av,ax,bx,cK,cL,rfl,rfl,bT,bE,(zP _),(dD.pick [1,2,0] _ (by decide) rfl)⟩
 rintro ⟨ba,ae⟩ eD eH bO ⟨co,ao,ap,ak,ay,bB,bn,az,bC,bD,bb,a8⟩ bI dJ
 try dsimp only at bI
 refine zM (sR fL5 Z (oL Z (a8.ldB (j:=2) Z Z az zG (v:=jV ae) Z) (oR Z (zE Z ay zI Z Zj) (oL Z (a8.ldB (j:=0) Z Z Z Zr (v:=.slice be p0.Splits.length bg) Z) (oR Z (zx Z Z zn) (oR Z (Runs.leq Z Z Z) (eN ?_)))))))
 by_cases am:ae <= (↑p0.Splits.length:Int)
 have cc:=bI;rw [if_pos am] at cc;replace am:=zO am
 refine cT Z am (kN (zM (zd (sR (wDF gEg) Z (oR Z (zE Z ay zI Z ZO) (oL Z (a8.ldB (j:=0) Z Z Z Zs (v:=.slice aq p0.Readings.length au) Z) ?_))))))
 have q:=a8.freeze (k:=2) rfl
 obtain ⟨bj,bp,an,c6⟩:=q
 replace an:=Cl.of an
 let B3:Res:=.row ao ap 45 2 (hD wAT ba)
 have da:sW w U bj [.blk b2 28 B0,B3] bO:=c6
 replace an:Cl bj ak 0 [jV ae]:=an
 refine oR Z (Runs.mkf Z zJ (zB bn (zB az zJ))) ?_
 have cN:=cb.le dX
 have cO:=cN.le cf
 have cP:=cO.le cg
 have cQ:=cP.le bb
 have cR:=cQ.le bp
 have cS:=a7.le bb
 have bU:=cS.le bp
 have cZ:FnOK Try.prog bj (.func (.func 87) #[] #[.pointer (some ⟨aj,0,none⟩),.pointer (some ⟨ak,0,none⟩)]) wIx wIy (fun x=>wCS x (↑ah:Int) ae):=⟨87,[],[.pointer (some ⟨aj,0,none⟩),.pointer (some ⟨ak,0,none⟩)],rfl,Try.call87,fun U1 w1 x y vs le hs ha hm=>by obtain rfl:=ha;exact wFh x (↑ah:Int) aj ae ak w1 U1 hs (bU.le le) (an.le le) hm⟩
 refine bnK cc fun ew cU dN=>zF 0 Z Z Z Z (zD Z Z Try.call86 (zB Z (zB Z zJ)) Z) da (fun hs=>wCD p0.Readings aq au (fun x=>wCS x (↑ah:Int) ae) (.func (.func 87) #[] #[.pointer (some ⟨aj,0,none⟩),.pointer (some ⟨ak,0,none⟩)]) bO bj hs cR cZ cU) (.inr Z) ?_
 rintro ai d7 eu cu bc dd ⟨rfl,rfl⟩
 have a9:sW w U ai [.blk b2 28 B0,B3] cu:=dd
 refine oR Z (Zg Z Z) (eN (ifc dN ?_ ?_))
 intro bz dO
 refine ZE (nC bz.out) (Zo (ZA (zL (zM (sR fL1 Z ?_)))))
 have cV:=an.le bc
 refine oL Z (a9.ldC (f:=0) cV (v:=jV ae) Z az zG Z) (eN (rR gEi Z (zQ (cs:=[jV 0]) Z Z Z Z Z zz Z a9 ?_)))
 intro ef bv de
 refine zU (j:=0) (vs:=[jV ae]) Z Z Z Z de Z Z Z Z zC (zA Z) Z Z Z ?_
 intro cw df
 have bW:sW w U ai [.blk bv 3 [jV ae],.blk b2 28 B0,B3] cw:=df
 refine eN (rR gEx Z (oL Z (bW.ldB (j:=0) Z Z Z zG (v:=jV ae) Z) (oR Z (za Z Z Z) (zU (j:=0) (vs:=[jV (w64 (ae + 1))]) Z Z Z Z bW Z Z Z Z zC (zA Z) Z Z Z ?_))))
 intro cx dg
 have dh:sW w U ai [.blk bv 3 [jV (w64 (ae + 1))],.blk b2 28 B0,B3] cx:=dg
 refine zh ?_
 have q:=nA dO
 obtain rfl:=q
 exact zL ⟨rfl,_,rfl,⟨ai,ao,ap,bv,ay,bB,bn,rfl,bC,bD,((bb.trans bp).trans bc),(dh.pick [1,2,0] _ (by decide) rfl)⟩⟩
 intro bz dP
 refine ZI (nF (bz.out)) (rR (wDo (.fx 4 (.fx 5 (.fl 6 .nil) .stop) .stop)) Z (oM Z bB ?_))
 have cW:=bU.le bc
 refine oL Z (a9.ldC (f:=0) cW (v:=jV (↑ah:Int)) Z bn zG Z) ?_
 have bV:=an.le bc
 refine oL Z (a9.ldC (f:=0) bV (v:=jV ae) Z az zG Z) ?_
 let B4:List Value:=[jV (↑ah:Int),jV ae]
 refine oR Z (zk (pv:=[(0,jV (↑ah:Int)),(1,jV ae)]) (z:=[jV 0,jV 0]) (cs:=B4) Z (wAH Z (wAH Z wAO)) Zu wEg Z Z) (zr (pv:=[(0,.agg B4.toArray)]) (zs:=[jV 0,jV 0]) (cs:=B4) Z Z Z Z Z (wAH Z wAO) Zq ZG Zu Z Z Z Z Z a9 ?_)
 intro cy cD di
 let B5:Res:=.row (some ⟨cD,0,none⟩) 1 45 2 (hD wAT [(⟨(↑ah:Int),ae⟩:wAP)])
 have bX:sW w U ai [B5,.blk b2 28 B0,B3] cy:=di
 refine bnK dP fun ci cX dR=>Zw (j:=2) (enc:=wAT) (xs:=ba) (ys:=[(⟨(↑ah:Int),ae⟩:wAP)]) (zs:=ci) rfl rfl rfl rfl rfl Try.underlying112 wML rfl rfl rfl rfl rfl rfl bX rfl rfl rfl (bX.srcR (j:=0) rfl (by decide) (wAD (f:=wAT) (sz:=2) (fun _=>rfl) [(⟨(↑ah:Int),ae⟩:wAP)])) (fun _=>rfl) (fun _=>rfl) cX rfl ?_
 intro bL bR cz dk
 let B6:Res:=.row bL bR 45 2 (hD wAT ci)
 have bY:sW w U ai [B5,.blk b2 28 B0,B6] cz:=dk
 refine oA Z Z (zh (ZA (zL (zM (sR fL1 Z (oL Z (bY.ldC (f:=0) bV (v:=jV ae) Z az zG Z) (eN (rR gEi Z (zQ (cs:=[jV 0]) Z Z Z Z Z zz Z bY ?_)))))))))
 intro eg bw dl
 refine zU (j:=0) (vs:=[jV ae]) Z Z Z Z dl Z Z Z Z zC (zA Z) Z Z Z ?_
 intro cA dm
 have bZ:sW w U ai [.blk bw 3 [jV ae],B5,.blk b2 28 B0,B6] cA:=dm
 refine eN (rR gEx Z (oL Z (bZ.ldB (j:=0) Z Z Z zG (v:=jV ae) Z) (oR Z (za Z Z Z) (zU (j:=0) (vs:=[jV (w64 (ae + 1))]) Z Z Z Z bZ Z Z Z Z zC (zA Z) Z Z Z ?_))))
 intro cB dp
 have dq:sW w U ai [.blk bw 3 [jV (w64 (ae + 1))],B5,.blk b2 28 B0,B6] cB:=dp
 refine zh ?_
 have q:=nA dR
 obtain rfl:=q
 exact zL ⟨rfl,_,rfl,⟨ai,bL,bR,bw,ay,rfl,bn,rfl,bC,bD,((bb.trans bp).trans bc),(dq.pick [2,3,0] _ (by decide) rfl)⟩⟩
 have cd:=bI;rw [if_neg am] at cd;replace am:=zO am
 refine cF Z am (Zb (zo ?_))
 have q:=wAY cd
 obtain ⟨dY,dS,cH⟩:=q
 have q:=dJ dY cH
 obtain rfl:=q
 refine zo (ZV (ZA (zL (rR fL2 Z (oR Z (ZH (za Z bD Z) (congrArg (jV) dM.out)) (oM Z Z (zh ?_)))))))
 cases dS
 exact zL ⟨rfl,⟨co,ao,ap,rfl,ay,bB,bC,((cf.trans cg).trans bb),(a8.pick [0,1] _ (by decide) rfl)⟩⟩
 rintro eF eh ⟨cp,cm,cE,cM,eo,cI,cJ,ep,dr⟩
 have cG:Hid (¬ ((↑(((↑p0.Starts.length:Int):Int) - 0).toNat:Int) < (↑p0.Starts.length:Int))):=zO (wAc)
 refine sR fL1 Z (oR Z (ze Z cM cJ) (eN (zM (cF Z cG (Zb (zo (zo (ZV (zL (sR fL3 Z (oM Z cI (oA Z Z (oA Z Z (eN (zR ?_)))))))))))))))
 cases dU
 exact ⟨rfl,_,(wDf rfl rfl),cp,_,(dr.pick [1] _ (by decide) rfl),cm,cE,rfl,rfl⟩
 intro bA dT
 refine cT Z bA (sR fL3 Z (oM Z Z (oA Z Z (oA Z Z (eN (zR (zW ?_)))))))
 have dt:=bF.nilrow 45 2
 cases dT
 exact ⟨rfl,_,(wDf rfl rfl),U8,_,(dt.pick [0] _ (by decide) rfl),none,0,rfl,rfl⟩
end Go.Proofs.Ytlnfbjphfoipaaa
namespace Go.Proofs.Ytlnfbjphfoipaaa
open Go.KL
set_option maxHeartbeats 4000000
theorem wDl (p0:List wAF) (aq:Option Addr) (av:Nat) (p1:List wAF) (au:Option Addr) (aw:Nat) (w:World) (U:PHeap) (hS:St0 w U []) (bv:Sl U 2 aq av p0.length (hD wAC p0)) (bw:Sl U 2 au aw p1.length (hD wAC p1)) {r:Bool} (hm:wBo p0 p1=some r):Gv Try.prog 18 [.slice aq p0.length av,.slice au p1.length aw] w (wBw w [] U (fun U_ L_ v=>v=.bool r/\L_=[])):=by
 unfold wBo at hm
 refine Gv.of Try.func18 Z Try.ntmps18 Try.results18 Z (sR fL1 Z (oA Z Z (eN (zM (sR fL5 Z (oM Z Z (oR Z (zx Z Z zn) (oM Z Z (oR Z (zx Z Z zn) (oR Z (Ze Z Z Z) (eN ?_)))))))))))
 by_cases c1:(↑p0.length:Int)=(↑p1.length:Int)
 have ai:=hm;rw [if_pos c1] at ai;replace c1:=zO c1
 refine ZE (ZD (fun h=>h c1.out)) (kN (zM (sR fL3 Z (oM Z Z (oR Z (zx Z Z zn) (oM Z Z (eN (zd ?_))))))))
 have q:=wBy ai
 obtain ⟨r5,am⟩:=q
 have q:=wBx am
 obtain ⟨ao,bA⟩:=q
 replace ao:=zO ao
 refine yX (fun k4 _ σ_ w_=>∃ (U_:PHeap),σ_ 13=jV (↑k4:Int)/\σ_ 0=.slice aq p0.length av/\σ_ 1=.slice au p1.length aw/\σ_ 12=jV (↑p0.length:Int)/\PHeap.Le U U_/\sW w U U_ [] w_) bA ?_ ?_ ?_
 exact ⟨U,Z,Z,Z,Z,(zP _),hS⟩
 rintro k4 ⟨⟩ bU bW a7 an ⟨az,ak,a9,ba,bb,ap,bt⟩ bg bx
 try dsimp only at bg
 have a8:Hid ((↑k4:Int) < (↑p0.length:Int)):=zO (wAs an)
 replace an:=zO an
 have bB:Hid (w64 ((↑k4:Int) + 1)=(↑(k4 + 1):Int)):=zO (by have h1:=ao.out;have h2:=a8.out;rw [wAU] <;> omega)
 refine sR fL1 rfl (zc rfl rfl rfl rfl (fun _=>ze rfl ak bb) (eN (zM (cT Z a8 (kN (zM (zd (sR fL2 rfl (zw rfl rfl rfl rfl rfl ak (yI rfl rfl rfl rfl rfl rfl (eN (zM (zt zu [3,3,3,1,3,3,3,1,3] fL9 (by kernel_rfl) ?_)))))))))))))
 have ag:=bt.drew
 generalize hw_W25:({ a7 with drawn:=a7.drawn + 1 }:World)=bI at ag ⊢
 refine oM Z a9 (oM Z Z (bnK bg fun ax bc bC=>?_))
 have bn:=bv.le ap
 have q:=bn.el (fun _=>rfl) (wAb bc)
 obtain ⟨bL,bR,bp,br⟩:=q
 refine oR Z (Zk Z Z bp Z zn zZ (wCl bc)) (oL Z (ag.ldCA (f:=0) br Z Z Zn zZ (us:=[jV ax.Lo,jV ax.Hi]) Z Z) (oM Z ba (oM Z Z (bnK bC fun ay bd bD=>?_))))
 have bo:=bw.le ap
 have q:=bo.el (fun _=>rfl) (wAb bd)
 obtain ⟨bM,bS,bq,bs⟩:=q
 refine oR Z (Zk Z Z bq Z zn zZ (wCl bd)) (oL Z (ag.ldCA (f:=0) bs Z Z Zn zZ (us:=[jV ay.Lo,jV ay.Hi]) Z Z) (oR Z (ZH (yn (enc:=wAC) (a:=ax) (b:=ay) Z Z Z wHZ wHY) (congrArg hH (decide_not).symm)) (eN (ifc bD ?_ ?_))))
 intro aj bE
 refine ZE (ZD (fun h=>h aj.out)) (Zo (ZA (zL (rR fL2 Z (oR Z (ZH (za Z ak Z) (congrArg (jV) bB.out)) (oM Z Z (zh ?_)))))))
 have q:=nA bE
 obtain rfl:=q
 exact zL ⟨Z,_,Z,⟨az,Z,a9,ba,bb,ap,ag⟩⟩
 intro aj bF
 refine cT Z aj (sR fL1 Z (oA Z Z (eN (zR (zq (zW ?_))))))
 have q:=wAY bF
 obtain ⟨bH,bG,bj⟩:=q
 have q:=wBY ai am (bx bH bj)
 obtain rfl:=q
 refine zW (zq (zW ?_))
 have hE:=nA bG;first | subst r | cases hE
 exact ⟨Z,_,(ZL Z),az,_,ag,Z,Z⟩
 rintro ⟨⟩ bV bJ ⟨bh,bm,bN,bO,bk,bQ,bu⟩ bz
 have be:=wCm ai am bz
 try dsimp only at be
 have bi:Hid (¬ ((↑(((↑p0.length:Int):Int) - 0).toNat:Int) < (↑p0.length:Int))):=zO (wAc)
 refine sR fL1 Z (oR Z (ze Z bm bk) (eN (zM (cF Z bi (Zb (zo (zo (ZV (zL (sR fL1 Z (oA Z Z (eN (zR ?_)))))))))))))
 have hE:=nA be;first | subst r | cases hE
 exact ⟨Z,_,(ZL Z),bh,_,bu,Z,Z⟩
 have bf:=hm;rw [if_neg c1] at bf;replace c1:=zO c1
 refine cT Z c1 (sR fL1 Z (oA Z Z (eN (zR (zW ?_)))))
 have hE:=nA bf;first | subst r | cases hE
 exact ⟨Z,_,(ZL Z),U,_,hS,Z,Z⟩
theorem wDd (p0:List wAP) (aq:Option Addr) (av:Nat) (p1:List wAP) (au:Option Addr) (aw:Nat) (w:World) (U:PHeap) (hS:St0 w U []) (bv:Sl U 2 aq av p0.length (hD wAT p0)) (bw:Sl U 2 au aw p1.length (hD wAT p1)) {r:Bool} (hm:wBh p0 p1=some r):Gv Try.prog 54 [.slice aq p0.length av,.slice au p1.length aw] w (wBw w [] U (fun U_ L_ v=>v=.bool r/\L_=[])):=by
 unfold wBh at hm
 refine Gv.of Try.func54 Z Try.ntmps54 Try.results54 Z (sR fL1 Z (oA Z Z (eN (zM (sR fL5 Z (oM Z Z (oR Z (zx Z Z Zq) (oM Z Z (oR Z (zx Z Z Zq) (oR Z (Ze Z Z Z) (eN ?_)))))))))))
 by_cases c1:(↑p0.length:Int)=(↑p1.length:Int)
 have ai:=hm;rw [if_pos c1] at ai;replace c1:=zO c1
 refine ZE (ZD (fun h=>h c1.out)) (kN (zM (sR fL3 Z (oM Z Z (oR Z (zx Z Z Zq) (oM Z Z (eN (zd ?_))))))))
 have q:=wBy ai
 obtain ⟨r5,am⟩:=q
 have q:=wBx am
 obtain ⟨ao,bA⟩:=q
 replace ao:=zO ao
 refine yX (fun k4 _ σ_ w_=>∃ (U_:PHeap),σ_ 13=jV (↑k4:Int)/\σ_ 0=.slice aq p0.length av/\σ_ 1=.slice au p1.length aw/\σ_ 12=jV (↑p0.length:Int)/\PHeap.Le U U_/\sW w U U_ [] w_) bA ?_ ?_ ?_
 exact ⟨U,Z,Z,Z,Z,(zP _),hS⟩
 rintro k4 ⟨⟩ bU bW a7 an ⟨az,ak,a9,ba,bb,ap,bt⟩ bg bx
 try dsimp only at bg
 have a8:Hid ((↑k4:Int) < (↑p0.length:Int)):=zO (wAs an)
 replace an:=zO an
 have bB:Hid (w64 ((↑k4:Int) + 1)=(↑(k4 + 1):Int)):=zO (by have h1:=ao.out;have h2:=a8.out;rw [wAU] <;> omega)
 refine sR fL1 rfl (zc rfl rfl rfl rfl (fun _=>ze rfl ak bb) (eN (zM (cT Z a8 (kN (zM (zd (sR fL2 rfl (zw rfl rfl rfl rfl rfl ak (yI rfl rfl rfl rfl rfl rfl (eN (zM (zt zu [3,3,3,1,3,3,3,1,3] fL9 (by kernel_rfl) ?_)))))))))))))
 have ag:=bt.drew
 generalize hw_W25:({ a7 with drawn:=a7.drawn + 1 }:World)=bI at ag ⊢
 refine oM Z a9 (oM Z Z (bnK bg fun ax bc bC=>?_))
 have bn:=bv.le ap
 have q:=bn.el (fun _=>rfl) (wAb bc)
 obtain ⟨bL,bR,bp,br⟩:=q
 refine oR Z (Zk Z Z bp Z Zq ZG (wCl bc)) (oL Z (ag.ldCA (f:=0) br Z Z ZY ZG (us:=[jV ax.Skier,jV ax.Mat]) Z Z) (oM Z ba (oM Z Z (bnK bC fun ay bd bD=>?_))))
 have bo:=bw.le ap
 have q:=bo.el (fun _=>rfl) (wAb bd)
 obtain ⟨bM,bS,bq,bs⟩:=q
 refine oR Z (Zk Z Z bq Z Zq ZG (wCl bd)) (oL Z (ag.ldCA (f:=0) bs Z Z ZY ZG (us:=[jV ay.Skier,jV ay.Mat]) Z Z) (oR Z (ZH (yn (enc:=wAT) (a:=ax) (b:=ay) Z Z Z wMN wMM) (congrArg hH (decide_not).symm)) (eN (ifc bD ?_ ?_))))
 intro aj bE
 refine ZE (ZD (fun h=>h aj.out)) (Zo (ZA (zL (rR fL2 Z (oR Z (ZH (za Z ak Z) (congrArg (jV) bB.out)) (oM Z Z (zh ?_)))))))
 have q:=nA bE
 obtain rfl:=q
 exact zL ⟨Z,_,Z,⟨az,Z,a9,ba,bb,ap,ag⟩⟩
 intro aj bF
 refine cT Z aj (sR fL1 Z (oA Z Z (eN (zR (zq (zW ?_))))))
 have q:=wAY bF
 obtain ⟨bH,bG,bj⟩:=q
 have q:=wBY ai am (bx bH bj)
 obtain rfl:=q
 refine zW (zq (zW ?_))
 have hE:=nA bG;first | subst r | cases hE
 exact ⟨Z,_,(ZL Z),az,_,ag,Z,Z⟩
 rintro ⟨⟩ bV bJ ⟨bh,bm,bN,bO,bk,bQ,bu⟩ bz
 have be:=wCm ai am bz
 try dsimp only at be
 have bi:Hid (¬ ((↑(((↑p0.length:Int):Int) - 0).toNat:Int) < (↑p0.length:Int))):=zO (wAc)
 refine sR fL1 Z (oR Z (ze Z bm bk) (eN (zM (cF Z bi (Zb (zo (zo (ZV (zL (sR fL1 Z (oA Z Z (eN (zR ?_)))))))))))))
 have hE:=nA be;first | subst r | cases hE
 exact ⟨Z,_,(ZL Z),bh,_,bu,Z,Z⟩
 have bf:=hm;rw [if_neg c1] at bf;replace c1:=zO c1
 refine cT Z c1 (sR fL1 Z (oA Z Z (eN (zR (zW ?_)))))
 have hE:=nA bf;first | subst r | cases hE
 exact ⟨Z,_,(ZL Z),U,_,hS,Z,Z⟩
theorem wCC  (w:World) (U:PHeap) (hS:St0 w U [])  {r:wAE} (hm:wBI =some r):Gv Try.prog 55 [] w (wBw w [] U (fun U_ L_ v=>∃ (a9:Option Addr) (bf:Nat) (ba:Option Addr) (bg:Nat) (bb:Option Addr) (bh:Nat) (bc:Option Addr) (bi:Nat),v=.agg #[.slice a9 r.Starts.length bf,.slice ba r.Splits.length bg,.slice bb r.Clocks.length bh,.slice bc r.Readings.length bi]/\L_=[.row a9 bf 3 1 (hD KL.encI r.Starts),.row ba bg 41 2 (hD wAC r.Splits),.row bb bh 43 3 (hD wAA r.Clocks),.row bc bi 39 4 (hD wAB r.Readings)])):=by
 unfold wBI at hm
 refine Gv.of Try.func55 Z Try.ntmps55 Try.results55 Z (sR (.fx 0 .nil .stop) Z ?_)
 let B0:List Value:=[.slice none 0 0,.slice none 0 0,.slice none 0 0,.slice none 0 0]
 refine zQ (cs:=B0) Z Z Z Z Z yC Z hS ?_
 intro W1 b2 bv
 refine eN (sR (.fx 0 gEk .stop) Z (bnK hm fun x5 h6 bD=>zF 0 Z Z Z Z (zD Z Z Try.call52 zJ Z) bv (fun hs=>wBR W1 U hs h6) (.inr Z) ?_))
 rintro U8 L9 bI bo bH bs ⟨ao,ax,ap,ay,aq,az,ag,am,rfl,rfl⟩
 let B1:Res:=.row aq az 43 3 (hD wAA x5.Clocks)
 let B2:Res:=.row ap ay 41 2 (hD wAC x5.Splits)
 let B3:Res:=.row ao ax 3 1 (hD KL.encI x5.Starts)
 let B4:Res:=.row ag am 39 4 (hD wAB x5.Readings)
 have bt:sW w U U8 [B3,B2,B1,B4,.blk b2 28 B0] bo:=bs
 refine zQ (cs:=B0) Z Z Z Z Z yC Z bt ?_
 intro bF aw bu
 let B5:List Value:=[.slice ao x5.Starts.length ax,.slice ap x5.Splits.length ay,.slice aq x5.Clocks.length az,.slice ag x5.Readings.length am]
 refine zU (j:=0) (vs:=B5) Z Z Z Z bu Z Z Z Z zY (zA Z) Z Z Z ?_
 intro bp bw
 have a8:sW w U U8 [.blk aw 28 B5,B3,B2,B1,B4,.blk b2 28 B0] bp:=bw
 refine eN (sR (wDo (.fx 4 .nil .stop)) Z (oR Z (zE Z Z zI Z ZO) (oL Z (a8.ldB (j:=0) Z Z Z Zs (v:=.slice ag x5.Readings.length am) Z) (bnK bD fun _ a7 bC=>?_))))
 obtain ⟨bG,bj⟩:=a8.rowSome (j:=4) rfl (by rw [wAD (f:=wAB) (sz:=4) (fun _=>rfl) x5.Readings];have hz:=wAS a7;omega)
 refine oR Z (Zk Z Z bj Z ZN ZW (wAS a7)) (oR Z (zE Z Z ZJ Z zC) ?_)
 have bB:=wBL (xs:=x5.Readings) (wAS a7)
 refine ya (j:=4) (vs:=[jV 1700]) (cs':=hD wAB (nH x5.Readings 1 (⟨(gd x5.Readings 1).Skier,(gd x5.Readings 1).Mat,(gd x5.Readings 1).Clock,1700⟩:wAJ))) rfl rfl rfl rfl a8 rfl bj rfl rfl rfl zC (by rw [wAD (f:=wAB) (sz:=4) (fun _=>rfl)];try (have hz:=wAS a7;show _ + 1 <= _;first | omega | (simp only [Int.toNat_natCast];omega) | (simp only [nI,nD,nE];omega))) rfl (wCH (sz:=4) (fo:=3) (fun _=>rfl) _ _ _ _ bB (by first | omega | rfl | (simp only [Int.toNat_natCast];omega) | (simp only [nI,nD,nE];omega)) (zA rfl) rfl) rfl ?_
 intro be bx
 let B6:Res:=.row ag am 39 4 (hD wAB (nH x5.Readings 1 (⟨(gd x5.Readings 1).Skier,(gd x5.Readings 1).Mat,(gd x5.Readings 1).Clock,1700⟩:wAJ)))
 have bz:sW w U U8 [.blk aw 28 B5,B3,B2,B1,B6,.blk b2 28 B0] be:=bx
 let B7:List Value:=[.slice ao x5.Starts.length ax,.slice ap x5.Splits.length ay,.slice aq x5.Clocks.length az,.slice ag ((nH x5.Readings 1 (⟨(gd x5.Readings 1).Skier,(gd x5.Readings 1).Mat,(gd x5.Readings 1).Clock,1700⟩:wAJ)).length) am]
 have bk:sW w U U8 [.blk aw 28 B7,B3,B2,B1,B6,.blk b2 28 B0] be:=by simpa only [B0,B1,B2,B3,B5,B6,B7,nB] using bz
 refine eN (sR gEm Z (oL Z (bk.ldBA (j:=0) Z Z Z zf zY (vs:=B7) Z Z) (zU (j:=5) (vs:=B7) Z Z Z Z bk Z Z Z Z zY (zA Z) Z Z Z ?_)))
 intro bq bA
 have bm:sW w U U8 [.blk aw 28 B7,B3,B2,B1,B6,.blk b2 28 B7] bq:=bA
 refine eN (zR ?_)
 cases bC
 exact ⟨rfl,_,(wFv (v:=.agg B7.toArray) ⟨⟨_,rfl,(wAw zf zY (bm.blkAt (k:=5) rfl) (vs:=B7) rfl rfl)⟩,trivial⟩),U8,_,(bm.pick [1,2,3,4] _ (by decide) rfl),ao,ax,ap,ay,aq,az,ag,am,rfl,rfl⟩
theorem wFi (p0:wAX) (am:Nat) (aq:Option Addr) (aw:Nat) (au:Option Addr) (ax:Nat) (av:Option Addr) (ay:Nat) (bf:Option Addr) (bi:Nat) (ae:Nat) (af:Array MapEntry) (ag:Nat) (bg:Option Addr) (bj:Nat) (p1:List Int) (bh:Option Addr) (bk:Nat) (w:World) (U:PHeap) (hS:St0 w U [.blk am 124 [.slice aq p0.Race.Starts.length aw,.slice au p0.Race.Splits.length ax,.slice av p0.Race.Clocks.length ay,.slice bf p0.Race.Readings.length bi,.map (some ae),.slice bg p0.edges.length bj],.obj ae (.map af ag)]) (gq:Sl U 1 aq aw p0.Race.Starts.length (hD KL.encI p0.Race.Starts)) (gu:Sl U 2 au ax p0.Race.Splits.length (hD wAC p0.Race.Splits)) (gv:Sl U 3 av ay p0.Race.Clocks.length (hD wAA p0.Race.Clocks)) (gw:Sl U 4 bf bi p0.Race.Readings.length (hD wAB p0.Race.Readings)) (cP:MpR af wBD wBJ p0.number) (gx:Sl U 7 bg bj p0.edges.length (hD wAQ p0.edges)) (bI:Sl U 1 bh bk p1.length (hD KL.encI p1)) {r:(List (List Int)) × (List Int)} (hm:wDY p0 p1=some r):Gv Try.prog 58 [.pointer (some ⟨am,0,none⟩),.slice bh p1.length bk] w (wBw w [.blk am 124 [.slice aq p0.Race.Starts.length aw,.slice au p0.Race.Splits.length ax,.slice av p0.Race.Clocks.length ay,.slice bf p0.Race.Readings.length bi,.map (some ae),.slice bg p0.edges.length bj],.obj ae (.map af ag)] U (fun U_ L_ v=>∃ (A0:Option Addr) (c0:Nat) (ct:List Value) (A1:Option Addr) (c1:Nat),v=.tuple #[.slice A0 r.1.length c0,.slice A1 r.2.length c1]/\L_=[.row A0 c0 23 1 ct,.row A1 c1 3 1 (hD KL.encI r.2),.blk am 124 [.slice aq p0.Race.Starts.length aw,.slice au p0.Race.Splits.length ax,.slice av p0.Race.Clocks.length ay,.slice bf p0.Race.Readings.length bi,.map (some ae),.slice bg p0.edges.length bj],.obj ae (.map af ag)]/\RlL U_ wJI r.1 ct)):=by
 unfold wDY at hm
 refine Gv.of Try.func58 Z Try.ntmps58 Try.results58 Z (sR fL2 Z (oA Z Z (oA Z Z (eN (sR fL4 Z (oM Z Z (bnK hm fun x3 h4 fO=>?_)))))))
 have q:=bI.el (fun _=>rfl) (wAb h4)
 obtain ⟨b6,gA,eE,eH⟩:=q
 refine oR Z (Zk Z Z eE Z zK zC (wCl h4)) (oL Z (hS.ldC (f:=0) eH (v:=jV x3) Z Z zG Z) (oA Z Z (eN (sR fL1 Z (oA Z Z (eN (zM (sR fL7 Z (oM Z Z (oR Z (ZT Z Z) (oR Z (zE Z Z ZM Z zY) (oR Z (zE Z Z zI Z ZB) (oL Z (hS.ldB (j:=0) Z Z Z ZK (v:=.slice aq p0.Race.Starts.length aw) Z) (oR Z (zx Z Z zK) (oM Z Z (eN (zd (bnK fO fun f5 fu fN=>?_))))))))))))))))))
 have q:=wAx fu
 obtain ⟨bO,fw⟩:=q
 replace bO:=zO bO
 let B0:Res:=.blk am 124 [.slice aq p0.Race.Starts.length aw,.slice au p0.Race.Splits.length ax,.slice av p0.Race.Clocks.length ay,.slice bf p0.Race.Readings.length bi,.map (some ae),.slice bg p0.edges.length bj]
 refine CK.forN' (fun aj bd σ_ w_=>∃ (U_:PHeap) (a8:Option Addr) (bb:Nat) (bt:List Value),σ_ 22=jV (↑aj:Int)/\σ_ 0=.pointer (some ⟨am,0,none⟩)/\σ_ 1=.slice bh p1.length bk/\σ_ 6=jV x3/\σ_ 7=.slice a8 bd.length bb/\σ_ 21=jV (↑p0.Race.Starts.length:Int)/\PHeap.Le U U_/\SW w [B0,.obj ae (.map af ag)] U U_ [B0,.obj ae (.map af ag),.row a8 bb 23 1 bt] w_/\RlL U_ wJI bd bt) fw ?_ ?_ ?_
 have fk:=hS.nilrow 23 1
 exact ⟨U,none,0,[],rfl,rfl,rfl,rfl,rfl,rfl,(zP _),(fk.pick [1,2,0] _ (by decide) rfl),RlL.nil⟩
 rintro aj bd gE gM gb bL ⟨cb,a8,bb,bt,bC,cC,dQ,dR,dS,cD,cW,cO,ey⟩ fT
 have cr:Hid ((↑aj:Int) < (↑p0.Race.Starts.length:Int)):=zO (wAs bL)
 replace bL:=zO bL
 have fD:Hid (w64 ((↑aj:Int) + 1)=(↑(aj + 1):Int)):=zO (by have h1:=bO.out;have h2:=cr.out;rw [wAU] <;> omega)
 refine sR fL1 Z (oR Z (ze Z bC cD) (eN (zM (cT Z cr (kN (zM (zd (sR fL2 Z (oM Z bC (oA Z Z (eN (sR fL1 Z (oA Z Z (eN (zM (sR fL8 Z (oM Z cC (oR Z (ZT Z Z) (oR Z (zE Z Z ZM Z zY) (oR Z (zE Z Z zI Z Zj) (oL Z (cO.ldB (j:=0) Z Z Z Zr (v:=.slice au p0.Race.Splits.length ax) Z) (oR Z (zx Z Z zn) (oR Z (za Z Z Z) (oM Z Z (eN (zd (bnK fT fun ao fy fP=>?_)))))))))))))))))))))))))))
 have q:=wAx fy
 obtain ⟨bQ,fz⟩:=q
 replace bQ:=zO bQ
 let B1:Res:=.row a8 bb 23 1 bt
 refine CK.forN' (fun ak be σ_ w_=>∃ (U_:PHeap) (bn:Option Addr) (bs:Nat),σ_ 32=jV (↑ak:Int)/\σ_ 0=.pointer (some ⟨am,0,none⟩)/\σ_ 1=.slice bh p1.length bk/\σ_ 6=jV x3/\σ_ 7=.slice a8 bd.length bb/\σ_ 8=jV (↑aj:Int)/\σ_ 9=.slice bn be.length bs/\σ_ 21=jV (↑p0.Race.Starts.length:Int)/\σ_ 22=jV (↑aj:Int)/\σ_ 31=jV (w64 ((↑p0.Race.Splits.length:Int) + 1))/\PHeap.Le cb U_/\SW w [B0,.obj ae (.map af ag)] U U_ [B0,.obj ae (.map af ag),B1,.row bn bs 3 1 (hD KL.encI be)] w_) fz ?_ ?_ ?_
 have fm:=cO.nilrow 3 1
 exact ⟨cb,none,0,rfl,cC,dQ,dR,dS,rfl,rfl,cD,bC,rfl,(zP _),(fm.pick [1,2,3,0] _ (by decide) rfl)⟩
 rintro ak be gF gN ge bM ⟨bx,bn,bs,bD,cE,cG,cH,dT,cI,dU,dV,dW,cw,cX,bu⟩ fU
 have cg:Hid ((↑ak:Int) < (w64 ((↑p0.Race.Splits.length:Int) + 1))):=zO (wAs bM)
 replace bM:=zO bM
 have fA:Hid (w64 ((↑ak:Int) + 1)=(↑(ak + 1):Int)):=zO (by have h1:=bQ.out;have h2:=cg.out;rw [wAU] <;> omega)
 refine sR fL1 Z (oR Z (ze Z bD cw) (eN (zM (cT Z cg (kN (zM (zd (sR fL2 Z (oM Z bD (oA Z Z (eN (rR (wMY (.fx 14 (.fx 15 (.fl 16 .nil) .stop) .stop)) Z (oM Z dU (oM Z cG (oM Z cE (oR Z (ZT Z Z) (oR Z (zE Z Z ZM Z yF) (oL Z (bu.ldB (j:=0) Z Z Z yJ (v:=.map (some ae)) Z) (oM Z cI (oM Z Z (oR Z (zk (pv:=[(0,jV (↑aj:Int)),(1,jV (↑ak:Int))]) (z:=[jV 0,jV 0]) (cs:=[jV (↑aj:Int),jV (↑ak:Int)]) Z (wAH Z (wAH Z wAO)) zb wBO Z Z) (oL Z (bu.lookup1 (j:=1) (mk:=wBD) (mv:=wBJ) (a:=(⟨(↑aj:Int),(↑ak:Int)⟩:wAL)) (z:=0) Z Z Z Z (wBj ZP) wCp zz cP) (bnK fU fun az bE fE=>?_)))))))))))))))))))))))
 have d7:=bI.le cW
 have d9:=d7.le cX
 have q:=d9.el (fun _=>rfl) (wAb bE)
 obtain ⟨gf,gy,eA,eF⟩:=q
 refine oR Z (Zd Z Z eA Z zK zC (wCG bE) (wCM bE)) (oL Z (bu.ldC (f:=0) eF (v:=jV az) Z Z zG Z) (oM Z cH (oR Z (yP Z Z Z) (zr (pv:=[(0,jV (w64 (az - x3)))]) (zs:=[jV 0]) (cs:=[jV (w64 (az - x3))]) Z Z Z Z Z (wAH Z wAO) zK zC zz Z Z Z Z Z bu ?_))))
 intro dd dp eI
 let B2:Res:=.row (some ⟨dp,0,none⟩) 1 3 1 (hD KL.encI [w64 (az - x3)])
 have cK:SW w [B0,.obj ae (.map af ag)] U bx [B2,B0,.obj ae (.map af ag),B1,.row bn bs 3 1 (hD KL.encI be)] dd:=eI
 refine bnK fE fun cY ef fG=>Zw (j:=4) (enc:=KL.encI) (xs:=be) (ys:=[w64 (az - x3)]) (zs:=cY) rfl rfl rfl rfl rfl yb wGu rfl rfl rfl rfl rfl rfl cK rfl rfl rfl (cK.srcR (j:=0) rfl (by decide) (wAD (f:=KL.encI) (sz:=1) (fun _=>rfl) [w64 (az - x3)])) (fun _=>rfl) (fun _=>rfl) ef rfl ?_
 intro bT ci de eJ
 have eO:SW w [B0,.obj ae (.map af ag)] U bx [B2,B0,.obj ae (.map af ag),B1,.row bT ci 3 1 (hD KL.encI cY)] de:=eJ
 refine oA Z Z (zh (ZA (zL (rR fL2 Z (oR Z (ZH (za Z bD Z) (congrArg (jV) fA.out)) (oM Z Z (zh ?_)))))))
 cases fG
 exact zL ⟨rfl,⟨bx,bT,ci,rfl,cE,cG,cH,dT,cI,rfl,dV,dW,cw,cX,(eO.pick [1,2,3,4] _ (by decide) rfl)⟩⟩
 rintro gH df ⟨f8,bv,bz,dX,dx,dy,dz,dA,gi,dB,dC,dD,dE,cR,eU⟩
 have dt:Hid (¬ ((↑((w64 ((↑p0.Race.Splits.length:Int) + 1):Int) - 0).toNat:Int) < (w64 ((↑p0.Race.Splits.length:Int) + 1)))):=zO (wAc)
 refine sR fL1 Z (oR Z (ze Z dX dE) (eN (zM (cF Z dt (Zb (zo (zo (ZV (zL (rR gFf Z (oM Z dA (oM Z dB ?_))))))))))))
 have q:=eU.freezeR (k:=3) (n:=ao.length) rfl (wAD (f:=KL.encI) (sz:=1) (fun _=>rfl) ao) (by decide)
 obtain ⟨ba,cS,fR,eX⟩:=q
 have eY:SW w [B0,.obj ae (.map af ag)] U ba [B0,.obj ae (.map af ag),B1] df:=eX
 let B3:List Value:=[.slice bv ao.length bz]
 refine zr (pv:=[(0,.slice bv ao.length bz)]) (zs:=[.slice none 0 0]) (cs:=B3) Z Z Z Z Z (wAH Z wAO) Try.runUnderlying29 ZB Try.zeroValue23 Z Z Z Z Z eY ?_
 intro dg dq eV
 have cQ:RlL ba wJI [ao] B3:=(RlL.cons (R:=wJI) (x:=ao) (vs:=B3) ⟨bv,bz,rfl,fR⟩ RlL.nil)
 let B4:Res:=.row (some ⟨dq,0,none⟩) 1 23 1 B3
 have cL:SW w [B0,.obj ae (.map af ag)] U ba [B4,B0,.obj ae (.map af ag),B1] dg:=eV
 refine bnK fP fun fZ eg fH=>?_
 have eh:=ey.le cR
 have ej:=eh.le cS
 refine OKS.appendR (R:=wJI) (j:=3) (xs:=bd) (ys:=[ao]) (zs:=fZ) rfl rfl rfl rfl rfl Try.underlying29 wKs rfl rfl rfl rfl rfl rfl rfl cL rfl rfl rfl ej cQ (cL.srcR (j:=0) rfl (by decide) (RlL.len cQ)) eg rfl ?_
 intro bU cm cu dh eZ fQ
 have e0:SW w [B0,.obj ae (.map af ag)] U ba [B4,B0,.obj ae (.map af ag),.row bU cm 23 1 cu] dh:=eZ
 refine oA Z Z (zh (ZA (zL (rR fL2 Z (oR Z (ZH (za Z dD Z) (congrArg (jV) fD.out)) (oM Z Z (zh ?_)))))))
 cases fH
 exact zL ⟨rfl,⟨ba,bU,cm,cu,rfl,dx,dy,dz,rfl,dC,((cW.trans cR).trans cS),(e0.pick [1,2,3] _ (by decide) rfl),fQ⟩⟩
 rintro gI f9 ⟨ca,bw,bA,cn,dY,cx,dH,dI,dJ,dK,fV,cM,ek⟩
 have du:Hid (¬ ((↑(((↑p0.Race.Starts.length:Int):Int) - 0).toNat:Int) < (↑p0.Race.Starts.length:Int))):=zO (wAc)
 refine sR fL1 Z (oR Z (ze Z dY dK) (eN (zM (cF Z du (Zb (zo (zo (ZV (zL (sR fL1 Z (oA Z Z (eN (zM (sR fL7 Z (oM Z cx (oR Z (ZT Z Z) (oR Z (zE Z Z ZM Z zY) (oR Z (zE Z Z zI Z Zl) (oL Z (cM.ldB (j:=0) Z Z Z yD (v:=.slice av p0.Race.Clocks.length ay) Z) (oR Z (zx Z Z ZS) (oM Z Z (eN (zd (bnK fN fun gG fq fI=>?_))))))))))))))))))))))))
 have q:=wAx fq
 obtain ⟨bN,ft⟩:=q
 replace bN:=zO bN
 let B5:Res:=.row bw bA 23 1 cn
 refine CK.forN' (fun ap bc σ_ w_=>∃ (U_:PHeap) (bm:Option Addr) (br:Nat),σ_ 63=jV (↑ap:Int)/\σ_ 0=.pointer (some ⟨am,0,none⟩)/\σ_ 1=.slice bh p1.length bk/\σ_ 6=jV x3/\σ_ 7=.slice bw f5.length bA/\σ_ 11=.slice bm bc.length br/\σ_ 62=jV (↑p0.Race.Clocks.length:Int)/\PHeap.Le ca U_/\SW w [B0,.obj ae (.map af ag)] U U_ [B0,.obj ae (.map af ag),B5,.row bm br 3 1 (hD KL.encI bc)] w_) ft ?_ ?_ ?_
 have fb:=cM.nilrow 3 1
 exact ⟨ca,none,0,rfl,cx,dH,dI,dJ,rfl,rfl,(zP _),(fb.pick [1,2,3,0] _ (by decide) rfl)⟩
 rintro ap bc gD gJ cc bJ ⟨da,bm,br,bB,cy,cz,cA,dL,dM,cB,cU,fc⟩ fS
 have co:Hid ((↑ap:Int) < (↑p0.Race.Clocks.length:Int)):=zO (wAs bJ)
 replace bJ:=zO bJ
 have fC:Hid (w64 ((↑ap:Int) + 1)=(↑(ap + 1):Int)):=zO (by have h1:=bN.out;have h2:=co.out;rw [wAU] <;> omega)
 refine sR fL1 rfl (zc rfl rfl rfl rfl (fun _=>ze rfl bB cB) (eN (zM (cT Z co (kN (zM (zd (sR fL2 rfl (zw rfl rfl rfl rfl rfl bB (yI rfl rfl rfl rfl rfl rfl (eN (zt zu [3,3,3,3,3,3,1,3,2,1,3,1,3,2,0,3] (fC0_7 (.fx 8 (wMh (.fx 13 (.fx 14 (.fl 15 .nil) .stop) .stop)) .stop)) (by kernel_rfl) ?_))))))))))))
 have bG:=fc.drew
 generalize hw_W242:({ cc with drawn:=cc.drawn + 1 }:World)=di at bG ⊢
 refine oM Z dM (oM Z cA (oM Z cz (oM Z cy (oR Z (ZT Z Z) (oR Z (zE Z Z ZM Z yF) (oL Z (bG.ldB (j:=0) Z Z Z yJ (v:=.map (some ae)) Z) (oM Z Z (bnK fS fun f4 en fJ=>zF 0 Z Z Z Z (zD Z Z Try.call82 (zB Z zJ) Z) bG (fun hs=>wCb (↑ap:Int) di da hs en) (.inr Z) ?_))))))))
 rintro bq f7 gC dk cV fd ⟨rfl,rfl⟩
 let B6:Res:=.row bm br 3 1 (hD KL.encI bc)
 have bH:SW w [B0,.obj ae (.map af ag)] U bq [B0,.obj ae (.map af ag),B5,B6] dk:=fd
 refine oL Z (bH.lookup1 (j:=1) (mk:=wBD) (mv:=wBJ) (a:=f4) (z:=0) Z Z Z Z (wBj ZP) wCp zz cP) (bnK fJ fun a7 bF fK=>?_)
 have eo:=bI.le fV
 have ep:=eo.le cU
 have er:=ep.le cV
 have q:=er.el (fun _=>rfl) (wAb bF)
 obtain ⟨gg,gz,eD,eG⟩:=q
 refine oR Z (Zd Z Z eD Z zK zC (wCG bF) (wCM bF)) (oL Z (bH.ldC (f:=0) eG (v:=jV a7) Z Z zG Z) (oR Z (yP Z Z Z) (zr (pv:=[(0,jV (w64 (x3 - a7)))]) (zs:=[jV 0]) (cs:=[jV (w64 (x3 - a7))]) Z Z Z Z Z (wAH Z wAO) zK zC zz Z Z Z Z Z bH ?_)))
 intro dl dr ff
 let B7:Res:=.row (some ⟨dr,0,none⟩) 1 3 1 (hD KL.encI [w64 (x3 - a7)])
 have cN:SW w [B0,.obj ae (.map af ag)] U bq [B7,B0,.obj ae (.map af ag),B5,B6] dl:=ff
 refine bnK fK fun cZ eu fM=>Zw (j:=4) (enc:=KL.encI) (xs:=bc) (ys:=[w64 (x3 - a7)]) (zs:=cZ) rfl rfl rfl rfl rfl yb wGu rfl rfl rfl rfl rfl rfl cN rfl rfl rfl (cN.srcR (j:=0) rfl (by decide) (wAD (f:=KL.encI) (sz:=1) (fun _=>rfl) [w64 (x3 - a7)])) (fun _=>rfl) (fun _=>rfl) eu rfl ?_
 intro bV cp dm fg
 have fh:SW w [B0,.obj ae (.map af ag)] U bq [B7,B0,.obj ae (.map af ag),B5,.row bV cp 3 1 (hD KL.encI cZ)] dm:=fg
 refine oA Z Z (zh (ZA (zL (rR fL2 Z (oR Z (ZH (za Z bB Z) (congrArg (jV) fC.out)) (oM Z Z (zh ?_)))))))
 cases fM
 exact zL ⟨rfl,⟨bq,bV,cp,rfl,cy,cz,cA,dL,rfl,cB,(cU.trans cV),(fh.pick [1,2,3,4] _ (by decide) rfl)⟩⟩
 rintro gK ga ⟨db,c6,dv,dZ,gj,gm,gp,dN,dO,dP,fY,fj⟩
 have dw:Hid (¬ ((↑(((↑p0.Race.Clocks.length:Int):Int) - 0).toNat:Int) < (↑p0.Race.Clocks.length:Int))):=zO (wAc)
 refine sR fL1 Z (oR Z (ze Z dZ dP) (eN (zM (cF Z dw (Zb (zo (zo (ZV (zL (sR fL4 Z (oM Z dN (oM Z dO (oA Z Z (oA Z Z (eN (zR ?_))))))))))))))))
 have ew:=ek.le fY
 cases fI
 exact ⟨rfl,_,(wDf rfl rfl),db,_,(fj.pick [2,3,0,1] _ (by decide) rfl),bw,bA,cn,c6,dv,rfl,rfl,ew⟩
theorem wHa (p0:wAE) (bc:Option Addr) (bg:Nat) (bd:Option Addr) (bh:Nat) (be:Option Addr) (bi:Nat) (bf:Option Addr) (bj:Nat) (w:World) (U:PHeap) (hS:St0 w U []) (db:Sl U 1 bc bg p0.Starts.length (hD KL.encI p0.Starts)) (dd:Sl U 2 bd bh p0.Splits.length (hD wAC p0.Splits)) (de:Sl U 3 be bi p0.Clocks.length (hD wAA p0.Clocks)) (df:Sl U 4 bf bj p0.Readings.length (hD wAB p0.Readings)) {r:(List (List Int)) × (List Int) × Int} (hm:wEX p0=some r):Gv Try.prog 27 [.agg #[.slice bc p0.Starts.length bg,.slice bd p0.Splits.length bh,.slice be p0.Clocks.length bi,.slice bf p0.Readings.length bj]] w (wBw w [] U (fun U_ L_ v=>∃ (A0:Option Addr) (c0:Nat) (bQ:List Value) (A1:Option Addr) (c1:Nat),v=.tuple #[.slice A0 r.1.length c0,.slice A1 r.2.1.length c1,jV r.2.2]/\L_=[.row A0 c0 23 1 bQ,.row A1 c1 3 1 (hD KL.encI r.2.1)]/\RlL U_ wJI r.1 bQ)):=by
 unfold wEX at hm
 refine Gv.of Try.func27 Z Try.ntmps27 Try.results27 Z (sR (.fx 0 (fC1_3 (.nil)) .stop) Z ?_)
 let B0:List Value:=[.slice bc p0.Starts.length bg,.slice bd p0.Splits.length bh,.slice be p0.Clocks.length bi,.slice bf p0.Readings.length bj]
 refine zy (cs:=B0) rfl rfl rfl rfl rfl rfl (by rfl) hS ?_
 intro W1 b2 bY
 refine oA Z Z (oA Z Z (oA Z Z (eN (sR (.fl 0 (.fx 1 (wHH (.nil)) .stop)) Z (oL Z (bY.ldBA (j:=0) Z Z Z zf zY (vs:=B0) Z Z) ?_)))))
 have q:=bnd hm
 obtain ⟨⟨x5,x6⟩,h7,au⟩:=q
 try dsimp only at au
 refine zF 0 Z Z Z Z (zD Z Z Try.call60 (zB Z zJ) Z) bY (fun hs=>wDr p0 bc bg bd bh be bi bf bj W1 U hs db dd de df h7) (.inr Z) ?_
 rintro U9 dv dC az dA bX bW
 rcases x5 with _ | ag
 try dsimp only at au
 obtain ⟨rfl,rfl⟩:=bW
 have cQ:sW w U U9 [.blk b2 28 B0] az:=bX
 refine oM Z Z (oR Z (zT Z Z (v:=.pointer none) Z) (oR Z (zT Z Z (v:=jV x6) Z) (oA Z Z (oA Z Z (eN (zM (sR fL2 Z (oM Z Z (oR Z (Ze Z Z Z) (eN (ifc au ?_ ?_)))))))))))
 intro bB di
 refine ZE (ZD (fun h=>h bB.out)) (kN (sR (.fl 0 (.fx 1 (wLf gFc) .stop)) Z (oM Z Z ?_)))
 cases di
 intro bB dk
 refine cT Z bB (sR fL4 Z (oM Z Z (oA Z Z (oA Z Z (oA Z Z (eN (zR (zW ?_))))))))
 have cR:=cQ.nilrow 23 1
 have cS:=cR.nilrow 3 1
 cases dk
 exact ⟨rfl,_,(res3 rfl rfl rfl),U9,_,(cS.pick [1,0] _ (by decide) rfl),none,0,[],none,0,rfl,rfl,RlL.nil⟩
 try dsimp only at au
 obtain ⟨a8,bn,bw,bo,bx,bp,bz,bq,bA,af,aj,ai,ax,ba,rfl,rfl,cr,ct,cu,cw,bR⟩:=bW
 let B1:Res:=.blk a8 124 [.slice bn ag.Race.Starts.length bw,.slice bo ag.Race.Splits.length bx,.slice bp ag.Race.Clocks.length bz,.slice bq ag.Race.Readings.length bA,.map (some af),.slice ax ag.edges.length ba]
 have bZ:sW w U U9 [B1,.obj af (.map aj ai),.row ax ba 130 7 (hD wAQ ag.edges),.blk b2 28 B0] az:=bX
 refine oM Z Z (oR Z (zT Z Z (v:=.pointer (some ⟨a8,0,none⟩)) Z) (oR Z (zT Z Z (v:=jV x6) Z) (oA Z Z (oA Z Z (eN (zM (sR fL2 Z (oM Z Z (oR Z (Ze Z Z Z) (eN (ifc au ?_ ?_)))))))))))
 intro bC dl
 refine ZE (ZD (fun h=>h bC.out)) (kN (sR (.fl 0 (.fx 1 (wLf gFc) .stop)) Z (oM Z Z ?_)))
 have q:=bZ.freezeR (k:=2) (n:=ag.edges.length) rfl (wAD (f:=wAQ) (sz:=7) (fun _=>rfl) ag.edges) (by decide)
 obtain ⟨bL,bb,cc,cU⟩:=q
 have cV:sW w U bL [B1,.obj af (.map aj ai),.blk b2 28 B0] az:=cU
 have bS:=cr.le bb
 have bT:=ct.le bb
 have bU:=cu.le bb
 have bV:=cw.le bb
 have q:=bnd dl
 obtain ⟨⟨ah,dt,du⟩,cx,cb⟩:=q
 try dsimp only at cb
 refine zF 2 Z Z Z Z (zD Z Z Try.call57 (zB Z (zB Z (zB Z zJ))) Z) cV (fun hs=>wBP ag a8 bn bw bo bx bp bz bq bA af aj ai ax ba (-1) false az bL hs bS bT bU bV bR cc cx) (.inl Z) ?_
 rintro bs dx dD cm av cW ⟨an,aq,br,bD,rfl,rfl⟩
 let B2:Res:=.row br bD 3 1 (hD KL.encI ah.by_)
 let B3:Res:=.row an aq 3 1 (hD KL.encI ah.far)
 have cX:sW w U bs [B3,B2,B1,.obj af (.map aj ai),.blk b2 28 B0] cm:=cW
 refine oM Z Z (oR Z (zT Z Z (v:=.agg #[.slice an ah.far.length aq,.slice br ah.by_.length bD]) Z) (oR Z (zT Z Z (v:=jV dt) Z) (oR Z (zT Z Z (v:=.bool du) Z) (zQ (cs:=[.slice none 0 0,.slice none 0 0]) Z Z Z Z Z Zm Z cX ?_))))
 intro dy a9 cY
 let B4:List Value:=[.slice an ah.far.length aq,.slice br ah.by_.length bD]
 refine zU (j:=0) (vs:=B4) Z Z Z Z cY Z Z Z Z yH (zA Z) Z Z Z ?_
 intro a7 cZ
 have bF:sW w U bs [.blk a9 118 B4,B3,B2,B1,.obj af (.map aj ai),.blk b2 28 B0] a7:=cZ
 refine oA Z Z (oA Z Z (eN (zM (sR fL2 Z (oM Z Z (oR Z (Zg Z Z) (eN (ifc cb ?_ ?_))))))))
 intro bE dm
 refine ZE (nC bE.out) (kN (sR (wDF (.fx 3 (wLh (.nil)) .stop)) Z (oM Z Z (oR Z (zE Z Z Za Z ZB) (oL Z (bF.ldB (j:=0) Z Z Z ZK (v:=.slice an ah.far.length aq) Z) ?_)))))
 have q:=bF.freezeR (k:=1) (n:=ah.far.length) rfl (wAD (f:=KL.encI) (sz:=1) (fun _=>rfl) ah.far) (by decide)
 obtain ⟨bt,aw,dp,c6⟩:=q
 have da:sW w U bt [.blk a9 118 B4,B2,B1,.obj af (.map aj ai),.blk b2 28 B0] a7:=c6
 have cz:=bS.le av
 have cA:=cz.le aw
 have cB:=bT.le av
 have cC:=cB.le aw
 have cD:=bU.le av
 have cE:=cD.le aw
 have cG:=bV.le av
 have cH:=cG.le aw
 have cI:=cc.le av
 have cn:=cI.le aw
 have q:=bnd dm
 obtain ⟨⟨dq,cd⟩,co,ca⟩:=q
 try dsimp only at ca
 have cJ:sW w U bt [B1,.obj af (.map aj ai),.blk a9 118 B4,B2,.blk b2 28 B0] a7:=da.pick [2,3,0,1,4] _ (by decide) rfl
 refine zF 2 Z Z Z Z (zD Z Z Try.call58 (zB Z (zB Z zJ)) Z) cJ (fun hs=>wFi ag a8 bn bw bo bx bp bz bq bA af aj ai ax ba ah.far an aq a7 bt hs cA cC cE cH bR cn dp co) (.inl Z) ?_
 rintro bJ dw dB ci dz cK ⟨bk,bu,bO,bm,bv,rfl,rfl,cp⟩
 have cL:sW w U bJ [.row bk bu 23 1 bO,.row bm bv 3 1 (hD KL.encI cd),B1,.obj af (.map aj ai),.blk a9 118 B4,B2,.blk b2 28 B0] ci:=cK
 refine oM Z Z (oR Z (zT Z Z (v:=.slice bk dq.length bu) Z) (oR Z (zT Z Z (v:=.slice bm cd.length bv) Z) (oA Z Z (oA Z Z (eN (sR fL5 Z (oM Z Z (oM Z Z (oA Z Z (oA Z Z (oA Z Z (eN (zR ?_)))))))))))))
 cases ca
 exact ⟨rfl,_,(res3 rfl rfl rfl),bJ,_,(cL.pick [0,1] _ (by decide) rfl),bk,bu,bO,bm,bv,rfl,rfl,cp⟩
 intro bE dg
 refine ZI (nF (bE.out)) (sR fL3 Z (oA Z Z (oA Z Z (oA Z Z (eN (zR (zW ?_)))))))
 have cM:=bF.nilrow 23 1
 have cN:=cM.nilrow 3 1
 cases dg
 exact ⟨rfl,_,(res3 rfl rfl rfl),bs,_,(cN.pick [1,0] _ (by decide) rfl),none,0,[],none,0,rfl,rfl,RlL.nil⟩
 intro bC dh
 refine cT Z bC (sR fL4 Z (oM Z Z (oA Z Z (oA Z Z (oA Z Z (eN (zR (zW ?_))))))))
 have cO:=bZ.nilrow 23 1
 have cP:=cO.nilrow 3 1
 cases dh
 exact ⟨rfl,_,(res3 rfl rfl rfl),U9,_,(cP.pick [1,0] _ (by decide) rfl),none,0,[],none,0,rfl,rfl,RlL.nil⟩
end Go.Proofs.Ytlnfbjphfoipaaa
namespace Go.Proofs.Ytlnfbjphfoipaaa
open Go.KL
set_option maxHeartbeats 4000000
theorem wGY (p0:wAE) (aj:Option Addr) (ao:Nat) (ak:Option Addr) (ap:Nat) (am:Option Addr) (aq:Nat) (an:Option Addr) (au:Nat) (p1:List wAK) (bq:Option Addr) (br:Nat) (w:World) (U:PHeap) (hS:St0 w U []) (cz:Sl U 1 aj ao p0.Starts.length (hD KL.encI p0.Starts)) (cA:Sl U 2 ak ap p0.Splits.length (hD wAC p0.Splits)) (cB:Sl U 3 am aq p0.Clocks.length (hD wAA p0.Clocks)) (cC:Sl U 4 an au p0.Readings.length (hD wAB p0.Readings)) (fH:Sl U 4 bq br p1.length (hD wBX p1)) {r:Int × Int} (hm:wDz p0 p1=some r):Gv Try.prog 34 [.agg #[.slice aj p0.Starts.length ao,.slice ak p0.Splits.length ap,.slice am p0.Clocks.length aq,.slice an p0.Readings.length au],.slice bq p1.length br] w (wBw w [] U (fun U_ L_ v=>v=.tuple #[jV r.1,jV r.2]/\L_=[])):=by
 unfold wDz at hm
 refine Gv.of Try.func34 Z Try.ntmps34 Try.results34 Z (sR gEw Z ?_)
 let B0:List Value:=[.slice aj p0.Starts.length ao,.slice ak p0.Splits.length ap,.slice am p0.Clocks.length aq,.slice an p0.Readings.length au]
 refine zy (cs:=B0) rfl rfl rfl rfl rfl rfl (by rfl) hS ?_
 intro W1 b2 cy
 refine oA Z Z (oA Z Z (eN (zM (sR gEn Z (oL Z (cy.ldBA (j:=0) Z Z Z zf zY (vs:=B0) Z Z) (bnK hm fun x5 h6 fY=>zF 0 Z Z Z Z (zD Z Z Try.call68 (zB Z zJ) Z) cy (fun hs=>wDq p0 aj ao ak ap am aq an au W1 U hs cz cA cB cC h6) (.inr Z) ?_))))))
 rintro U8 L9 gE cm bo eu ⟨rfl,rfl⟩
 have bW:sW w U U8 [.blk b2 28 B0] cm:=eu
 refine oA Z Z (eN (sR fL2 Z (oM Z Z (oR Z (Ze Z Z Z) (eN (ifc fY ?_ ?_))))))
 intro bR fI
 refine ZE (ZD (fun h=>h bR.out)) (kN (zM (sR gFa Z (oL Z (bW.ldBA (j:=0) Z Z Z zf zY (vs:=B0) Z Z) (oM Z Z ?_)))))
 have ba:=cz.le bo
 have bb:=cA.le bo
 have bc:=cB.le bo
 have bd:=cC.le bo
 have bV:=fH.le bo
 refine bnK fI fun gN dC fJ=>zF 0 Z Z Z Z (zD Z Z Try.call69 (zB Z (zB Z zJ)) Z) bW (fun hs=>wDk p0 aj ao ak ap am aq an au p1 bq br cm U8 hs ba bb bc bd bV dC) (.inr Z) ?_
 rintro av gi gK bL ae fG ⟨rfl,rfl⟩
 have bY:sW w U av [.blk b2 28 B0] bL:=fG
 refine oA Z Z (eN (sR fL2 Z (oM Z Z (oR Z (Ze Z Z Z) (eN (ifc fJ ?_ ?_))))))
 intro bT fT
 refine ZE (ZD (fun h=>h bT.out)) (kN (zM (sR fL3 Z (oM Z Z (oR Z (zx Z Z yQ) (oR Z (yO Z Z Z) (eN (ifc fT ?_ ?_))))))))
 intro bU fU
 refine cT Z bU (sR fL2 Z (oA Z Z (oA Z Z (eN (zR (zW ?_))))))
 cases fU
 exact ⟨rfl,_,(wDf rfl rfl),av,_,(bY.pick [] _ (by decide) rfl),rfl,rfl⟩
 intro bU fV
 refine cF Z bU (kN ?_)
 have q:=bnd fV
 obtain ⟨⟨bZ,ca⟩,f4,cE⟩:=q
 try dsimp only at cE
 let B1:List Value:=[jV bZ,jV ca]
 refine yS (fun σ_ w_=>∃ (U_:PHeap) (bm:Nat),σ_ 1=.slice bq p1.length br/\σ_ 2=.pointer (some ⟨b2,0,none⟩)/\σ_ 8=.pointer (some ⟨bm,0,none⟩)/\PHeap.Le av U_/\sW w U U_ [.blk b2 28 B0,.blk bm 104 B1] w_) ?_ ?_
 refine bnK f4 fun ax ct fZ=>?_
 have q:=bnd fZ
 obtain ⟨⟨ah,ai,bt⟩,bn,be⟩:=q
 try dsimp only at be
 refine zt zu [1,3,3,1,2,3,3,3,3,2,2,0,0,3] (wDo (.fx 4 (wGd (.fx 9 gFd (.fx 10 gFe .stop))) (.fx 9 (.fx 4 (wGd gFd) (.fx 10 (.fx 4 (wGd gEy) (.stop)) (.stop))) (.fx 10 (.fx 4 (wGd gFe) (.fx 9 (.fx 4 (wGd gEy) (.stop)) (.stop))) (.stop))))) (by kernel_rfl) ?_
 have bj:=bY.drew
 generalize hw_W85:({ bL with drawn:=bL.drawn + 1 }:World)=di at bj ⊢
 refine oL Z (bj.ldBA (j:=0) Z Z Z zf zY (vs:=B0) Z Z) (oM Z Z ?_)
 have dV:=bV.le ae
 have q:=dV.el (fun _=>rfl) (wAb ct)
 obtain ⟨gA,gD,d7,d9⟩:=q
 refine oR Z (Zk Z Z d7 Z yQ Zh (wCl ct)) (oL Z (bj.ldCA (f:=0) d9 Z Z Zz Zh (us:=[jV ax.Kind,jV ax.Skier,jV ax.Index,.bool ax.Up]) Z Z) (zm ?_ ?_))
 have dW:=ba.le ae
 have dX:=bb.le ae
 have dY:=bc.le ae
 have dZ:=bd.le ae
 refine zF 0 Z Z Z Z (zD Z Z Try.call70 (zB Z (zB Z zJ)) Z) bj (fun hs=>wBW p0 aj ao ak ap am aq an au ax di av hs dW dX dY dZ bn) (.inr Z) ?_
 rintro a8 gp gF cJ cG ef ⟨rfl,rfl⟩
 have cu:sW w U a8 [.blk b2 28 B0] cJ:=ef
 refine oM Z Z (oR Z (zT Z Z (v:=.agg #[jV ah.skier,jV ah.mat]) Z) (oR Z (zT Z Z (v:=.agg #[jV ai.skier,jV ai.mat]) Z) (oR Z (zT Z Z (v:=jV bt) Z) (zm ?_ ?_))))
 let B2:List Value:=[jV 0,jV 0]
 refine zQ (cs:=B2) Z Z Z Z Z zb Z cu ?_
 intro gq bM eg
 refine zQ (cs:=B2) Z Z Z Z Z zb Z eg ?_
 intro gu cn eh
 let B3:List Value:=[jV ah.skier,jV ah.mat]
 refine zU (j:=1) (vs:=B3) Z Z Z Z eh Z Z Z Z zH (zA Z) Z Z Z ?_
 intro cK ej
 have ek:sW w U a8 [.blk cn 104 B2,.blk bM 104 B3,.blk b2 28 B0] cK:=ej
 let B4:List Value:=[jV ai.skier,jV ai.mat]
 refine zU (j:=0) (vs:=B4) Z Z Z Z ek Z Z Z Z zH (zA Z) Z Z Z ?_
 intro cL en
 have eo:sW w U a8 [.blk cn 104 B4,.blk bM 104 B3,.blk b2 28 B0] cL:=en
 refine oA Z Z (zh ?_)
 cases be
 exact zL ⟨rfl,⟨a8,bM,rfl,rfl,rfl,cG,(eo.pick [2,1] _ (by decide) rfl)⟩⟩
 let B5:List Value:=[jV 0,jV 0]
 refine zQ (cs:=B5) Z Z Z Z Z zb Z cu ?_
 intro gv co ep
 refine zQ (cs:=B5) Z Z Z Z Z zb Z ep ?_
 intro gw bN er
 let B6:List Value:=[jV ah.skier,jV ah.mat]
 refine zU (j:=0) (vs:=B6) Z Z Z Z er Z Z Z Z zH (zA Z) Z Z Z ?_
 intro cM ew
 have ey:sW w U a8 [.blk bN 104 B6,.blk co 104 B5,.blk b2 28 B0] cM:=ew
 let B7:List Value:=[jV ai.skier,jV ai.mat]
 refine zU (j:=1) (vs:=B7) Z Z Z Z ey Z Z Z Z zH (zA Z) Z Z Z ?_
 intro cN eA
 have eD:sW w U a8 [.blk bN 104 B6,.blk co 104 B7,.blk b2 28 B0] cN:=eA
 refine oA Z Z (zh ?_)
 cases be
 exact zL ⟨rfl,⟨a8,bN,rfl,rfl,rfl,cG,(eD.pick [2,0] _ (by decide) rfl)⟩⟩
 refine zm ?_ ?_
 let B8:List Value:=[jV 0,jV 0]
 refine zQ (cs:=B8) Z Z Z Z Z zb Z bj ?_
 intro cO a7 cw
 refine zm ?_ ?_
 have dp:=ba.le ae
 have dq:=bb.le ae
 have dr:=bc.le ae
 have dt:=bd.le ae
 refine zF 0 Z Z Z Z (zD Z Z Try.call70 (zB Z (zB Z zJ)) Z) cw (fun hs=>wBW p0 aj ao ak ap am aq an au ax cO av hs dp dq dr dt bn) (.inr Z) ?_
 rintro bu ge gG cP f5 eE ⟨rfl,rfl⟩
 have eF:sW w U bu [.blk a7 104 B8,.blk b2 28 B0] cP:=eE
 refine oM Z Z (oR Z (zT Z Z (v:=.agg #[jV ah.skier,jV ah.mat]) Z) (oR Z (zT Z Z (v:=.agg #[jV ai.skier,jV ai.mat]) Z) (oR Z (zT Z Z (v:=jV bt) Z) (zQ (cs:=B8) Z Z Z Z Z zb Z eF ?_))))
 intro gx cp eG
 let B9:List Value:=[jV ah.skier,jV ah.mat]
 refine zU (j:=1) (vs:=B9) Z Z Z Z eG Z Z Z Z zH (zA Z) Z Z Z ?_
 intro cQ eH
 have eI:sW w U bu [.blk cp 104 B8,.blk a7 104 B9,.blk b2 28 B0] cQ:=eH
 let cb:List Value:=[jV ai.skier,jV ai.mat]
 refine zU (j:=0) (vs:=cb) Z Z Z Z eI Z Z Z Z zH (zA Z) Z Z Z ?_
 intro cR eJ
 have eO:sW w U bu [.blk cp 104 cb,.blk a7 104 B9,.blk b2 28 B0] cR:=eJ
 refine oA Z Z (zh ?_)
 cases be
 exact zL ⟨rfl,⟨bu,a7,rfl,rfl,rfl,f5,(eO.pick [2,1] _ (by decide) rfl)⟩⟩
 refine zQ (cs:=B8) Z Z Z Z Z zb Z cw ?_
 intro cS bO eU
 have du:=ba.le ae
 have dv:=bb.le ae
 have dw:=bc.le ae
 have dx:=bd.le ae
 refine zF 0 Z Z Z Z (zD Z Z Try.call70 (zB Z (zB Z zJ)) Z) eU (fun hs=>wBW p0 aj ao ak ap am aq an au ax cS av hs du dv dw dx bn) (.inr Z) ?_
 rintro bv gf gH cU f7 eV ⟨rfl,rfl⟩
 have eX:sW w U bv [.blk bO 104 B8,.blk a7 104 B8,.blk b2 28 B0] cU:=eV
 refine oM Z Z (oR Z (zT Z Z (v:=.agg #[jV ah.skier,jV ah.mat]) Z) (oR Z (zT Z Z (v:=.agg #[jV ai.skier,jV ai.mat]) Z) (oR Z (zT Z Z (v:=jV bt) Z) ?_)))
 let bA:List Value:=[jV ah.skier,jV ah.mat]
 refine zU (j:=1) (vs:=bA) Z Z Z Z eX Z Z Z Z zH (zA Z) Z Z Z ?_
 intro cV eY
 have eZ:sW w U bv [.blk bO 104 B8,.blk a7 104 bA,.blk b2 28 B0] cV:=eY
 let cc:List Value:=[jV ai.skier,jV ai.mat]
 refine zU (j:=0) (vs:=cc) Z Z Z Z eZ Z Z Z Z zH (zA Z) Z Z Z ?_
 intro cW e0
 have fb:sW w U bv [.blk bO 104 cc,.blk a7 104 bA,.blk b2 28 B0] cW:=e0
 refine oA Z Z (zh ?_)
 cases be
 exact zL ⟨rfl,⟨bv,a7,rfl,rfl,rfl,f7,(fb.pick [2,1] _ (by decide) rfl)⟩⟩
 let ay:List Value:=[jV 0,jV 0]
 refine zQ (cs:=ay) Z Z Z Z Z zb Z bj ?_
 intro cX bh cx
 refine zm ?_ ?_
 have dy:=ba.le ae
 have dz:=bb.le ae
 have dA:=bc.le ae
 have dB:=bd.le ae
 refine zF 0 Z Z Z Z (zD Z Z Try.call70 (zB Z (zB Z zJ)) Z) cx (fun hs=>wBW p0 aj ao ak ap am aq an au ax cX av hs dy dz dA dB bn) (.inr Z) ?_
 rintro bw gg gI cY f8 fc ⟨rfl,rfl⟩
 have fd:sW w U bw [.blk bh 104 ay,.blk b2 28 B0] cY:=fc
 refine oM Z Z (oR Z (zT Z Z (v:=.agg #[jV ah.skier,jV ah.mat]) Z) (oR Z (zT Z Z (v:=.agg #[jV ai.skier,jV ai.mat]) Z) (oR Z (zT Z Z (v:=jV bt) Z) (zQ (cs:=ay) Z Z Z Z Z zb Z fd ?_))))
 intro gy bQ ff
 let bB:List Value:=[jV ah.skier,jV ah.mat]
 refine zU (j:=0) (vs:=bB) Z Z Z Z ff Z Z Z Z zH (zA Z) Z Z Z ?_
 intro cZ fg
 have fh:sW w U bw [.blk bQ 104 bB,.blk bh 104 ay,.blk b2 28 B0] cZ:=fg
 let cd:List Value:=[jV ai.skier,jV ai.mat]
 refine zU (j:=1) (vs:=cd) Z Z Z Z fh Z Z Z Z zH (zA Z) Z Z Z ?_
 intro c6 fj
 have fk:sW w U bw [.blk bQ 104 bB,.blk bh 104 cd,.blk b2 28 B0] c6:=fj
 refine oA Z Z (zh ?_)
 cases be
 exact zL ⟨rfl,⟨bw,bQ,rfl,rfl,rfl,f8,(fk.pick [2,0] _ (by decide) rfl)⟩⟩
 refine zQ (cs:=ay) Z Z Z Z Z zb Z cx ?_
 intro da bz fm
 have dD:=ba.le ae
 have dE:=bb.le ae
 have dH:=bc.le ae
 have dI:=bd.le ae
 refine zF 0 Z Z Z Z (zD Z Z Try.call70 (zB Z (zB Z zJ)) Z) fm (fun hs=>wBW p0 aj ao ak ap am aq an au ax da av hs dD dE dH dI bn) (.inr Z) ?_
 rintro bx gh gJ db f9 fq ⟨rfl,rfl⟩
 have ft:sW w U bx [.blk bz 104 ay,.blk bh 104 ay,.blk b2 28 B0] db:=fq
 refine oM Z Z (oR Z (zT Z Z (v:=.agg #[jV ah.skier,jV ah.mat]) Z) (oR Z (zT Z Z (v:=.agg #[jV ai.skier,jV ai.mat]) Z) (oR Z (zT Z Z (v:=jV bt) Z) ?_)))
 let bC:List Value:=[jV ah.skier,jV ah.mat]
 refine zU (j:=0) (vs:=bC) Z Z Z Z ft Z Z Z Z zH (zA Z) Z Z Z ?_
 intro dd fu
 have fw:sW w U bx [.blk bz 104 bC,.blk bh 104 ay,.blk b2 28 B0] dd:=fu
 let cf:List Value:=[jV ai.skier,jV ai.mat]
 refine zU (j:=1) (vs:=cf) Z Z Z Z fw Z Z Z Z zH (zA Z) Z Z Z ?_
 intro de fy
 have fz:sW w U bx [.blk bz 104 bC,.blk bh 104 cf,.blk b2 28 B0] de:=fy
 refine oA Z Z (zh ?_)
 cases be
 exact zL ⟨rfl,⟨bx,bz,rfl,rfl,rfl,f9,(fz.pick [2,0] _ (by decide) rfl)⟩⟩
 rintro gP df ⟨cH,bm,dl,dm,cr,bp,bX⟩
 refine sR (wDF (.fx 3 (fC4_7 (.fx 8 (.fx 9 (.fl 10 (.fl 11 .nil)) .stop) .stop)) .stop)) Z (oL Z (bX.ldBA (j:=0) Z Z dm zf zY (vs:=B0) Z Z) (oL Z (bX.ldBA (j:=1) Z Z cr zj zH (vs:=B1) Z Z) (oM Z dl ?_)))
 have dJ:=ba.le ae
 have dK:=dJ.le bp
 have dL:=bb.le ae
 have dM:=dL.le bp
 have dN:=bc.le ae
 have dO:=dN.le bp
 have dP:=bd.le ae
 have dQ:=dP.le bp
 have dR:=bV.le ae
 have dS:=dR.le bp
 have q:=bnd cE
 obtain ⟨⟨bs,ga,gb⟩,dT,cD⟩:=q
 try dsimp only at cD
 refine zF 0 Z Z Z Z (zD Z Z Try.call71 (zB Z (zB Z (zB Z zJ))) Z) bX (fun hs=>wCe p0 aj ao ak ap am aq an au (⟨bZ,ca⟩:wAL) p1 bq br df cH hs dK dM dO dQ dS dT) (.inr Z) ?_
 rintro bg gj gM dg gC fA ⟨rfl,rfl⟩
 have fC:sW w U bg [.blk b2 28 B0,.blk bm 104 B1] dg:=fA
 refine oM Z Z (oR Z (zT Z Z (v:=.agg #[jV bs.skier,jV bs.mat]) Z) (oR Z (zT Z Z (v:=jV ga) Z) (oR Z (zT Z Z (v:=.bool gb) Z) (zQ (cs:=[jV 0,jV 0]) Z Z Z Z Z zb Z fC ?_))))
 intro gz dk fD
 let bD:List Value:=[jV bs.skier,jV bs.mat]
 refine zU (j:=0) (vs:=bD) Z Z Z Z fD Z Z Z Z zH (zA Z) Z Z Z ?_
 intro dh fE
 have bi:sW w U bg [.blk dk 104 bD,.blk b2 28 B0,.blk bm 104 B1] dh:=fE
 refine oA Z Z (oA Z Z (eN (zM (sR wMX Z (oM Z Z (oR Z (Zg Z Z) (oM Z Z (ifc cD ?_ ?_))))))))
 intro aw fK
 refine ZF Z Z Z (zS Z Z (nC aw.out)) (bi.ldBA (j:=0) Z Z Z zj zH (vs:=bD) Z Z) Z (ZF Z Z Z (zS Z Z (nC aw.out)) (bi.ldBA (j:=2) Z Z cr zj zH (vs:=B1) Z Z) Z (zc Z Z Z (zS Z Z (nC aw.out)) (fun _=>ZH (yn (enc:=wBa) (a:=bs) (b:=(⟨bZ,ca⟩:wAL)) Z Z Z wJe wJd) (congrArg hH (decide_not).symm)) (oR Z (zg Z (nC aw.out) Z) (oM Z Z (ifc fK ?_ ?_)))))
 intro a9 fM
 refine zw Z Z Z (zS Z Z (ZD (fun h=>h a9.out))) Z Z (zc Z Z Z (zS Z Z (ZD (fun h=>h a9.out))) (fun _=>Runs.geq Z Z Z) (oR Z (zg Z (ZD (fun h=>h a9.out)) Z) (eN (ifc fM ?_ ?_))))
 intro bS fN
 refine cT Z bS (sR fL2 Z (oA Z Z (oA Z Z (eN (zR (zW ?_))))))
 cases fN
 exact ⟨rfl,_,(wDf rfl rfl),bg,_,(bi.pick [] _ (by decide) rfl),rfl,rfl⟩
 intro bS fO
 refine cF Z bS (kN (sR fL3 Z (oM Z Z (oA Z Z (oA Z Z (eN (zR ?_)))))))
 cases fO
 exact ⟨rfl,_,(wDf rfl rfl),bg,_,(bi.pick [] _ (by decide) rfl),rfl,rfl⟩
 intro a9 fP
 refine oT Z a9 (oT Z a9 (oR Z (zN Z (Zi a9.out) Z) (eN (ZI Z (sR fL2 Z (oA Z Z (oA Z Z (eN (zR (zW ?_))))))))))
 cases fP
 exact ⟨rfl,_,(wDf rfl rfl),bg,_,(bi.pick [] _ (by decide) rfl),rfl,rfl⟩
 intro aw fQ
 refine Zf Z Z Z (zV Z Z (nF (aw.out)) Z) (Zf Z Z Z (zV Z Z (nF (aw.out)) Z) (Zf Z Z Z (zV Z Z (nF (aw.out)) Z) (oR Z (zN Z (nF (aw.out)) Z) (oM Z Z (oN Z (oN Z (oR Z (zN Z Z Z) (eN (ZI Z (sR fL2 Z (oA Z Z (oA Z Z (eN (zR (zW ?_)))))))))))))))
 cases fQ
 exact ⟨rfl,_,(wDf rfl rfl),bg,_,(bi.pick [] _ (by decide) rfl),rfl,rfl⟩
 intro bT fR
 refine cT Z bT (sR fL3 Z (oM Z Z (oA Z Z (oA Z Z (eN (zR (zW ?_)))))))
 cases fR
 exact ⟨rfl,_,(wDf rfl rfl),av,_,(bY.pick [] _ (by decide) rfl),rfl,rfl⟩
 intro bR fS
 refine cT Z bR (sR fL3 Z (oM Z Z (oA Z Z (oA Z Z (eN (zR (zW ?_)))))))
 cases fS
 exact ⟨rfl,_,(wDf rfl rfl),U8,_,(bW.pick [] _ (by decide) rfl),rfl,rfl⟩
theorem wGZ (p0:Int) (p1:wAJ) (p2:Int) (ah:Nat) (w:World) (U:PHeap) (hS:St0 w U []) (ai:Cl U ah 0 [jV p2]) {r:Bool} (hm:wCq p0 p1 p2=some r):Gv Try.prog 65 [jV p0,.agg #[jV p1.Skier,jV p1.Mat,jV p1.Clock,jV p1.Time],.pointer (some ⟨ah,0,none⟩)] w (wBw w [] U (fun U_ L_ v=>v=.bool r/\L_=[])):=by
 unfold wCq at hm
 refine Gv.of Try.func65 rfl Try.ntmps65 Try.results65 rfl (sR gEf rfl (zy (cs:=[jV p1.Skier,jV p1.Mat,jV p1.Clock,jV p1.Time]) rfl rfl rfl rfl rfl rfl (by rfl) hS ?_))
 intro W1 b2 af
 refine oA Z Z (eN (sR fL4 Z (oM Z Z (oL Z (af.ldC (f:=0) ai (v:=jV p2) Z Z zG Z) (oR Z (yO Z Z Z) (oA Z Z (eN (zR ?_))))))))
 first | (obtain rfl:=nA hm) | cases hm
 exact ⟨rfl,_,(ZL rfl),U,_,(af.pick [] _ (by decide) rfl),rfl,rfl⟩
theorem wGa (p0:Int) (p1:wAJ) (p2:Int) (am:Nat) (p3:Int) (an:Nat) (w:World) (U:PHeap) (hS:St0 w U []) (ao:Cl U am 0 [jV p2]) (ap:Cl U an 0 [jV p3]) {r:Bool} (hm:wCr p0 p1 p2 p3=some r):Gv Try.prog 66 [jV p0,.agg #[jV p1.Skier,jV p1.Mat,jV p1.Clock,jV p1.Time],.pointer (some ⟨am,0,none⟩),.pointer (some ⟨an,0,none⟩)] w (wBw w [] U (fun U_ L_ v=>v=.bool r/\L_=[])):=by
 unfold wCr at hm
 refine Gv.of Try.func66 rfl Try.ntmps66 Try.results66 rfl (sR gEf rfl (zy (cs:=[jV p1.Skier,jV p1.Mat,jV p1.Clock,jV p1.Time]) rfl rfl rfl rfl rfl rfl (by rfl) hS ?_))
 intro W1 b2 af
 refine oA Z Z (eN (sR fL9 Z (oM Z Z (oL Z (af.ldC (f:=0) ao (v:=jV p2) Z Z zG Z) (oR Z (yO Z Z Z) (oM Z Z ?_))))))
 by_cases c5:p0=p2
 have ak:=hm;rw [if_pos c5] at ak;replace c5:=zO c5
 refine oT Z c5 (oT Z c5 (oT Z c5 (oR Z (zN Z (Zi c5.out) Z) (oA Z Z (eN (zR ?_))))))
 have hE:=nA ak;first | subst r | cases hE
 exact ⟨rfl,_,(ZL rfl),U,_,(af.pick [] _ (by decide) rfl),rfl,rfl⟩
 have ah:=hm;rw [if_neg c5] at ah;replace c5:=zO c5
 refine zw Z Z Z (wF Z c5) Z Z (ZF Z Z Z (wF Z c5) (af.ldC (f:=0) ap (v:=jV p3) Z Z zG Z) Z (rU Z (wF Z c5) (yO Z Z Z) (oR Z (zg Z (ZD c5.out) Z) (oA Z Z (eN (zR ?_))))))
 first | (obtain rfl:=nA ah) | cases ah
 exact ⟨rfl,_,(ZL rfl),U,_,(af.pick [] _ (by decide) rfl),rfl,rfl⟩
theorem wHb (p0:wAE) (bn:Option Addr) (bq:Nat) (bo:Option Addr) (br:Nat) (bp:Option Addr) (bs:Nat) (ap:Option Addr) (aq:Nat) (w:World) (U:PHeap) (hS:St0 w U []) (cE:Sl U 1 bn bq p0.Starts.length (hD KL.encI p0.Starts)) (cG:Sl U 2 bo br p0.Splits.length (hD wAC p0.Splits)) (cH:Sl U 3 bp bs p0.Clocks.length (hD wAA p0.Clocks)) (cI:Sl U 4 ap aq p0.Readings.length (hD wAB p0.Readings)) {r:(List Int) × Int} (hm:wEY p0=some r):Gv Try.prog 29 [.agg #[.slice bn p0.Starts.length bq,.slice bo p0.Splits.length br,.slice bp p0.Clocks.length bs,.slice ap p0.Readings.length aq]] w (wBw w [] U (fun U_ L_ v=>∃ (A0:Option Addr) (c0:Nat),v=.tuple #[.slice A0 r.1.length c0,jV r.2]/\L_=[.row A0 c0 3 1 (hD KL.encI r.1)])):=by
 unfold wEY at hm
 refine Gv.of Try.func29 Z Try.ntmps29 Try.results29 Z (sR gEw Z ?_)
 let B0:List Value:=[.slice bn p0.Starts.length bq,.slice bo p0.Splits.length br,.slice bp p0.Clocks.length bs,.slice ap p0.Readings.length aq]
 refine zy (cs:=B0) rfl rfl rfl rfl rfl rfl (by rfl) hS ?_
 intro W1 b2 dV
 refine oA Z Z (oA Z Z (eN (CK.scope (sR (.fl 0 (.fx 1 (wHH (.nil)) .stop)) Z (oL Z (dV.ldBA (j:=0) Z Z Z zf zY (vs:=B0) Z Z) ?_)))))
 have q:=bnd hm
 obtain ⟨⟨x5,x6⟩,h7,bz⟩:=q
 try dsimp only at bz
 refine zF 0 Z Z Z Z (zD Z Z Try.call60 (zB Z zJ) Z) dV (fun hs=>wDr p0 bn bq bo br bp bs ap aq W1 U hs cE cG cH cI h7) (.inr Z) ?_
 rintro U9 j2 lh bO a7 dS dR
 rcases x5 with _ | av
 try dsimp only at bz
 obtain ⟨rfl,rfl⟩:=dR
 have i2:sW w U U9 [.blk b2 28 B0] bO:=dS
 refine oM Z Z (oR Z (zT Z Z (v:=.pointer none) Z) (oR Z (zT Z Z (v:=jV x6) Z) (oA Z Z (oA Z Z (eN (zM (zd (sR fL3 Z (oM Z Z (oR Z (Ze Z Z Z) (oA Z Z (eN (ifc bz ?_ ?_)))))))))))))
 intro cp jE
 refine ZE (ZD (fun h=>h cp.out)) (sR gEn Z (oM Z Z ?_))
 cases jE
 intro cp jG
 refine cT Z cp (sR fL3 Z (oM Z Z (oA Z Z (oA Z Z (eN (zR (zq (zW (wEf ?_)))))))))
 have i7:=i2.nilrow 3 1
 cases jG
 exact ⟨rfl,_,(wDf rfl rfl),U9,_,(i7.pick [0] _ (by decide) rfl),none,0,rfl,rfl⟩
 try dsimp only at bz
 obtain ⟨cf,cV,dx,cW,dy,cX,dz,cY,dB,ag,ai,ah,bX,co,rfl,rfl,it,iu,iv,iw,iy⟩:=dR
 let B1:Res:=.blk cf 124 [.slice cV av.Race.Starts.length dx,.slice cW av.Race.Splits.length dy,.slice cX av.Race.Clocks.length dz,.slice cY av.Race.Readings.length dB,.map (some ag),.slice bX av.edges.length co]
 have dX:sW w U U9 [B1,.obj ag (.map ai ah),.row bX co 130 7 (hD wAQ av.edges),.blk b2 28 B0] bO:=dS
 refine oM Z Z (oR Z (zT Z Z (v:=.pointer (some ⟨cf,0,none⟩)) Z) (oR Z (zT Z Z (v:=jV x6) Z) (oA Z Z (oA Z Z (eN (zM (zd (sR fL3 Z (oM Z Z (oR Z (Ze Z Z Z) (oA Z Z (eN (ifc bz ?_ ?_)))))))))))))
 intro cu jP
 refine ZE (ZD (fun h=>h cu.out)) (sR gEn Z (oM Z Z ?_))
 have q:=dX.freezeR (k:=2) (n:=av.edges.length) rfl (wAD (f:=wAQ) (sz:=7) (fun _=>rfl) av.edges) (by decide)
 obtain ⟨dh,ao,jW,ji⟩:=q
 have jj:sW w U dh [B1,.obj ag (.map ai ah),.blk b2 28 B0] bO:=ji
 have iz:=it.le ao
 have iA:=iu.le ao
 have iB:=iv.le ao
 have iC:=iw.le ao
 refine bnK jP fun ls iD jQ=>zF 2 Z Z Z Z (zD Z Z Try.call63 (zB Z zJ) Z) jj (fun hs=>wBk av cf cV dx cW dy cX dz cY dB ag ai ah bX co bO dh hs iz iA iB iC iy jW iD) (.inl Z) ?_
 rintro bM j7 ln eU a9 jk ⟨rfl,rfl⟩
 have cB:sW w U bM [B1,.obj ag (.map ai ah),.blk b2 28 B0] eU:=jk
 refine oA Z Z (eN (ifc jQ ?_ ?_))
 intro cw jR
 refine ZI (congrArg hH cw.out) (sR fL2 Z (oA Z Z (oA Z Z (eN (zR (zq (zW (wEf ?_))))))))
 have jl:=cB.nilrow 3 1
 cases jR
 exact ⟨rfl,_,(wDf rfl rfl),bM,_,(jl.pick [0] _ (by decide) rfl),none,0,rfl,rfl⟩
 intro cw cN
 refine ZE (congrArg hH (hJ.2 cw.out)) (Zo (ZA (zL (sR fL1 Z (oA Z Z (eN (zM (sR fL4 Z (oR Z (zE Z Z zI Z ZO) (oL Z (cB.ldB (j:=2) Z Z Z Zs (v:=.slice ap p0.Readings.length aq) Z) (oR Z (zx Z Z ZN) (oM Z Z (eN (zd ?_))))))))))))))
 have q:=wBy cN
 obtain ⟨lg,cD⟩:=q
 have q:=wBx cD
 obtain ⟨cM,jw⟩:=q
 replace cM:=zO cM
 refine yX (fun an _ σ_ w_=>∃ (U_:PHeap),σ_ 25=jV (↑an:Int)/\σ_ 1=.pointer (some ⟨b2,0,none⟩)/\σ_ 6=.slice none 0 0/\σ_ 24=jV (↑p0.Readings.length:Int)/\PHeap.Le bM U_/\sW w U U_ [B1,.obj ag (.map ai ah),.blk b2 28 B0] w_) jw ?_ ?_ ?_
 exact ⟨bM,Z,Z,Z,Z,(zP _),cB⟩
 rintro an ⟨⟩ lw lB k8 cK ⟨eA,cz,dO,fk,dP,bD,jm⟩ ek ju
 try dsimp only at ek
 have dI:Hid ((↑an:Int) < (↑p0.Readings.length:Int)):=zO (wAs cK)
 replace cK:=zO cK
 have jx:Hid (w64 ((↑an:Int) + 1)=(↑(an + 1):Int)):=zO (by have h1:=cM.out;have h2:=dI.out;rw [wAU] <;> omega)
 refine sR fL1 Z (oR Z (ze Z cz dP) (eN (zM (cT Z dI (kN (zM (zd (sR gEq Z (oM Z cz (zQ (cs:=[jV 0]) Z Z Z Z Z zz Z jm ?_))))))))))
 intro k9 bh jo
 let B2:List Value:=[jV (↑an:Int)]
 refine zU (j:=0) (vs:=B2) Z Z Z Z jo Z Z Z Z zC (zA Z) Z Z Z ?_
 intro cd jp
 have dY:sW w U eA [.blk bh 3 B2,B1,.obj ag (.map ai ah),.blk b2 28 B0] cd:=jp
 refine eN (sR gFb Z (oL Z (dY.ldBA (j:=3) Z Z dO zf zY (vs:=B0) Z Z) ?_))
 have q:=dY.freeze (k:=0) rfl
 obtain ⟨bH,bA,bi,iH⟩:=q
 replace bi:=Cl.of bi
 have iI:sW w U bH [B1,.obj ag (.map ai ah),.blk b2 28 B0] cd:=iH
 replace bi:Cl bH bh 0 B2:=bi
 refine oR Z (Runs.mkf Z zJ (zB Z zJ)) ?_
 have ft:=cE.le a7
 have fu:=ft.le ao
 have fw:=fu.le a9
 have fy:=fw.le bD
 have fz:=fy.le bA
 have fA:=cG.le a7
 have fC:=fA.le ao
 have fD:=fC.le a9
 have fE:=fD.le bD
 have fG:=fE.le bA
 have fH:=cH.le a7
 have fI:=fH.le ao
 have fJ:=fI.le a9
 have fK:=fJ.le bD
 have fM:=fK.le bA
 have fN:=cI.le a7
 have fO:=fN.le ao
 have fP:=fO.le a9
 have fQ:=fP.le bD
 have fR:=fQ.le bA
 have iF:FnOK Try.prog bH (.func (.func 65) #[] #[.pointer (some ⟨bh,0,none⟩)]) wIz wJA (fun x=>wCq x.1 x.2 (↑an:Int)):=⟨65,[],[.pointer (some ⟨bh,0,none⟩)],rfl,Try.call65,fun U1 w1 x y vs le hs ha hm=>by obtain rfl:=ha;exact wGZ x.1 x.2 (↑an:Int) bh w1 U1 hs (bi.le le) hm⟩
 refine bnK ek fun au fS jy=>zF 0 Z Z Z Z (zD Z Z Try.call64 (zB Z (zB Z zJ)) Z) iI (fun hs=>wBp p0 bn bq bo br bp bs ap aq (fun x=>wCq x.1 x.2 (↑an:Int)) (.func (.func 65) #[] #[.pointer (some ⟨bh,0,none⟩)]) cd bH hs fz fG fM fR iF fS) (.inr Z) ?_
 rintro er j3 lj cb en iJ ⟨dl,cQ,dt,cR,du,cS,dv,cU,dw,bm,bu,bt,bW,cm,rfl,rfl,fT,fU,fV,fY,fZ⟩
 let B3:Res:=.blk dl 124 [.slice cQ au.Race.Starts.length dt,.slice cR au.Race.Splits.length du,.slice cS au.Race.Clocks.length dv,.slice cU au.Race.Readings.length dw,.map (some bm),.slice bW au.edges.length cm]
 have iK:sW w U er [B3,.obj bm (.map bu bt),.row bW cm 130 7 (hD wAQ au.edges),B1,.obj ag (.map ai ah),.blk b2 28 B0] cb:=iJ
 have q:=iK.freezeR (k:=2) (n:=au.edges.length) rfl (wAD (f:=wAQ) (sz:=7) (fun _=>rfl) au.edges) (by decide)
 obtain ⟨dd,bj,jS,iL⟩:=q
 have iM:sW w U dd [B3,.obj bm (.map bu bt),B1,.obj ag (.map ai ah),.blk b2 28 B0] cb:=iL
 have f4:=fT.le bj
 have f5:=fU.le bj
 have f7:=fV.le bj
 have f8:=fY.le bj
 refine bnK jy fun lp f9 jz=>zF 2 Z Z Z Z (zD Z Z Try.call63 (zB Z zJ) Z) iM (fun hs=>wBk au dl cQ dt cR du cS dv cU dw bm bu bt bW cm cb dd hs f4 f5 f7 f8 fZ jS f9) (.inl Z) ?_
 rintro bI j4 lk eE eo iN ⟨rfl,rfl⟩
 have cA:sW w U bI [B3,.obj bm (.map bu bt),B1,.obj ag (.map ai ah),.blk b2 28 B0] eE:=iN
 refine eN (ifc jz ?_ ?_)
 intro cn jA
 refine ZI (congrArg hH cn.out) (sR (.fl 0 gEo) Z ?_)
 have ga:=bi.le en
 have gb:=ga.le bj
 have ge:=gb.le eo
 refine oL Z (cA.ldC (f:=0) ge (v:=jV (↑an:Int)) Z Z zG Z) (zr (pv:=[(0,jV (↑an:Int))]) (zs:=[jV 0]) (cs:=B2) Z Z Z Z Z (wAH Z wAO) zK zC zz Z Z Z Z Z cA ?_)
 intro eF dm iO
 have iP:sW w U bI [.row (some ⟨dm,0,none⟩) 1 3 1 (hD KL.encI [(↑an:Int)]),B3,.obj bm (.map bu bt),B1,.obj ag (.map ai ah),.blk b2 28 B0] eF:=iO
 refine oA Z Z (oA Z Z (eN (zR (zq (zW ?_)))))
 have q:=wAY jA
 obtain ⟨jX,jB,eY⟩:=q
 have q:=wBY cN cD (ju jX eY)
 obtain rfl:=q
 refine zW (zq (zW (wEf ?_)))
 cases jB
 exact ⟨rfl,_,(wDf rfl rfl),bI,_,(iP.pick [0] _ (by decide) rfl),(some ⟨dm,0,none⟩),1,rfl,rfl⟩
 intro cn jC
 refine ZE (congrArg hH (hJ.2 cn.out)) (Zo (ZA (zL (rR fL2 Z (oR Z (ZH (za Z cz Z) (congrArg (jV) jx.out)) (oM Z Z (zh ?_)))))))
 have q:=nA jC
 obtain rfl:=q
 exact zL ⟨rfl,_,rfl,⟨bI,rfl,dO,fk,dP,((((bD.trans bA).trans en).trans bj).trans eo),(cA.pick [2,3,4] _ (by decide) rfl)⟩⟩
 rintro ⟨⟩ lx j8 ⟨de,fm,dJ,fc,fd,bT,dT⟩ jq
 have bS:=wCm cN cD jq
 try dsimp only at bS
 have eV:Hid (¬ ((↑(((↑p0.Readings.length:Int):Int) - 0).toNat:Int) < (↑p0.Readings.length:Int))):=zO (wAc)
 refine sR fL1 Z (oR Z (ze Z fm fd) (eN (zM (cF Z eV (Zb (zo (zo (ZV (zL (zM (CK.label (zL (zM (sR fL4 Z (oR Z (zE Z dJ zI Z ZO) (oL Z (dT.ldB (j:=2) Z Z Z Zs (v:=.slice ap p0.Readings.length aq) Z) (oR Z (zx Z Z ZN) (oM Z Z (eN (zd ?_))))))))))))))))))))
 have q:=wBy bS
 obtain ⟨lf,cC⟩:=q
 have q:=wBx cC
 obtain ⟨cL,jv⟩:=q
 replace cL:=zO cL
 refine yX (fun am _ σ_ w_=>∃ (U_:PHeap),σ_ 38=jV (↑am:Int)/\σ_ 1=.pointer (some ⟨b2,0,none⟩)/\σ_ 6=.slice none 0 0/\σ_ 37=jV (↑p0.Readings.length:Int)/\PHeap.Le de U_/\sW w U U_ [B1,.obj ag (.map ai ah),.blk b2 28 B0] w_) jv ?_ ?_ ?_
 exact ⟨de,Z,dJ,fc,Z,(zP _),dT⟩
 rintro am ⟨⟩ lu ly j9 cJ ⟨df,cy,ff,fg,dK,bB,iQ⟩ eh jr
 try dsimp only at eh
 have dA:Hid ((↑am:Int) < (↑p0.Readings.length:Int)):=zO (wAs cJ)
 replace cJ:=zO cJ
 have d7:Hid (w64 ((↑am:Int) + 1)=(↑(am + 1):Int)):=zO (by have h1:=cL.out;have h2:=dA.out;rw [wAU] <;> omega)
 refine sR fL1 Z (oR Z (ze Z cy dK) (eN (zM (cT Z dA (kN (zM (zd (sR gEq Z (oM Z cy (zQ (cs:=[jV 0]) Z Z Z Z Z zz Z iQ ?_))))))))))
 intro k3 ax iR
 let B4:List Value:=[jV (↑am:Int)]
 refine zU (j:=0) (vs:=B4) Z Z Z Z iR Z Z Z Z zC (zA Z) Z Z Z ?_
 intro eG iS
 have dU:sW w U df [.blk ax 3 B4,B1,.obj ag (.map ai ah),.blk b2 28 B0] eG:=iS
 refine eN (sR gFb Z (oL Z (dU.ldB (j:=0) Z Z Z zG (v:=jV (↑am:Int)) Z) (oR Z (ZH (za Z Z Z) (congrArg (jV) d7.out)) (zQ (cs:=[jV 0]) Z Z Z Z Z zz Z dU ?_))))
 intro k5 cg iT
 let B5:List Value:=[jV (↑(am + 1):Int)]
 refine zU (j:=0) (vs:=B5) Z Z Z Z iT Z Z Z Z zC (zA Z) Z Z Z ?_
 intro di iU
 have iV:sW w U df [.blk cg 3 B5,.blk ax 3 B4,B1,.obj ag (.map ai ah),.blk b2 28 B0] di:=iU
 refine eN (zd ?_)
 have q:=iV.freeze (k:=1) rfl
 obtain ⟨bJ,bC,bv,iW⟩:=q
 replace bv:=Cl.of bv
 have iX:sW w U bJ [.blk cg 3 B5,B1,.obj ag (.map ai ah),.blk b2 28 B0] di:=iW
 replace bv:Cl bJ ax 0 B4:=bv
 refine CK.iter (fun ak σ_ w_=>∃ (U_:PHeap) (ay:Nat),σ_ 1=.pointer (some ⟨b2,0,none⟩)/\σ_ 6=.slice none 0 0/\σ_ 8=.pointer (some ⟨ax,0,none⟩)/\σ_ 9=.pointer (some ⟨ay,0,none⟩)/\σ_ 37=jV (↑p0.Readings.length:Int)/\σ_ 38=jV (↑am:Int)/\PHeap.Le bJ U_/\sW w U U_ [B1,.obj ag (.map ai ah),.blk b2 28 B0,.blk ay 3 [jV ak]] w_) eh ?_ ?_
 exact ⟨bJ,cg,ff,fg,rfl,rfl,dK,cy,(zP _),(iX.pick [1,2,3,0] _ (by decide) rfl)⟩
 rintro ak lv lz dk ⟨eu,ay,bQ,dL,cx,bR,dM,dN,be,bw⟩ ej dZ
 refine zM (sR fL5 Z (oL Z (bw.ldB (j:=3) Z Z bR zG (v:=jV ak) Z) (oR Z (zE Z bQ zI Z ZO) (oL Z (bw.ldB (j:=2) Z Z Z Zs (v:=.slice ap p0.Readings.length aq) Z) (oR Z (zx Z Z ZN) (oR Z (ze Z Z Z) (eN ?_)))))))
 by_cases az:ak < (↑p0.Readings.length:Int)
 have d9:=ej;rw [if_pos az] at d9;replace az:=zO az
 refine cT Z az (kN (zM (zd (sR gFb Z (oL Z (bw.ldBA (j:=2) Z Z bQ zf zY (vs:=B0) Z Z) ?_)))))
 have q:=bw.freeze (k:=3) rfl
 obtain ⟨bL,bk,bd,iY⟩:=q
 replace bd:=Cl.of bd
 have iZ:sW w U bL [B1,.obj ag (.map ai ah),.blk b2 28 B0] dk:=iY
 replace bd:Cl bL ay 0 [jV ak]:=bd
 refine oR Z (Runs.mkf Z zJ (zB cx (zB bR zJ))) ?_
 have gf:=cE.le a7
 have gg:=gf.le ao
 have gh:=gg.le a9
 have gi:=gh.le bT
 have gj:=gi.le bB
 have gm:=gj.le bC
 have gp:=gm.le be
 have gq:=gp.le bk
 have gu:=cG.le a7
 have gv:=gu.le ao
 have gw:=gv.le a9
 have gx:=gw.le bT
 have gy:=gx.le bB
 have gz:=gy.le bC
 have gA:=gz.le be
 have gC:=gA.le bk
 have gD:=cH.le a7
 have gE:=gD.le ao
 have gF:=gE.le a9
 have gG:=gF.le bT
 have gH:=gG.le bB
 have gI:=gH.le bC
 have gJ:=gI.le be
 have gK:=gJ.le bk
 have gM:=cI.le a7
 have gN:=gM.le ao
 have gO:=gN.le a9
 have gP:=gO.le bT
 have gQ:=gP.le bB
 have gR:=gQ.le bC
 have gS:=gR.le be
 have gT:=gS.le bk
 have gU:=bv.le be
 have dQ:=gU.le bk
 have iG:FnOK Try.prog bL (.func (.func 66) #[] #[.pointer (some ⟨ax,0,none⟩),.pointer (some ⟨ay,0,none⟩)]) wIz wJA (fun x=>wCr x.1 x.2 (↑am:Int) ak):=⟨66,[],[.pointer (some ⟨ax,0,none⟩),.pointer (some ⟨ay,0,none⟩)],rfl,Try.call66,fun U1 w1 x y vs le hs ha hm=>by obtain rfl:=ha;exact wGa x.1 x.2 (↑am:Int) ax ak ay w1 U1 hs (dQ.le le) (bd.le le) hm⟩
 refine bnK d9 fun aw gX jD=>zF 0 Z Z Z Z (zD Z Z Try.call64 (zB Z (zB Z zJ)) Z) iZ (fun hs=>wBp p0 bn bq bo br bp bs ap aq (fun x=>wCr x.1 x.2 (↑am:Int) ak) (.func (.func 66) #[] #[.pointer (some ⟨ax,0,none⟩),.pointer (some ⟨ay,0,none⟩)]) dk bL hs gq gC gK gT iG gX) (.inr Z) ?_
 rintro ew j5 ll cc bU i3 ⟨dp,cZ,dC,c6,dD,da,dE,db,dH,ba,bc,bb,bY,cr,rfl,rfl,gY,gZ,g6,g7,g8⟩
 let B6:Res:=.blk dp 124 [.slice cZ aw.Race.Starts.length dC,.slice c6 aw.Race.Splits.length dD,.slice da aw.Race.Clocks.length dE,.slice db aw.Race.Readings.length dH,.map (some ba),.slice bY aw.edges.length cr]
 have i4:sW w U ew [B6,.obj ba (.map bc bb),.row bY cr 130 7 (hD wAQ aw.edges),B1,.obj ag (.map ai ah),.blk b2 28 B0] cc:=i3
 have q:=i4.freezeR (k:=2) (n:=aw.edges.length) rfl (wAD (f:=wAQ) (sz:=7) (fun _=>rfl) aw.edges) (by decide)
 obtain ⟨dg,a8,jU,i5⟩:=q
 have i6:sW w U dg [B6,.obj ba (.map bc bb),B1,.obj ag (.map ai ah),.blk b2 28 B0] cc:=i5
 have g9:=gY.le a8
 have ib:=gZ.le a8
 have ic:=g6.le a8
 have ie:=g7.le a8
 refine bnK jD fun lq ig jH=>zF 2 Z Z Z Z (zD Z Z Try.call63 (zB Z zJ) Z) i6 (fun hs=>wBk aw dp cZ dC c6 dD da dE db dH ba bc bb bY cr cc dg hs g9 ib ic ie g8 jU ig) (.inl Z) ?_
 rintro bg j6 lm eH bV i8 ⟨rfl,rfl⟩
 have bx:sW w U bg [B6,.obj ba (.map bc bb),B1,.obj ag (.map ai ah),.blk b2 28 B0] eH:=i8
 refine eN (ifc jH ?_ ?_)
 intro ct jJ
 refine ZI (congrArg hH ct.out) (sR gFa Z ?_)
 have ii:=dQ.le bU
 have ij:=ii.le a8
 have ik:=ij.le bV
 refine oL Z (bx.ldC (f:=0) ik (v:=jV (↑am:Int)) Z cx zG Z) ?_
 have il:=bd.le bU
 have im:=il.le a8
 have io:=im.le bV
 refine oL Z (bx.ldC (f:=0) io (v:=jV ak) Z bR zG Z) (zr (pv:=[(0,jV (↑am:Int)),(1,jV ak)]) (zs:=[jV 0,jV 0]) (cs:=[jV (↑am:Int),jV ak]) Z Z Z Z Z (wAH Z (wAH Z wAO)) zK zC zz Z Z Z Z Z bx ?_)
 intro eI dq i9
 have ja:sW w U bg [.row (some ⟨dq,0,none⟩) 2 3 1 (hD KL.encI [(↑am:Int),ak]),B6,.obj ba (.map bc bb),B1,.obj ag (.map ai ah),.blk b2 28 B0] eI:=i9
 refine oA Z Z (eN (Zb (wGo (zo ?_))))
 have q:=wAY jJ
 obtain ⟨jY,jK,eZ⟩:=q
 have q:=dZ jY eZ
 obtain rfl:=q
 refine zo (wGo (wGo (zo ?_)))
 have q:=wAY jK
 obtain ⟨jZ,jL,e0⟩:=q
 have q:=wBY bS cC (jr jZ e0)
 obtain rfl:=q
 refine zo (ZV (zL (zM (sR fL3 rfl (zw rfl rfl rfl rfl rfl rfl (zc rfl rfl rfl rfl (fun _=>zx rfl rfl zK) (zc rfl rfl rfl rfl (fun _=>yO rfl rfl rfl) (eN (ZE (ZD (by decide)) (kN (sR fL3 rfl (zw rfl rfl rfl rfl rfl rfl (yI rfl rfl rfl rfl rfl rfl (yI rfl rfl rfl rfl rfl rfl (eN (zR (wEf ?_)))))))))))))))))
 cases jL
 exact ⟨rfl,_,(wDf rfl rfl),bg,_,(ja.pick [0] _ (by decide) rfl),(some ⟨dq,0,none⟩),2,rfl,rfl⟩
 intro ct jM
 refine ZE (congrArg hH (hJ.2 ct.out)) (Zo (ZA (zL (zM (sR fL1 Z ?_)))))
 have ip:=bd.le bU
 have iq:=ip.le a8
 have ir:=iq.le bV
 refine oL Z (bx.ldC (f:=0) ir (v:=jV ak) Z bR zG Z) (eN (rR gEi Z (zQ (cs:=[jV 0]) Z Z Z Z Z zz Z bx ?_)))
 intro k6 ci jb
 refine zU (j:=0) (vs:=[jV ak]) Z Z Z Z jb Z Z Z Z zC (zA Z) Z Z Z ?_
 intro eJ jc
 have dW:sW w U bg [.blk ci 3 [jV ak],B6,.obj ba (.map bc bb),B1,.obj ag (.map ai ah),.blk b2 28 B0] eJ:=jc
 refine eN (rR gEx Z (oL Z (dW.ldB (j:=0) Z Z Z zG (v:=jV ak) Z) (oR Z (za Z Z Z) (zU (j:=0) (vs:=[jV (w64 (ak + 1))]) Z Z Z Z dW Z Z Z Z zC (zA Z) Z Z Z ?_))))
 intro eO jd
 have je:sW w U bg [.blk ci 3 [jV (w64 (ak + 1))],B6,.obj ba (.map bc bb),B1,.obj ag (.map ai ah),.blk b2 28 B0] eO:=jd
 refine zh ?_
 have q:=nA jM
 obtain rfl:=q
 exact zL ⟨rfl,_,rfl,⟨bg,ci,bQ,dL,cx,rfl,dM,dN,((((be.trans bk).trans bU).trans a8).trans bV),(je.pick [3,4,5,0] _ (by decide) rfl)⟩⟩
 have ef:=ej;rw [if_neg az] at ef;replace az:=zO az
 refine cF Z az (Zb (zo ?_))
 have q:=wAY ef
 obtain ⟨j0,jN,fb⟩:=q
 have q:=dZ j0 fb
 obtain rfl:=q
 refine zo (ZV (ZA (zL (rR fL2 Z (oR Z (ZH (za Z dN Z) (congrArg (jV) d7.out)) (oM Z Z (zh ?_)))))))
 have q:=nA jN
 obtain rfl:=q
 exact zL ⟨rfl,_,rfl,⟨eu,rfl,bQ,dL,dM,((bB.trans bC).trans be),(bw.pick [0,1,2] _ (by decide) rfl)⟩⟩
 rintro ⟨⟩ lA k7 ⟨ey,fq,lb,fh,fj,lc,jf⟩ jt
 have eg:=wCm bS cC jt
 try dsimp only at eg
 have eX:Hid (¬ ((↑(((↑p0.Readings.length:Int):Int) - 0).toNat:Int) < (↑p0.Readings.length:Int))):=zO (wAc)
 refine sR fL1 rfl (zc rfl rfl rfl rfl (fun _=>ze rfl fq fj) (eN (zM (cF Z eX (Zb (zo (zo (ZV (zL (zM (sR fL3 rfl (zw rfl rfl rfl rfl rfl fh (zc rfl rfl rfl rfl (fun _=>zx rfl rfl zK) (zc rfl rfl rfl rfl (fun _=>yO rfl rfl rfl) (eN (ZI (Zi (by decide)) (sR fL2 rfl (yI rfl rfl rfl rfl rfl rfl (yI rfl rfl rfl rfl rfl rfl (eN (zR (zW (wEf ?_)))))))))))))))))))))))
 have jg:=jf.nilrow 3 1
 cases eg
 exact ⟨rfl,_,(wDf rfl rfl),ey,_,(jg.pick [0] _ (by decide) rfl),none,0,rfl,rfl⟩
 intro cu jO
 refine cT Z cu (sR fL3 Z (oM Z Z (oA Z Z (oA Z Z (eN (zR (zq (zW (wEf ?_)))))))))
 have jh:=dX.nilrow 3 1
 cases jO
 exact ⟨rfl,_,(wDf rfl rfl),U9,_,(jh.pick [0] _ (by decide) rfl),none,0,rfl,rfl⟩
end Go.Proofs.Ytlnfbjphfoipaaa
