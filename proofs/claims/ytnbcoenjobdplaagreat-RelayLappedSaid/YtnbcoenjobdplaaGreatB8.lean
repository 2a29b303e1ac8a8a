import Derived.Test.YtnbcoenjobdplaaGreatB6
import Derived.Test.YtnbcoenjobdplaaGreatB5
import Derived.Test.YtnbcoenjobdplaaGreatB7
set_option linter.all false
open List renaming flatMap->hM,set->nH,length_append->nI,length_cons->nJ,length_nil->nK,replicate->nL
open Option renaming map->nA
open Option.some renaming inj->nB
open Go.Value renaming bool->nD
open Bool renaming eq_false_iff->nE
open Int renaming toNat_natCast->nG
namespace Go.Proofs.YtnbcoenjobdplaaGreat
open Go.KL
def gBy:Sch:=.fx 0 (.fl 1 .nil) .stop
def gBz:Sch:=.fx 3 (.fl 4 .nil) .stop
def gCa:Sch:=.fx 1 (.fl 2 .nil) .stop
def gCb:Sch:=.fx 8 (.fl 9 .nil) .stop
def gCc:Sch:=.fx 3 (.fx 4 .nil .stop) .stop
def gCd:Sch:=.fx 5 (.fx 6 .nil .stop) .stop
def gCe:Sch:=.fx 0 (.fx 6 .nil .stop) .stop
def gCf:Sch:=.fl 0 (.fx 1 .nil .stop)
def gCg:Sch:=.fx 0 (.fl 1 (.fl 2 .nil)) .stop
def gCh:Sch:=.fl 0 gCa
def gCi:Sch:=.fx 3 (.fl 4 (.fx 5 .nil .stop)) .stop
def gCj:Sch:=.fx 1 (.fl 2 (.fl 3 .nil)) .stop
def gCk:Sch:=.fx 4 gCd .stop
def gCl:Sch:=.fx 2 gCd .stop
def gCm:Sch:=.fx 3 (.fx 4 (.fx 5 (.fl 6 .nil) .stop) .stop) .stop
def gCn:Sch:=.fx 0 gCd (.fx 5 gCe .stop)
def gCo:Sch:=.fx 0 gCj .stop
def gCp:Sch:=.fl 0 (.fl 1 (.fx 2 (.fl 3 .nil) .stop))
def gCq:Sch:=.fl 0 (.fl 1 (.fx 2 (.fl 3 (.fl 4 .nil)) .stop))
def gCr:Sch:=.fl 0 (.fx 1 (.fl 2 gCc) .stop)
set_option maxHeartbeats 4000000
theorem wEa (p0:wAH) (p1:wAD) (ah:Nat) (af:Option Addr) (ai:Nat) (ag:Option Addr) (aj:Nat) (w:World) (U:PHeap) (hS:St0 w U []) (ak:Cl U ah 0 [jV p1.Bib,.slice af p1.Classes.length ai,.slice ag p1.Legs.length aj]) (ao:Sl U 1 af ai p1.Classes.length (hM KL.encI p1.Classes)) (ap:SlR U wFe ag aj p1.Legs) {r:Bool} (hm:wAg p0 p1=some r):Gv Tryz.prog 18 [.agg #[jV p0.Bib,jV p0.Done,jV p0.Time,jV p0.By],.pointer (some ⟨ah,0,none⟩)] w (wBU w [] U (fun U_ L_ v=>v=.bool r/\L_=[])):=by
 unfold wAg at hm
 refine Gv.of Tryz.func18 rfl Tryz.ntmps18 Tryz.results18 rfl (sR gBy rfl (ZS (cs:=[jV p0.Bib,jV p0.Done,jV p0.Time,jV p0.By]) rfl rfl rfl rfl rfl rfl (by rfl) hS ?_))
 intro W1 b2 ae
 refine oA Z Z (eN (sR fL6 Z (oR Z (zJ Z Z yR Z zD) (oL Z (ae.ldB (j:=0) Z Z Z zP (v:=jV p0.Bib) Z) (oR Z (zJ Z Z zk Z zD) (oL Z (ae.ldC (f:=0) ak (v:=jV p1.Bib) Z Z zP Z) (oR Z (yF Z Z Z) (oA Z Z (eN (zO ?_))))))))))
 first | (obtain rfl:=nB hm) | cases hm
 exact ⟨rfl,_,(zr rfl),U,_,(ae.pick [] _ (by decide) rfl),rfl,rfl⟩
theorem wDd (p0:List wAH) (an:Option Addr) (ao:Nat) (p1:(wAH->Option Bool)) (ap:Value) (w:World) (U:PHeap) (hS:St0 w U []) (bn:Sl U 4 an ao p0.length (hM wAN p0)) (bp:FnOK Tryz.prog U ap ar67 rr67 p1) {r:Int} (hm:wAv p0 p1=some r):Gv Tryz.prog 58 [.slice an p0.length ao,ap] w (wBU w [] U (fun U_ L_ v=>v=jV r/\L_=[])):=by
 unfold wAv at hm
 refine Gv.of Tryz.func58 Z Tryz.ntmps58 Tryz.results58 Z (sR fL1 Z (oA Z Z (eN (zG (sR fL3 Z (oM Z Z (oR Z (za Z Z Zo) (oM Z Z (eN (zT ?_))))))))))
 have q:=wBe hm
 obtain ⟨r3,ai⟩:=q
 have q:=wBd ai
 obtain ⟨ak,bs⟩:=q
 replace ak:=zF ak
 refine yA (fun k2 _ σ_ w_=>∃ (U_:PHeap),σ_ 8=jV (↑k2:Int)/\σ_ 0=.slice an p0.length ao/\σ_ 1=ap/\σ_ 7=jV (↑p0.length:Int)/\PHeap.Le U U_/\sW w U U_ [] w_) bs ?_ ?_ ?_
 exact ⟨U,Z,Z,Z,Z,(zH _),hS⟩
 rintro k2 ⟨⟩ bO bQ W8 aj ⟨bD,ah,au,av,aw,am,ay⟩ aX bq
 try dsimp only at aX
 have aq:Hid ((↑k2:Int) < (↑p0.length:Int)):=zF (wAo aj)
 replace aj:=zF aj
 have bt:Hid (w64 ((↑k2:Int) + 1)=(↑(k2 + 1):Int)):=zF (by have h1:=ak.out;have h2:=aq.out;rw [wAT] <;> omega)
 refine sR fL1 Z (oR Z (zU Z ah aw) (eN (zG (cT Z aq (kN (zG (zT (sR fL2 Z (oM Z ah (oA Z Z (eN (sR (wHS (.fx 5 .nil .stop)) Z (oM Z av (oM Z au (oM Z Z (bnK aX fun ae ax bu=>?_))))))))))))))))
 have bf:=bn.le am
 have q:=bf.el (fun _=>rfl) (wAR ax)
 obtain ⟨bG,bK,bi,bj⟩:=q
 refine oR Z (zo Z Z bi Z Zo yD (wAj ax)) (oL Z (ay.ldCA (f:=0) bj Z Z Tryz.isAgg65 yD (us:=[jV ae.Bib,jV ae.Done,jV ae.Time,jV ae.By]) Z Z) (bnK bu fun bN bg bv=>?_))
 have bh:=bp.le am
 refine yT (a:=ae) Z Z Z Z Z Z (zB Z zM) ay bh Z bg ?_
 rintro af bC bM a7 bA bl ⟨rfl,rfl⟩
 have az:sW w U af [] a7:=bl
 refine eN (ifc bv ?_ ?_)
 intro ag bw
 refine ZF (congrArg nD ag.out) (sR fL2 Z (oM Z Z (oA Z Z (eN (zO (zf (zR ?_)))))))
 have q:=wAf bw
 obtain ⟨bB,bx,ba⟩:=q
 have q:=wCI hm ai (bq bB ba)
 obtain rfl:=q
 refine zR (zf (zR ?_))
 cases bx
 exact ⟨Z,_,(zr Z),af,_,az,Z,Z⟩
 intro ag bz
 refine zm (congrArg nD (nE.2 ag.out)) (ZV (zb (zI (rR fL2 Z (oR Z (zn (zX Z ah Z) (congrArg (jV) bt.out)) (oM Z Z (zg ?_)))))))
 have q:=nB bz
 obtain rfl:=q
 exact zI ⟨Z,_,Z,⟨af,Z,au,av,aw,(am.trans bA),az⟩⟩
 rintro ⟨⟩ bP bE ⟨aZ,be,bH,bI,bb,bJ,bm⟩ br
 have aW:=wCm hm ai br
 try dsimp only at aW
 have a8:Hid (¬ ((↑(((↑p0.length:Int):Int) - 0).toNat:Int) < (↑p0.length:Int))):=zF (wAa)
 refine sR fL1 Z (oR Z (zU Z be bb) (eN (zG (cF Z a8 (ZI (zY (zY (ZD (zI (sR fL1 Z (oA Z Z (eN (zO ?_)))))))))))))
 cases aW
 exact ⟨Z,_,(zr Z),aZ,_,bm,Z,Z⟩
theorem wDQ (p0:List wAH) (ae:Option Addr) (af:Nat) (p1:(wAH->Option Bool)) (ag:Value) (w:World) (U:PHeap) (hS:St0 w U []) (ao:Sl U 4 ae af p0.length (hM wAN p0)) (ap:FnOK Tryz.prog U ag ar67 rr67 p1) {r:Bool} (hm:wAY p0 p1=some r):Gv Tryz.prog 17 [.slice ae p0.length af,ag] w (wBU w [] U (fun U_ L_ v=>v=.bool r/\L_=[])):=by
 unfold wAY at hm
 refine Gv.of Tryz.func17 Z Tryz.ntmps17 Tryz.results17 Z (sR fL1 Z (oA Z Z (eN (sR gCq Z (oM Z Z (oM Z Z (bnK hm fun x1 h2 ai=>zL 0 Z Z Z Z (zK Z Z Tryz.call58 (zB Z (zB Z zM)) Z) hS (fun hs=>wDd p0 ae af p1 ag w U hs ao ap h2) (.inr Z) ?_)))))))
 rintro U4 L5 v6 W7 au an ⟨rfl,rfl⟩
 have am:sW w U U4 [] W7:=an
 refine oR Z (yo Z Z Z) (oA Z Z (eN (zO ?_)))
 first | (obtain rfl:=nB ai) | cases ai
 exact ⟨Z,_,(zr Z),U4,_,am,Z,Z⟩
theorem wEb (p0:wAB) (p1:wAH) (af:Nat) (w:World) (U:PHeap) (hS:St0 w U []) (ag:Cl U af 0 [jV p1.Bib,jV p1.Done,jV p1.Time,jV p1.By]) {r:Bool} (hm:wAh p0 p1=some r):Gv Tryz.prog 20 [.agg #[jV p0.Bib,jV p0.Place,jV p0.Time],.pointer (some ⟨af,0,none⟩)] w (wBU w [] U (fun U_ L_ v=>v=.bool r/\L_=[])):=by
 unfold wAh at hm
 refine Gv.of Tryz.func20 rfl Tryz.ntmps20 Tryz.results20 rfl (sR gBy rfl (ZS (cs:=[jV p0.Bib,jV p0.Place,jV p0.Time]) rfl rfl rfl rfl rfl rfl (by rfl) hS ?_))
 intro W1 b2 ae
 refine oA Z Z (eN (sR fL6 Z (oR Z (zJ Z Z Ze Z zD) (oL Z (ae.ldB (j:=0) Z Z Z zP (v:=jV p0.Bib) Z) (oR Z (zJ Z Z yR Z zD) (oL Z (ae.ldC (f:=0) ag (v:=jV p1.Bib) Z Z zP Z) (oR Z (yF Z Z Z) (oA Z Z (eN (zO ?_))))))))))
 first | (obtain rfl:=nB hm) | cases hm
 exact ⟨rfl,_,(zr rfl),U,_,(ae.pick [] _ (by decide) rfl),rfl,rfl⟩
theorem wDD (p0:List wAB) (an:Option Addr) (ao:Nat) (p1:(wAB->Option Bool)) (ap:Value) (w:World) (U:PHeap) (hS:St0 w U []) (bn:Sl U 3 an ao p0.length (hM wAG p0)) (bp:FnOK Tryz.prog U ap ar71 rr71 p1) {r:Int} (hm:wAV p0 p1=some r):Gv Tryz.prog 19 [.slice an p0.length ao,ap] w (wBU w [] U (fun U_ L_ v=>v=jV r/\L_=[])):=by
 unfold wAV at hm
 refine Gv.of Tryz.func19 Z Tryz.ntmps19 Tryz.results19 Z (sR fL1 Z (oA Z Z (eN (zG (sR fL3 Z (oM Z Z (oR Z (za Z Z ZR) (oM Z Z (eN (zT ?_))))))))))
 have q:=wBe hm
 obtain ⟨r3,ai⟩:=q
 have q:=wBd ai
 obtain ⟨ak,bs⟩:=q
 replace ak:=zF ak
 refine yA (fun k2 _ σ_ w_=>∃ (U_:PHeap),σ_ 8=jV (↑k2:Int)/\σ_ 0=.slice an p0.length ao/\σ_ 1=ap/\σ_ 7=jV (↑p0.length:Int)/\PHeap.Le U U_/\sW w U U_ [] w_) bs ?_ ?_ ?_
 exact ⟨U,Z,Z,Z,Z,(zH _),hS⟩
 rintro k2 ⟨⟩ bO bQ W8 aj ⟨bD,ah,au,av,aw,am,ay⟩ aX bq
 try dsimp only at aX
 have aq:Hid ((↑k2:Int) < (↑p0.length:Int)):=zF (wAo aj)
 replace aj:=zF aj
 have bt:Hid (w64 ((↑k2:Int) + 1)=(↑(k2 + 1):Int)):=zF (by have h1:=ak.out;have h2:=aq.out;rw [wAT] <;> omega)
 refine sR fL1 Z (oR Z (zU Z ah aw) (eN (zG (cT Z aq (kN (zG (zT (sR fL2 Z (oM Z ah (oA Z Z (eN (sR (wHS (.fx 5 .nil .stop)) Z (oM Z av (oM Z au (oM Z Z (bnK aX fun ae ax bu=>?_))))))))))))))))
 have bf:=bn.le am
 have q:=bf.el (fun _=>rfl) (wAR ax)
 obtain ⟨bG,bK,bi,bj⟩:=q
 refine oR Z (zo Z Z bi Z ZR Zg (wAj ax)) (oL Z (ay.ldCA (f:=0) bj Z Z Tryz.isAgg70 Zg (us:=[jV ae.Bib,jV ae.Place,jV ae.Time]) Z Z) (bnK bu fun bN bg bv=>?_))
 have bh:=bp.le am
 refine yT (a:=ae) Z Z Z Z Z Z (zB Z zM) ay bh Z bg ?_
 rintro af bC bM a7 bA bl ⟨rfl,rfl⟩
 have az:sW w U af [] a7:=bl
 refine eN (ifc bv ?_ ?_)
 intro ag bw
 refine ZF (congrArg nD ag.out) (sR fL2 Z (oM Z Z (oA Z Z (eN (zO (zf (zR ?_)))))))
 have q:=wAf bw
 obtain ⟨bB,bx,ba⟩:=q
 have q:=wCI hm ai (bq bB ba)
 obtain rfl:=q
 refine zR (zf (zR ?_))
 cases bx
 exact ⟨Z,_,(zr Z),af,_,az,Z,Z⟩
 intro ag bz
 refine zm (congrArg nD (nE.2 ag.out)) (ZV (zb (zI (rR fL2 Z (oR Z (zn (zX Z ah Z) (congrArg (jV) bt.out)) (oM Z Z (zg ?_)))))))
 have q:=nB bz
 obtain rfl:=q
 exact zI ⟨Z,_,Z,⟨af,Z,au,av,aw,(am.trans bA),az⟩⟩
 rintro ⟨⟩ bP bE ⟨aZ,be,bH,bI,bb,bJ,bm⟩ br
 have aW:=wCm hm ai br
 try dsimp only at aW
 have a8:Hid (¬ ((↑(((↑p0.length:Int):Int) - 0).toNat:Int) < (↑p0.length:Int))):=zF (wAa)
 refine sR fL1 Z (oR Z (zU Z be bb) (eN (zG (cF Z a8 (ZI (zY (zY (ZD (zI (sR fL1 Z (oA Z Z (eN (zO ?_)))))))))))))
 cases aW
 exact ⟨Z,_,(zr Z),aZ,_,bm,Z,Z⟩
theorem wDi  (w:World) (U:PHeap) (hS:St0 w U [])  {r:(List (List Bool))} (hm:wCT =some r):Gv Tryz.prog 36 [] w (wBU w [] U (fun U_ L_ v=>∃ (A0:Option Addr) (c0:Nat) (av:List Value),v=.slice A0 r.length c0/\L_=[.row A0 c0 47 1 av]/\RlL U_ wFi r av)):=by
 unfold wCT at hm
 refine Gv.of Tryz.func36 Z Tryz.ntmps36 Tryz.results36 Z (sR fL1 Z (oA Z Z (eN (sR (.fx 0 (.fx 1 (.fx 2 (.fx 3 (.fx 4 (.fl 5 .nil) .stop) .stop) .stop) .stop) .stop) Z (zW (pv:=[(0,.bool true),(1,.bool false),(2,.bool true),(3,.bool true),(4,.bool true),(5,.bool true)]) (zs:=[.bool false,.bool false,.bool false,.bool false,.bool false,.bool false]) (cs:=[.bool true,.bool false,.bool true,.bool true,.bool true,.bool true]) Z Z Z Z Z (wAC Z (wAC Z (wAC Z (wAC Z (wAC Z (wAC Z wAM)))))) ZQ yJ yS Z Z Z Z Z hS ?_)))))
 intro W1 b2 bq
 let B0:Res:=.row (some ⟨b2,0,none⟩) 6 4 1 (hM KL.encT [true,false,true,true,true,true])
 have bx:sW w U U [B0] W1:=bq
 refine zW (pv:=[(0,.bool false),(1,.bool false),(2,.bool false),(3,.bool true),(4,.bool true),(5,.bool true),(6,.bool true),(7,.bool true)]) (zs:=[.bool false,.bool false,.bool false,.bool false,.bool false,.bool false,.bool false,.bool false]) (cs:=[.bool false,.bool false,.bool false,.bool true,.bool true,.bool true,.bool true,.bool true]) Z Z Z Z Z (wAC Z (wAC Z (wAC Z (wAC Z (wAC Z (wAC Z (wAC Z (wAC Z wAM)))))))) ZQ yJ yS Z Z Z Z Z bx ?_
 intro W6 b7 bA
 let B1:Res:=.row (some ⟨b7,0,none⟩) 8 4 1 (hM KL.encT [false,false,false,true,true,true,true,true])
 have bg:sW w U U [B1,B0] W6:=bA
 refine zW (pv:=[(0,.bool true),(1,.bool true),(2,.bool true),(3,.bool true),(4,.bool false),(5,.bool false),(6,.bool false),(7,.bool false)]) (zs:=[.bool false,.bool false,.bool false,.bool false,.bool false,.bool false,.bool false,.bool false]) (cs:=[.bool true,.bool true,.bool true,.bool true,.bool false,.bool false,.bool false,.bool false]) Z Z Z Z Z (wAC Z (wAC Z (wAC Z (wAC Z (wAC Z (wAC Z (wAC Z (wAC Z wAM)))))))) ZQ yJ yS Z Z Z Z Z bg ?_
 intro aX ac bh
 let B2:Res:=.row (some ⟨ac,0,none⟩) 8 4 1 (hM KL.encT [true,true,true,true,false,false,false,false])
 have bi:sW w U U [B2,B1,B0] aX:=bh
 refine zW (pv:=[(0,.bool false),(1,.bool true),(2,.bool true),(3,.bool true),(4,.bool true)]) (zs:=[.bool false,.bool false,.bool false,.bool false,.bool false]) (cs:=[.bool false,.bool true,.bool true,.bool true,.bool true]) Z Z Z Z Z (wAC Z (wAC Z (wAC Z (wAC Z (wAC Z wAM))))) ZQ yJ yS Z Z Z Z Z bi ?_
 intro aa ae bj
 let B3:Res:=.row (some ⟨ae,0,none⟩) 5 4 1 (hM KL.encT [false,true,true,true,true])
 have bl:sW w U U [B3,B2,B1,B0] aa:=bj
 have q:=bl.freezeR (k:=3) (n:=[true,false,true,true,true,true].length) rfl (wAF (f:=KL.encT) (sz:=1) (fun _=>rfl) [true,false,true,true,true,true]) (by decide)
 obtain ⟨ax,bH,bC,bn⟩:=q
 have bp:sW w U ax [B3,B2,B1] aa:=bn
 have q:=bp.freezeR (k:=2) (n:=[false,false,false,true,true,true,true,true].length) rfl (wAF (f:=KL.encT) (sz:=1) (fun _=>rfl) [false,false,false,true,true,true,true,true]) (by decide)
 obtain ⟨ay,bG,bD,br⟩:=q
 have bs:sW w U ay [B3,B2] aa:=br
 have q:=bs.freezeR (k:=1) (n:=[true,true,true,true,false,false,false,false].length) rfl (wAF (f:=KL.encT) (sz:=1) (fun _=>rfl) [true,true,true,true,false,false,false,false]) (by decide)
 obtain ⟨az,aw,bE,bt⟩:=q
 have bu:sW w U az [B3] aa:=bt
 have q:=bu.freezeR (k:=0) (n:=[false,true,true,true,true].length) rfl (wAF (f:=KL.encT) (sz:=1) (fun _=>rfl) [false,true,true,true,true]) (by decide)
 obtain ⟨an,ao,bF,bv⟩:=q
 have bw:sW w U an [] aa:=bv
 let B4:List Value:=[.slice (some ⟨b2,0,none⟩) 6 6,.slice (some ⟨b7,0,none⟩) 8 8,.slice (some ⟨ac,0,none⟩) 8 8,.slice (some ⟨ae,0,none⟩) 5 5]
 refine zW (pv:=[(0,.slice (some ⟨b2,0,none⟩) 6 6),(1,.slice (some ⟨b7,0,none⟩) 8 8),(2,.slice (some ⟨ac,0,none⟩) 8 8),(3,.slice (some ⟨ae,0,none⟩) 5 5)]) (zs:=[.slice none 0 0,.slice none 0 0,.slice none 0 0,.slice none 0 0]) (cs:=B4) Z Z Z Z Z (wAC Z (wAC Z (wAC Z (wAC Z wAM)))) ZZ Zt Tryz.zeroValue47 Z Z Z Z Z bw ?_
 intro aY aq bm
 have a7:=bE.le ao
 have a8:=bD.le aw
 have ba:=a8.le ao
 have bb:=bC.le bG
 have be:=bb.le aw
 have bf:=be.le ao
 have bB:RlL an wFi [[true,false,true,true,true,true],[false,false,false,true,true,true,true,true],[true,true,true,true,false,false,false,false],[false,true,true,true,true]] B4:=(RlL.cons (R:=wFi) (x:=[true,false,true,true,true,true]) (vs:=[.slice (some ⟨b2,0,none⟩) 6 6]) ⟨(some ⟨b2,0,none⟩),6,rfl,bf⟩ (RlL.cons (R:=wFi) (x:=[false,false,false,true,true,true,true,true]) (vs:=[.slice (some ⟨b7,0,none⟩) 8 8]) ⟨(some ⟨b7,0,none⟩),8,rfl,ba⟩ (RlL.cons (R:=wFi) (x:=[true,true,true,true,false,false,false,false]) (vs:=[.slice (some ⟨ac,0,none⟩) 8 8]) ⟨(some ⟨ac,0,none⟩),8,rfl,a7⟩ (RlL.cons (R:=wFi) (x:=[false,true,true,true,true]) (vs:=[.slice (some ⟨ae,0,none⟩) 5 5]) ⟨(some ⟨ae,0,none⟩),5,rfl,bF⟩ RlL.nil))))
 have bz:sW w U an [.row (some ⟨aq,0,none⟩) 4 47 1 B4] aY:=bm
 refine oA Z Z (eN (zO ?_))
 cases hm
 exact ⟨Z,_,(zr Z),an,_,bz,(some ⟨aq,0,none⟩),4,B4,Z,Z,bB⟩
theorem wDU  (w:World) (U:PHeap) (hS:St0 w U [])  {r:wAI} (hm:wBh =some r):Gv Tryz.prog 38 [] w (wBU w [] U (fun U_ L_ v=>∃ (dx:Option Addr) (dJ:Nat) (dy:Option Addr) (dK:Nat) (dL:List Value),v=.agg #[.slice dx r.Rules.Classes.length dJ,jV r.Rules.Each,jV r.Rules.Laps,jV r.Rules.Spare,jV r.Rules.Loop,jV r.Rules.Unused,jV r.Start,.slice dy r.Teams.length dK]/\L_=[.row dx dJ 3 1 (hM KL.encI r.Rules.Classes),.row dy dK 43 3 dL]/\RlL U_ wFF r.Teams dL)):=by
 unfold wBh at hm
 refine Gv.of Tryz.func38 Z Tryz.ntmps38 Tryz.results38 Z (sR (.fx 0 .nil .stop) Z ?_)
 let B0:List Value:=[.slice none 0 0,jV 0,jV 0,jV 0,jV 0,jV 0,jV 0,.slice none 0 0]
 refine zz (cs:=B0) Z Z Z Z Z yB Z hS ?_
 intro W1 b2 gS
 refine eN (sR gBy Z (bnK hm fun x5 h6 jN=>zL 0 Z Z Z Z (zK Z Z Tryz.call36 zM Z) gS (fun hs=>wDi W1 U hs h6) (.inr Z) ?_))
 rintro U8 L9 qC dI qa gG ⟨aa,ac,fL,rfl,rfl,fQ⟩
 have gH:sW w U U8 [.row aa ac 47 1 fL,.blk b2 28 B0] dI:=gG
 refine oA Z Z (eN ?_)
 have q:=bnd jN
 obtain ⟨⟨dn,dp⟩,k5,dU⟩:=q
 try dsimp only at dU
 refine CK.cut (fun σ_ w_=>∃ (U_:PHeap) (bu:Option Addr) (bD:Nat) (bv:Option Addr) (bE:Nat) (bW:List Value),σ_ 0=.pointer (some ⟨b2,0,none⟩)/\PHeap.Le U8 U_/\sW w U U_ [.row bu bD 3 1 (hM KL.encI dn),.row bv bE 43 3 bW,.blk b2 28 [.slice bu dn.length bD,jV 1,jV 2,jV 100,jV 250,jV 1200,jV 0,.slice bv dp.length bE]] w_/\RlL U_ wFF dp bW) ?_ ?_
 have q:=gH.freezeRR (R:=wFi) (k:=0) rfl fQ rfl (by decide)
 obtain ⟨dD,lH,ct,gV⟩:=q
 have gX:sW w U dD [.blk b2 28 B0] dI:=gV
 refine bnK k5 fun ag dQ jK=>bnK jK fun ah dS jL=>bnK jL fun af dN jM=>CK.webs (U0:=dD) (L0:=[.blk b2 28 B0]) ZP [⟨3,[3],[],false,fun σ R=>σ 3=.slice (some ⟨(bk (σ 3)),0,none⟩) 2 2/\R=[.row (some ⟨(bk (σ 3)),0,none⟩) 2 3 1 (hM KL.encI [0,1])]⟩,⟨4,[3,4],[0],true,fun σ R=>σ 4=.agg #[.slice (some ⟨(bk (σ 3)),0,none⟩) 2 2,jV 1,jV 2,jV 100,jV 250,jV 1200]/\R=[]⟩,⟨5,[5],[],false,fun σ R=>σ 5=.slice (some ⟨(bk (σ 5)),0,none⟩) 2 2/\R=[.row (some ⟨(bk (σ 5)),0,none⟩) 2 3 1 (hM KL.encI [0,1])]⟩,⟨6,[6],[],false,fun σ R=>σ 6=.slice (some ⟨(bk (σ 6)),0,none⟩) 2 2/\R=[.row (some ⟨(bk (σ 6)),0,none⟩) 2 3 1 (hM KL.encI [1000,1100])]⟩,⟨7,[7],[],true,fun σ R=>σ 7=.slice aa x5.length ac/\R=[]⟩,⟨8,[8],[4],true,fun σ R=>σ 8=.slice (if ac=(0:Int).toNat then aa else nA (·.add ((0:Int).toNat * 1)) aa) ag.length (ac - (0:Int).toNat)/\R=[]⟩,⟨9,[6,9],[3,5],true,fun σ R=>σ 9=.agg #[jV 0,.slice (some ⟨(bk (σ 6)),0,none⟩) 2 2,.slice (if ac=(0:Int).toNat then aa else nA (·.add ((0:Int).toNat * 1)) aa) ag.length (ac - (0:Int).toNat)]/\R=[]⟩,⟨10,[10],[],false,fun σ R=>σ 10=.slice (some ⟨(bk (σ 10)),0,none⟩) 2 2/\R=[.row (some ⟨(bk (σ 10)),0,none⟩) 2 3 1 (hM KL.encI [900,950])]⟩,⟨11,[11],[],true,fun σ R=>σ 11=.slice aa x5.length ac/\R=[]⟩,⟨12,[12],[8],true,fun σ R=>σ 12=.slice (if ac=(2:Int).toNat then aa else nA (·.add ((2:Int).toNat * 1)) aa) ah.length (ac - (2:Int).toNat)/\R=[]⟩,⟨13,[10,13],[7,9],true,fun σ R=>σ 13=.agg #[jV 1,.slice (some ⟨(bk (σ 10)),0,none⟩) 2 2,.slice (if ac=(2:Int).toNat then aa else nA (·.add ((2:Int).toNat * 1)) aa) ah.length (ac - (2:Int).toNat)]/\R=[]⟩,⟨14,[6,10,14],[3,6,7,10],false,fun σ R=>σ 14=.slice (some ⟨(bk (σ 14)),0,none⟩) 2 2/\R=[.row (some ⟨(bk (σ 14)),0,none⟩) 2 46 3 [jV 0,.slice (some ⟨(bk (σ 6)),0,none⟩) 2 2,.slice (if ac=(0:Int).toNat then aa else nA (·.add ((0:Int).toNat * 1)) aa) ag.length (ac - (0:Int).toNat),jV 1,.slice (some ⟨(bk (σ 10)),0,none⟩) 2 2,.slice (if ac=(2:Int).toNat then aa else nA (·.add ((2:Int).toNat * 1)) aa) ah.length (ac - (2:Int).toNat)]]⟩,⟨15,[5,14,15],[2,11],true,fun σ R=>σ 15=.agg #[jV 7,.slice (some ⟨(bk (σ 5)),0,none⟩) 2 2,.slice (some ⟨(bk (σ 14)),0,none⟩) 2 2]/\R=[]⟩,⟨16,[16],[],false,fun σ R=>σ 16=.slice (some ⟨(bk (σ 16)),0,none⟩) 2 2/\R=[.row (some ⟨(bk (σ 16)),0,none⟩) 2 3 1 (hM KL.encI [1,0])]⟩,⟨17,[17],[],false,fun σ R=>σ 17=.slice (some ⟨(bk (σ 17)),0,none⟩) 2 2/\R=[.row (some ⟨(bk (σ 17)),0,none⟩) 2 3 1 (hM KL.encI [1000,1150])]⟩,⟨18,[18],[],false,fun σ R=>σ 18=.slice (some ⟨(bk (σ 18)),0,none⟩) 5 5/\R=[.row (some ⟨(bk (σ 18)),0,none⟩) 5 4 1 (hM KL.encT [true,true,true,true,true])]⟩,⟨19,[18,19],[15],false,fun σ R=>σ 19=.slice (some ⟨(bk (σ 19)),0,none⟩) 1 1/\R=[.row (some ⟨(bk (σ 19)),0,none⟩) 1 47 1 [.slice (some ⟨(bk (σ 18)),0,none⟩) 5 5]]⟩,⟨20,[17,19,20],[14,16],true,fun σ R=>σ 20=.agg #[jV 1,.slice (some ⟨(bk (σ 17)),0,none⟩) 2 2,.slice (some ⟨(bk (σ 19)),0,none⟩) 1 1]/\R=[]⟩,⟨21,[21],[],false,fun σ R=>σ 21=.slice (some ⟨(bk (σ 21)),0,none⟩) 2 2/\R=[.row (some ⟨(bk (σ 21)),0,none⟩) 2 3 1 (hM KL.encI [900,1500])]⟩,⟨22,[22],[],true,fun σ R=>σ 22=.slice aa x5.length ac/\R=[]⟩,⟨23,[23],[19],true,fun σ R=>σ 23=.slice (if ac=(3:Int).toNat then aa else nA (·.add ((3:Int).toNat * 1)) aa) af.length (ac - (3:Int).toNat)/\R=[]⟩,⟨24,[21,24],[18,20],true,fun σ R=>σ 24=.agg #[jV 0,.slice (some ⟨(bk (σ 21)),0,none⟩) 2 2,.slice (if ac=(3:Int).toNat then aa else nA (·.add ((3:Int).toNat * 1)) aa) af.length (ac - (3:Int).toNat)]/\R=[]⟩,⟨25,[17,19,21,25],[14,16,17,18,21],false,fun σ R=>σ 25=.slice (some ⟨(bk (σ 25)),0,none⟩) 2 2/\R=[.row (some ⟨(bk (σ 25)),0,none⟩) 2 46 3 [jV 1,.slice (some ⟨(bk (σ 17)),0,none⟩) 2 2,.slice (some ⟨(bk (σ 19)),0,none⟩) 1 1,jV 0,.slice (some ⟨(bk (σ 21)),0,none⟩) 2 2,.slice (if ac=(3:Int).toNat then aa else nA (·.add ((3:Int).toNat * 1)) aa) af.length (ac - (3:Int).toNat)]]⟩,⟨26,[16,25,26],[13,22],true,fun σ R=>σ 26=.agg #[jV 3,.slice (some ⟨(bk (σ 16)),0,none⟩) 2 2,.slice (some ⟨(bk (σ 25)),0,none⟩) 2 2]/\R=[]⟩,⟨27,[5,14,16,25,27],[2,11,12,13,22,23],false,fun σ R=>σ 27=.slice (some ⟨(bk (σ 27)),0,none⟩) 2 2/\R=[.row (some ⟨(bk (σ 27)),0,none⟩) 2 43 3 [jV 7,.slice (some ⟨(bk (σ 5)),0,none⟩) 2 2,.slice (some ⟨(bk (σ 14)),0,none⟩) 2 2,jV 3,.slice (some ⟨(bk (σ 16)),0,none⟩) 2 2,.slice (some ⟨(bk (σ 25)),0,none⟩) 2 2]]⟩,⟨28,[3,27,28],[0,1,24],true,fun σ R=>σ 28=.agg #[.slice (some ⟨(bk (σ 3)),0,none⟩) 2 2,jV 1,jV 2,jV 100,jV 250,jV 1200,jV 0,.slice (some ⟨(bk (σ 27)),0,none⟩) 2 2]/\R=[]⟩] [(0,.pointer (some ⟨b2,0,none⟩)),(1,.slice aa x5.length ac)] (by kernel_rfl) ⟨rfl,rfl,trivial⟩ gX ⟨?_,?_,?_,?_,?_,?_,?_,?_,?_,?_,?_,?_,?_,?_,?_,?_,?_,?_,?_,?_,?_,?_,?_,?_,?_,?_,trivial⟩ ?_
 intro _ lP e9 mA l4 jh qb pQ gI k6
 obtain ⟨oy,oz,_⟩:=jh
 show OKS _ _ _ _ _ _ (.fx 0 .nil .stop) lP e9
 refine zW (pv:=[(0,jV 0),(1,jV 1)]) (zs:=[jV 0,jV 0]) (cs:=[jV 0,jV 1]) Z Z Z Z Z (wAC Z (wAC Z wAM)) zA zD zt Z Z Z Z Z gI ?_
 intro m4 oa gJ
 exact k6 _ _ _ _ (zH _) gJ ⟨Z,Z⟩
 intro _ bs fb mB l5 ji qc df gK k8
 obtain ⟨oB,oC,_⟩:=ji
 replace df:WbD _ [0] bs:=df
 have q:=df 0 (by decide)
 obtain ⟨_,cG,_⟩:=q
 replace cG:bs 3=.slice (some ⟨(bk (bs 3)),0,none⟩) 2 2:=cG
 show OKS _ _ _ _ _ _ (.fl 1 .nil) bs fb
 exact oR Z (ZH (pv:=[(0,.slice (some ⟨(bk (bs 3)),0,none⟩) 2 2),(1,jV 1),(2,jV 2),(3,jV 100),(4,jV 250),(5,jV 1200)]) (z:=[.slice none 0 0,jV 0,jV 0,jV 0,jV 0,jV 0]) (cs:=[.slice (some ⟨(bk (bs 3)),0,none⟩) 2 2,jV 1,jV 2,jV 100,jV 250,jV 1200]) Z (wAC cG (wAC Z (wAC Z (wAC Z (wAC Z (wAC Z wAM)))))) yt wKZ Z Z) (k8 _ _ _ [] (zH _) gK ⟨Z,Z⟩)
 intro _ lQ fc mC l6 jj qd pR gM k9
 obtain ⟨oD,oE,_⟩:=jj
 show OKS _ _ _ _ _ _ (.fx 2 .nil .stop) lQ fc
 refine zW (pv:=[(0,jV 0),(1,jV 1)]) (zs:=[jV 0,jV 0]) (cs:=[jV 0,jV 1]) Z Z Z Z Z (wAC Z (wAC Z wAM)) zA zD zt Z Z Z Z Z gM ?_
 intro m5 oc gO
 exact k9 _ _ _ _ (zH _) gO ⟨Z,Z⟩
 intro _ lR fd mD l7 jk qe pS gP la
 obtain ⟨oG,oH,_⟩:=jk
 show OKS _ _ _ _ _ _ (.fx 3 .nil .stop) lR fd
 refine zW (pv:=[(0,jV 1000),(1,jV 1100)]) (zs:=[jV 0,jV 0]) (cs:=[jV 1000,jV 1100]) Z Z Z Z Z (wAC Z (wAC Z wAM)) zA zD zt Z Z Z Z Z gP ?_
 intro m6 od gQ
 exact la _ _ _ _ (zH _) gQ ⟨Z,Z⟩
 intro _ lS fe mE l8 jl qf pT gT lb
 obtain ⟨oI,fM,_⟩:=jl
 show OKS _ _ _ _ _ _ (.fl 4 .nil) lS fe
 exact oM Z fM (lb _ _ _ [] (zH _) gT ⟨Z,Z⟩)
 intro _ du ff mF ma jm lI dg gU lc
 obtain ⟨oJ,oK,_⟩:=jm
 replace dg:WbD _ [4] du:=dg
 have q:=dg 4 (by decide)
 obtain ⟨_,cH,_⟩:=q
 replace cH:du 7=.slice aa x5.length ac:=cH
 show OKS _ _ _ _ _ _ (.fl 5 .nil) du ff
 have dO:=ct.le lI
 have q:=SlR.cutM (R:=wFi) dO dQ
 obtain ⟨qz,i8,jb,je,jO⟩:=q
 exact zh (v:=.slice (if ac=(0:Int).toNat then aa else nA (·.add ((0:Int).toNat * 1)) aa) ag.length (ac - (0:Int).toNat)) rfl rfl rfl rfl (fun _=>zn (Runs.slc (sz:=1) (a:=0) (b:=1) rfl cH (.inr ⟨rfl,rfl⟩) (.inl ⟨_,rfl,rfl⟩) ZZ Zt i8 jb je (dO).cap) (by rw [jO])) (lc _ _ _ [] (zH _) gU ⟨rfl,rfl⟩)
 intro _ be fg mG mb jo qg cd gW lh
 obtain ⟨oO,oP,_⟩:=jo
 replace cd:WbD _ [3,5] be:=cd
 have q:=cd 3 (by decide)
 obtain ⟨_,cI,_⟩:=q
 replace cI:be 6=.slice (some ⟨(bk (be 6)),0,none⟩) 2 2:=cI
 have q:=cd 5 (by decide)
 obtain ⟨_,cJ,_⟩:=q
 replace cJ:be 8=.slice (if ac=(0:Int).toNat then aa else nA (·.add ((0:Int).toNat * 1)) aa) ag.length (ac - (0:Int).toNat):=cJ
 show OKS _ _ _ _ _ _ (.fl 6 .nil) be fg
 exact oR Z (ZH (pv:=[(1,.slice (some ⟨(bk (be 6)),0,none⟩) 2 2),(2,.slice (if ac=(0:Int).toNat then aa else nA (·.add ((0:Int).toNat * 1)) aa) ag.length (ac - (0:Int).toNat))]) (z:=[jV 0,.slice none 0 0,.slice none 0 0]) (cs:=[jV 0,.slice (some ⟨(bk (be 6)),0,none⟩) 2 2,.slice (if ac=(0:Int).toNat then aa else nA (·.add ((0:Int).toNat * 1)) aa) ag.length (ac - (0:Int).toNat)]) Z (wAC cI (wAC cJ wAM)) ZT wFS Z Z) (lh _ _ _ [] (zH _) gW ⟨Z,Z⟩)
 intro _ lT fh mH mc jp qh pU gY li
 obtain ⟨oQ,oS,_⟩:=jp
 show OKS _ _ _ _ _ _ (.fx 7 .nil .stop) lT fh
 refine zW (pv:=[(0,jV 900),(1,jV 950)]) (zs:=[jV 0,jV 0]) (cs:=[jV 900,jV 950]) Z Z Z Z Z (wAC Z (wAC Z wAM)) zA zD zt Z Z Z Z Z gY ?_
 intro m7 oe gZ
 exact li _ _ _ _ (zH _) gZ ⟨Z,Z⟩
 intro _ lU fj mI md jq qi pV g8 lj
 obtain ⟨oU,fN,_⟩:=jq
 show OKS _ _ _ _ _ _ (.fl 8 .nil) lU fj
 exact oM Z fN (lj _ _ _ [] (zH _) g8 ⟨Z,Z⟩)
 intro _ dv fk mJ me jr lJ dh g9 lk
 obtain ⟨oV,oW,_⟩:=jr
 replace dh:WbD _ [8] dv:=dh
 have q:=dh 8 (by decide)
 obtain ⟨_,cK,_⟩:=q
 replace cK:dv 11=.slice aa x5.length ac:=cK
 show OKS _ _ _ _ _ _ (.fl 9 .nil) dv fk
 have dP:=ct.le lJ
 have q:=SlR.cutM (R:=wFi) dP dS
 obtain ⟨qA,i9,jc,jf,jP⟩:=q
 exact zh (v:=.slice (if ac=(2:Int).toNat then aa else nA (·.add ((2:Int).toNat * 1)) aa) ah.length (ac - (2:Int).toNat)) rfl rfl rfl rfl (fun _=>zn (Runs.slc (sz:=1) (a:=2) (b:=3) rfl cK (.inl ⟨_,rfl,rfl⟩) (.inl ⟨_,rfl,rfl⟩) ZZ Zt i9 jc jf (dP).cap) (by rw [jP])) (lk _ _ _ [] (zH _) g9 ⟨rfl,rfl⟩)
 intro _ bf fm mK mf jt qj cg ib ll
 obtain ⟨oX,oY,_⟩:=jt
 replace cg:WbD _ [7,9] bf:=cg
 have q:=cg 7 (by decide)
 obtain ⟨_,cL,_⟩:=q
 replace cL:bf 10=.slice (some ⟨(bk (bf 10)),0,none⟩) 2 2:=cL
 have q:=cg 9 (by decide)
 obtain ⟨_,cM,_⟩:=q
 replace cM:bf 12=.slice (if ac=(2:Int).toNat then aa else nA (·.add ((2:Int).toNat * 1)) aa) ah.length (ac - (2:Int).toNat):=cM
 show OKS _ _ _ _ _ _ (.fl 10 .nil) bf fm
 exact oR Z (ZH (pv:=[(0,jV 1),(1,.slice (some ⟨(bk (bf 10)),0,none⟩) 2 2),(2,.slice (if ac=(2:Int).toNat then aa else nA (·.add ((2:Int).toNat * 1)) aa) ah.length (ac - (2:Int).toNat))]) (z:=[jV 0,.slice none 0 0,.slice none 0 0]) (cs:=[jV 1,.slice (some ⟨(bk (bf 10)),0,none⟩) 2 2,.slice (if ac=(2:Int).toNat then aa else nA (·.add ((2:Int).toNat * 1)) aa) ah.length (ac - (2:Int).toNat)]) Z (wAC Z (wAC cL (wAC cM wAM))) ZT wFS Z Z) (ll _ _ _ [] (zH _) ib ⟨Z,Z⟩)
 intro _ aw fq mL mg ju qk ch ic lm
 obtain ⟨oZ,o0,_⟩:=ju
 replace ch:WbD _ [3,6,7,10] aw:=ch
 have q:=ch 6 (by decide)
 obtain ⟨_,cN,_⟩:=q
 replace cN:aw 9=.agg #[jV 0,.slice (some ⟨(bk (aw 6)),0,none⟩) 2 2,.slice (if ac=(0:Int).toNat then aa else nA (·.add ((0:Int).toNat * 1)) aa) ag.length (ac - (0:Int).toNat)]:=cN
 have q:=ch 10 (by decide)
 obtain ⟨_,cO,_⟩:=q
 replace cO:aw 13=.agg #[jV 1,.slice (some ⟨(bk (aw 10)),0,none⟩) 2 2,.slice (if ac=(2:Int).toNat then aa else nA (·.add ((2:Int).toNat * 1)) aa) ah.length (ac - (2:Int).toNat)]:=cO
 show OKS _ _ _ _ _ _ (.fx 11 .nil .stop) aw fq
 refine zW (pv:=[(0,.agg #[jV 0,.slice (some ⟨(bk (aw 6)),0,none⟩) 2 2,.slice (if ac=(0:Int).toNat then aa else nA (·.add ((0:Int).toNat * 1)) aa) ag.length (ac - (0:Int).toNat)]),(1,.agg #[jV 1,.slice (some ⟨(bk (aw 10)),0,none⟩) 2 2,.slice (if ac=(2:Int).toNat then aa else nA (·.add ((2:Int).toNat * 1)) aa) ah.length (ac - (2:Int).toNat)])]) (zs:=[jV 0,.slice none 0 0,.slice none 0 0,jV 0,.slice none 0 0,.slice none 0 0]) (cs:=[jV 0,.slice (some ⟨(bk (aw 6)),0,none⟩) 2 2,.slice (if ac=(0:Int).toNat then aa else nA (·.add ((0:Int).toNat * 1)) aa) ag.length (ac - (0:Int).toNat),jV 1,.slice (some ⟨(bk (aw 10)),0,none⟩) 2 2,.slice (if ac=(2:Int).toNat then aa else nA (·.add ((2:Int).toNat * 1)) aa) ah.length (ac - (2:Int).toNat)]) Z Z Z Z Z (wAC cN (wAC cO wAM)) ZM ZJ ZT Z Z Z Z Z ic ?_
 intro m8 og ie
 exact lm _ _ _ _ (zH _) ie ⟨Z,Z⟩
 intro _ ax ft mM mh jv ql ci ig ln
 obtain ⟨o3,o5,_⟩:=jv
 replace ci:WbD _ [2,11] ax:=ci
 have q:=ci 2 (by decide)
 obtain ⟨_,cP,_⟩:=q
 replace cP:ax 5=.slice (some ⟨(bk (ax 5)),0,none⟩) 2 2:=cP
 have q:=ci 11 (by decide)
 obtain ⟨_,cQ,_⟩:=q
 replace cQ:ax 14=.slice (some ⟨(bk (ax 14)),0,none⟩) 2 2:=cQ
 show OKS _ _ _ _ _ _ (.fl 12 .nil) ax ft
 exact oR Z (ZH (pv:=[(0,jV 7),(1,.slice (some ⟨(bk (ax 5)),0,none⟩) 2 2),(2,.slice (some ⟨(bk (ax 14)),0,none⟩) 2 2)]) (z:=[jV 0,.slice none 0 0,.slice none 0 0]) (cs:=[jV 7,.slice (some ⟨(bk (ax 5)),0,none⟩) 2 2,.slice (some ⟨(bk (ax 14)),0,none⟩) 2 2]) Z (wAC Z (wAC cP (wAC cQ wAM))) Zb wGn Z Z) (ln _ _ _ [] (zH _) ig ⟨Z,Z⟩)
 intro _ lV fu mN mj jw qm pW ii lq
 obtain ⟨o6,o7,_⟩:=jw
 show OKS _ _ _ _ _ _ (.fx 13 .nil .stop) lV fu
 refine zW (pv:=[(0,jV 1),(1,jV 0)]) (zs:=[jV 0,jV 0]) (cs:=[jV 1,jV 0]) Z Z Z Z Z (wAC Z (wAC Z wAM)) zA zD zt Z Z Z Z Z ii ?_
 intro m9 oh ij
 exact lq _ _ _ _ (zH _) ij ⟨Z,Z⟩
 intro _ lW fw mO ml jx qn pX ik lu
 obtain ⟨o8,o9,_⟩:=jx
 show OKS _ _ _ _ _ _ (.fx 14 .nil .stop) lW fw
 refine zW (pv:=[(0,jV 1000),(1,jV 1150)]) (zs:=[jV 0,jV 0]) (cs:=[jV 1000,jV 1150]) Z Z Z Z Z (wAC Z (wAC Z wAM)) zA zD zt Z Z Z Z Z ik ?_
 intro n2 oq il
 exact lu _ _ _ _ (zH _) il ⟨Z,Z⟩
 intro _ lX fy mP mm jy qo pY im lv
 obtain ⟨pa,pb,_⟩:=jy
 show OKS _ _ _ _ _ _ (.fx 15 .nil .stop) lX fy
 refine zW (pv:=[(0,.bool true),(1,.bool true),(2,.bool true),(3,.bool true),(4,.bool true)]) (zs:=[.bool false,.bool false,.bool false,.bool false,.bool false]) (cs:=[.bool true,.bool true,.bool true,.bool true,.bool true]) Z Z Z Z Z (wAC Z (wAC Z (wAC Z (wAC Z (wAC Z wAM))))) ZQ yJ yS Z Z Z Z Z im ?_
 intro n3 ot io
 exact lv _ _ _ _ (zH _) io ⟨Z,Z⟩
 intro _ bt fz mQ mn jz qp di ip lw
 obtain ⟨pd,pe,_⟩:=jz
 replace di:WbD _ [15] bt:=di
 have q:=di 15 (by decide)
 obtain ⟨_,cR,_⟩:=q
 replace cR:bt 18=.slice (some ⟨(bk (bt 18)),0,none⟩) 5 5:=cR
 show OKS _ _ _ _ _ _ (.fx 16 .nil .stop) bt fz
 refine zW (pv:=[(0,.slice (some ⟨(bk (bt 18)),0,none⟩) 5 5)]) (zs:=[.slice none 0 0]) (cs:=[.slice (some ⟨(bk (bt 18)),0,none⟩) 5 5]) Z Z Z Z Z (wAC cR wAM) ZZ Zt Tryz.zeroValue47 Z Z Z Z Z ip ?_
 intro n4 ou iq
 exact lw _ _ _ _ (zH _) iq ⟨Z,Z⟩
 intro _ ay fA mR mo jA qq cj ir lx
 obtain ⟨pf,pg,_⟩:=jA
 replace cj:WbD _ [14,16] ay:=cj
 have q:=cj 14 (by decide)
 obtain ⟨_,cS,_⟩:=q
 replace cS:ay 17=.slice (some ⟨(bk (ay 17)),0,none⟩) 2 2:=cS
 have q:=cj 16 (by decide)
 obtain ⟨_,cU,_⟩:=q
 replace cU:ay 19=.slice (some ⟨(bk (ay 19)),0,none⟩) 1 1:=cU
 show OKS _ _ _ _ _ _ (.fl 17 .nil) ay fA
 exact oR Z (ZH (pv:=[(0,jV 1),(1,.slice (some ⟨(bk (ay 17)),0,none⟩) 2 2),(2,.slice (some ⟨(bk (ay 19)),0,none⟩) 1 1)]) (z:=[jV 0,.slice none 0 0,.slice none 0 0]) (cs:=[jV 1,.slice (some ⟨(bk (ay 17)),0,none⟩) 2 2,.slice (some ⟨(bk (ay 19)),0,none⟩) 1 1]) Z (wAC Z (wAC cS (wAC cU wAM))) ZT wFS Z Z) (lx _ _ _ [] (zH _) ir ⟨Z,Z⟩)
 intro _ lY fB mS mp jB qr pZ it ly
 obtain ⟨ph,pi,_⟩:=jB
 show OKS _ _ _ _ _ _ (.fx 18 .nil .stop) lY fB
 refine zW (pv:=[(0,jV 900),(1,jV 1500)]) (zs:=[jV 0,jV 0]) (cs:=[jV 900,jV 1500]) Z Z Z Z Z (wAC Z (wAC Z wAM)) zA zD zt Z Z Z Z Z it ?_
 intro n5 ov iu
 exact ly _ _ _ _ (zH _) iu ⟨Z,Z⟩
 intro _ lZ fC mT mq jC qs p6 iv lz
 obtain ⟨pm,fO,_⟩:=jC
 show OKS _ _ _ _ _ _ (.fl 19 .nil) lZ fC
 exact oM Z fO (lz _ _ _ [] (zH _) iv ⟨Z,Z⟩)
 intro _ dw fD mU mr jD lK dm iw lA
 obtain ⟨pn,po,_⟩:=jD
 replace dm:WbD _ [19] dw:=dm
 have q:=dm 19 (by decide)
 obtain ⟨_,cV,_⟩:=q
 replace cV:dw 22=.slice aa x5.length ac:=cV
 show OKS _ _ _ _ _ _ (.fl 20 .nil) dw fD
 have dR:=ct.le lK
 have q:=SlR.cutM (R:=wFi) dR dN
 obtain ⟨qB,ja,jd,jg,jQ⟩:=q
 exact zh (v:=.slice (if ac=(3:Int).toNat then aa else nA (·.add ((3:Int).toNat * 1)) aa) af.length (ac - (3:Int).toNat)) rfl rfl rfl rfl (fun _=>zn (Runs.slc (sz:=1) (a:=3) (b:=(↑(x5.length):Int)) rfl cV (.inl ⟨_,rfl,rfl⟩) (.inr ⟨rfl,rfl⟩) ZZ Zt ja jd jg (dR).cap) (by rw [jQ])) (lA _ _ _ [] (zH _) iw ⟨rfl,rfl⟩)
 intro _ bg fE mV ms jE qt cm iy lB
 obtain ⟨pp,pq,_⟩:=jE
 replace cm:WbD _ [18,20] bg:=cm
 have q:=cm 18 (by decide)
 obtain ⟨_,cW,_⟩:=q
 replace cW:bg 21=.slice (some ⟨(bk (bg 21)),0,none⟩) 2 2:=cW
 have q:=cm 20 (by decide)
 obtain ⟨_,cX,_⟩:=q
 replace cX:bg 23=.slice (if ac=(3:Int).toNat then aa else nA (·.add ((3:Int).toNat * 1)) aa) af.length (ac - (3:Int).toNat):=cX
 show OKS _ _ _ _ _ _ (.fl 21 .nil) bg fE
 exact oR Z (ZH (pv:=[(1,.slice (some ⟨(bk (bg 21)),0,none⟩) 2 2),(2,.slice (if ac=(3:Int).toNat then aa else nA (·.add ((3:Int).toNat * 1)) aa) af.length (ac - (3:Int).toNat))]) (z:=[jV 0,.slice none 0 0,.slice none 0 0]) (cs:=[jV 0,.slice (some ⟨(bk (bg 21)),0,none⟩) 2 2,.slice (if ac=(3:Int).toNat then aa else nA (·.add ((3:Int).toNat * 1)) aa) af.length (ac - (3:Int).toNat)]) Z (wAC cW (wAC cX wAM)) ZT wFS Z Z) (lB _ _ _ [] (zH _) iy ⟨Z,Z⟩)
 intro _ an fG mW mu jF qu co iz lC
 obtain ⟨pt,pu,_⟩:=jF
 replace co:WbD _ [14,16,17,18,21] an:=co
 have q:=co 17 (by decide)
 obtain ⟨_,cY,_⟩:=q
 replace cY:an 20=.agg #[jV 1,.slice (some ⟨(bk (an 17)),0,none⟩) 2 2,.slice (some ⟨(bk (an 19)),0,none⟩) 1 1]:=cY
 have q:=co 21 (by decide)
 obtain ⟨_,cZ,_⟩:=q
 replace cZ:an 24=.agg #[jV 0,.slice (some ⟨(bk (an 21)),0,none⟩) 2 2,.slice (if ac=(3:Int).toNat then aa else nA (·.add ((3:Int).toNat * 1)) aa) af.length (ac - (3:Int).toNat)]:=cZ
 show OKS _ _ _ _ _ _ (.fx 22 .nil .stop) an fG
 refine zW (pv:=[(0,.agg #[jV 1,.slice (some ⟨(bk (an 17)),0,none⟩) 2 2,.slice (some ⟨(bk (an 19)),0,none⟩) 1 1]),(1,.agg #[jV 0,.slice (some ⟨(bk (an 21)),0,none⟩) 2 2,.slice (if ac=(3:Int).toNat then aa else nA (·.add ((3:Int).toNat * 1)) aa) af.length (ac - (3:Int).toNat)])]) (zs:=[jV 0,.slice none 0 0,.slice none 0 0,jV 0,.slice none 0 0,.slice none 0 0]) (cs:=[jV 1,.slice (some ⟨(bk (an 17)),0,none⟩) 2 2,.slice (some ⟨(bk (an 19)),0,none⟩) 1 1,jV 0,.slice (some ⟨(bk (an 21)),0,none⟩) 2 2,.slice (if ac=(3:Int).toNat then aa else nA (·.add ((3:Int).toNat * 1)) aa) af.length (ac - (3:Int).toNat)]) Z Z Z Z Z (wAC cY (wAC cZ wAM)) ZM ZJ ZT Z Z Z Z Z iz ?_
 intro n7 ow iA
 exact lC _ _ _ _ (zH _) iA ⟨Z,Z⟩
 intro _ az fH mX mw jG qv cp iB lD
 obtain ⟨py,pz,_⟩:=jG
 replace cp:WbD _ [13,22] az:=cp
 have q:=cp 13 (by decide)
 obtain ⟨_,c6,_⟩:=q
 replace c6:az 16=.slice (some ⟨(bk (az 16)),0,none⟩) 2 2:=c6
 have q:=cp 22 (by decide)
 obtain ⟨_,c7,_⟩:=q
 replace c7:az 25=.slice (some ⟨(bk (az 25)),0,none⟩) 2 2:=c7
 show OKS _ _ _ _ _ _ (.fl 23 .nil) az fH
 exact oR Z (ZH (pv:=[(0,jV 3),(1,.slice (some ⟨(bk (az 16)),0,none⟩) 2 2),(2,.slice (some ⟨(bk (az 25)),0,none⟩) 2 2)]) (z:=[jV 0,.slice none 0 0,.slice none 0 0]) (cs:=[jV 3,.slice (some ⟨(bk (az 16)),0,none⟩) 2 2,.slice (some ⟨(bk (az 25)),0,none⟩) 2 2]) Z (wAC Z (wAC c6 (wAC c7 wAM))) Zb wGn Z Z) (lD _ _ _ [] (zH _) iB ⟨Z,Z⟩)
 intro _ ak fI mY mx jH qw cq iC lE
 obtain ⟨pC,pD,_⟩:=jH
 replace cq:WbD _ [2,11,12,13,22,23] ak:=cq
 have q:=cq 12 (by decide)
 obtain ⟨_,c9,_⟩:=q
 replace c9:ak 15=.agg #[jV 7,.slice (some ⟨(bk (ak 5)),0,none⟩) 2 2,.slice (some ⟨(bk (ak 14)),0,none⟩) 2 2]:=c9
 have q:=cq 23 (by decide)
 obtain ⟨_,da,_⟩:=q
 replace da:ak 26=.agg #[jV 3,.slice (some ⟨(bk (ak 16)),0,none⟩) 2 2,.slice (some ⟨(bk (ak 25)),0,none⟩) 2 2]:=da
 show OKS _ _ _ _ _ _ (.fx 24 .nil .stop) ak fI
 refine zW (pv:=[(0,.agg #[jV 7,.slice (some ⟨(bk (ak 5)),0,none⟩) 2 2,.slice (some ⟨(bk (ak 14)),0,none⟩) 2 2]),(1,.agg #[jV 3,.slice (some ⟨(bk (ak 16)),0,none⟩) 2 2,.slice (some ⟨(bk (ak 25)),0,none⟩) 2 2])]) (zs:=[jV 0,.slice none 0 0,.slice none 0 0,jV 0,.slice none 0 0,.slice none 0 0]) (cs:=[jV 7,.slice (some ⟨(bk (ak 5)),0,none⟩) 2 2,.slice (some ⟨(bk (ak 14)),0,none⟩) 2 2,jV 3,.slice (some ⟨(bk (ak 16)),0,none⟩) 2 2,.slice (some ⟨(bk (ak 25)),0,none⟩) 2 2]) Z Z Z Z Z (wAC c9 (wAC da wAM)) ZC ZE Zb Z Z Z Z Z iC ?_
 intro n8 ox iD
 exact lE _ _ _ _ (zH _) iD ⟨Z,Z⟩
 intro _ aW fJ mZ my jI qx cr iE lG
 obtain ⟨pE,pF,_⟩:=jI
 replace cr:WbD _ [0,1,24] aW:=cr
 have q:=cr 1 (by decide)
 obtain ⟨_,db,_⟩:=q
 replace db:aW 4=.agg #[.slice (some ⟨(bk (aW 3)),0,none⟩) 2 2,jV 1,jV 2,jV 100,jV 250,jV 1200]:=db
 have q:=cr 24 (by decide)
 obtain ⟨_,dd,_⟩:=q
 replace dd:aW 27=.slice (some ⟨(bk (aW 27)),0,none⟩) 2 2:=dd
 show OKS _ _ _ _ _ _ (.fl 25 .nil) aW fJ
 exact oR Z (ZH (pv:=[(0,.agg #[.slice (some ⟨(bk (aW 3)),0,none⟩) 2 2,jV 1,jV 2,jV 100,jV 250,jV 1200]),(2,.slice (some ⟨(bk (aW 27)),0,none⟩) 2 2)]) (z:=B0) (cs:=[.slice (some ⟨(bk (aW 3)),0,none⟩) 2 2,jV 1,jV 2,jV 100,jV 250,jV 1200,jV 0,.slice (some ⟨(bk (aW 27)),0,none⟩) 2 2]) Z (wAC db (wAC dd wAM)) yB wHg Z Z) (lG _ _ _ [] (zH _) iE ⟨Z,Z⟩)
 intro ae aq eS jJ dV
 obtain ⟨dM,pG,_⟩:=jJ
 intro dW bF
 replace bF:ae 3=.slice (some ⟨(bk (ae 3)),0,none⟩) 2 2/\dW=[.row (some ⟨(bk (ae 3)),0,none⟩) 2 3 1 (hM KL.encI [0,1])]:=bF
 obtain ⟨bF,rfl⟩:=bF
 intro dX bG
 replace bG:ae 4=.agg #[.slice (some ⟨(bk (ae 3)),0,none⟩) 2 2,jV 1,jV 2,jV 100,jV 250,jV 1200]/\dX=[]:=bG
 obtain ⟨bG,rfl⟩:=bG
 intro dY bH
 replace bH:ae 5=.slice (some ⟨(bk (ae 5)),0,none⟩) 2 2/\dY=[.row (some ⟨(bk (ae 5)),0,none⟩) 2 3 1 (hM KL.encI [0,1])]:=bH
 obtain ⟨bH,rfl⟩:=bH
 intro dZ bI
 replace bI:ae 6=.slice (some ⟨(bk (ae 6)),0,none⟩) 2 2/\dZ=[.row (some ⟨(bk (ae 6)),0,none⟩) 2 3 1 (hM KL.encI [1000,1100])]:=bI
 obtain ⟨bI,rfl⟩:=bI
 intro d7 bX
 replace bX:ae 7=.slice aa x5.length ac/\d7=[]:=bX
 obtain ⟨bX,rfl⟩:=bX
 intro d8 bY
 replace bY:ae 8=.slice (if ac=(0:Int).toNat then aa else nA (·.add ((0:Int).toNat * 1)) aa) ag.length (ac - (0:Int).toNat)/\d8=[]:=bY
 obtain ⟨bY,rfl⟩:=bY
 intro d9 bJ
 replace bJ:ae 9=.agg #[jV 0,.slice (some ⟨(bk (ae 6)),0,none⟩) 2 2,.slice (if ac=(0:Int).toNat then aa else nA (·.add ((0:Int).toNat * 1)) aa) ag.length (ac - (0:Int).toNat)]/\d9=[]:=bJ
 obtain ⟨bJ,rfl⟩:=bJ
 intro ea bK
 replace bK:ae 10=.slice (some ⟨(bk (ae 10)),0,none⟩) 2 2/\ea=[.row (some ⟨(bk (ae 10)),0,none⟩) 2 3 1 (hM KL.encI [900,950])]:=bK
 obtain ⟨bK,rfl⟩:=bK
 intro eb bZ
 replace bZ:ae 11=.slice aa x5.length ac/\eb=[]:=bZ
 obtain ⟨bZ,rfl⟩:=bZ
 intro ee b4
 replace b4:ae 12=.slice (if ac=(2:Int).toNat then aa else nA (·.add ((2:Int).toNat * 1)) aa) ah.length (ac - (2:Int).toNat)/\ee=[]:=b4
 obtain ⟨b4,rfl⟩:=b4
 intro eh bL
 replace bL:ae 13=.agg #[jV 1,.slice (some ⟨(bk (ae 10)),0,none⟩) 2 2,.slice (if ac=(2:Int).toNat then aa else nA (·.add ((2:Int).toNat * 1)) aa) ah.length (ac - (2:Int).toNat)]/\eh=[]:=bL
 obtain ⟨bL,rfl⟩:=bL
 intro ep ba
 replace ba:ae 14=.slice (some ⟨(bk (ae 14)),0,none⟩) 2 2/\ep=[.row (some ⟨(bk (ae 14)),0,none⟩) 2 46 3 [jV 0,.slice (some ⟨(bk (ae 6)),0,none⟩) 2 2,.slice (if ac=(0:Int).toNat then aa else nA (·.add ((0:Int).toNat * 1)) aa) ag.length (ac - (0:Int).toNat),jV 1,.slice (some ⟨(bk (ae 10)),0,none⟩) 2 2,.slice (if ac=(2:Int).toNat then aa else nA (·.add ((2:Int).toNat * 1)) aa) ah.length (ac - (2:Int).toNat)]]:=ba
 obtain ⟨ba,rfl⟩:=ba
 intro ew bn
 replace bn:ae 15=.agg #[jV 7,.slice (some ⟨(bk (ae 5)),0,none⟩) 2 2,.slice (some ⟨(bk (ae 14)),0,none⟩) 2 2]/\ew=[]:=bn
 obtain ⟨bn,rfl⟩:=bn
 intro ey bM
 replace bM:ae 16=.slice (some ⟨(bk (ae 16)),0,none⟩) 2 2/\ey=[.row (some ⟨(bk (ae 16)),0,none⟩) 2 3 1 (hM KL.encI [1,0])]:=bM
 obtain ⟨bM,rfl⟩:=bM
 intro eB bN
 replace bN:ae 17=.slice (some ⟨(bk (ae 17)),0,none⟩) 2 2/\eB=[.row (some ⟨(bk (ae 17)),0,none⟩) 2 3 1 (hM KL.encI [1000,1150])]:=bN
 obtain ⟨bN,rfl⟩:=bN
 intro eC bO
 replace bO:ae 18=.slice (some ⟨(bk (ae 18)),0,none⟩) 5 5/\eC=[.row (some ⟨(bk (ae 18)),0,none⟩) 5 4 1 (hM KL.encT [true,true,true,true,true])]:=bO
 obtain ⟨bO,rfl⟩:=bO
 intro eD bp
 replace bp:ae 19=.slice (some ⟨(bk (ae 19)),0,none⟩) 1 1/\eD=[.row (some ⟨(bk (ae 19)),0,none⟩) 1 47 1 [.slice (some ⟨(bk (ae 18)),0,none⟩) 5 5]]:=bp
 obtain ⟨bp,rfl⟩:=bp
 intro eG bq
 replace bq:ae 20=.agg #[jV 1,.slice (some ⟨(bk (ae 17)),0,none⟩) 2 2,.slice (some ⟨(bk (ae 19)),0,none⟩) 1 1]/\eG=[]:=bq
 obtain ⟨bq,rfl⟩:=bq
 intro eH bP
 replace bP:ae 21=.slice (some ⟨(bk (ae 21)),0,none⟩) 2 2/\eH=[.row (some ⟨(bk (ae 21)),0,none⟩) 2 3 1 (hM KL.encI [900,1500])]:=bP
 obtain ⟨bP,rfl⟩:=bP
 intro eI ca
 replace ca:ae 22=.slice aa x5.length ac/\eI=[]:=ca
 obtain ⟨ca,rfl⟩:=ca
 intro eJ cc
 replace cc:ae 23=.slice (if ac=(3:Int).toNat then aa else nA (·.add ((3:Int).toNat * 1)) aa) af.length (ac - (3:Int).toNat)/\eJ=[]:=cc
 obtain ⟨cc,rfl⟩:=cc
 intro eK bQ
 replace bQ:ae 24=.agg #[jV 0,.slice (some ⟨(bk (ae 21)),0,none⟩) 2 2,.slice (if ac=(3:Int).toNat then aa else nA (·.add ((3:Int).toNat * 1)) aa) af.length (ac - (3:Int).toNat)]/\eK=[]:=bQ
 obtain ⟨bQ,rfl⟩:=bQ
 intro eM a7
 replace a7:ae 25=.slice (some ⟨(bk (ae 25)),0,none⟩) 2 2/\eM=[.row (some ⟨(bk (ae 25)),0,none⟩) 2 46 3 [jV 1,.slice (some ⟨(bk (ae 17)),0,none⟩) 2 2,.slice (some ⟨(bk (ae 19)),0,none⟩) 1 1,jV 0,.slice (some ⟨(bk (ae 21)),0,none⟩) 2 2,.slice (if ac=(3:Int).toNat then aa else nA (·.add ((3:Int).toNat * 1)) aa) af.length (ac - (3:Int).toNat)]]:=a7
 obtain ⟨a7,rfl⟩:=a7
 intro eP br
 replace br:ae 26=.agg #[jV 3,.slice (some ⟨(bk (ae 16)),0,none⟩) 2 2,.slice (some ⟨(bk (ae 25)),0,none⟩) 2 2]/\eP=[]:=br
 obtain ⟨br,rfl⟩:=br
 intro eQ aY
 replace aY:ae 27=.slice (some ⟨(bk (ae 27)),0,none⟩) 2 2/\eQ=[.row (some ⟨(bk (ae 27)),0,none⟩) 2 43 3 [jV 7,.slice (some ⟨(bk (ae 5)),0,none⟩) 2 2,.slice (some ⟨(bk (ae 14)),0,none⟩) 2 2,jV 3,.slice (some ⟨(bk (ae 16)),0,none⟩) 2 2,.slice (some ⟨(bk (ae 25)),0,none⟩) 2 2]]:=aY
 obtain ⟨aY,rfl⟩:=aY
 intro eR bb
 replace bb:ae 28=.agg #[.slice (some ⟨(bk (ae 3)),0,none⟩) 2 2,jV 1,jV 2,jV 100,jV 250,jV 1200,jV 0,.slice (some ⟨(bk (ae 27)),0,none⟩) 2 2]/\eR=[]:=bb
 obtain ⟨bb,rfl⟩:=bb
 intro am
 simp only [List.nil_append,List.append_nil,List.cons_append] at am
 generalize bk (ae 3)=cD at bF bG bb am
 generalize bk (ae 5)=bi at bH bn aY am
 generalize bk (ae 6)=bx at bI bJ ba am
 generalize bk (ae 10)=bz at bK bL ba am
 generalize bk (ae 14)=bj at ba bn aY am
 generalize bk (ae 16)=bl at bM br aY am
 generalize bk (ae 17)=bA at bN bq a7 am
 generalize bk (ae 18)=bV at bO bp am
 generalize bk (ae 19)=bB at bp bq a7 am
 generalize bk (ae 21)=bC at bP bQ a7 am
 generalize bk (ae 25)=bm at a7 br aY am
 generalize bk (ae 27)=cE at aY bb am
 let B1:Res:=.row (some ⟨bj,0,none⟩) 2 46 3 [jV 0,.slice (some ⟨bx,0,none⟩) 2 2,.slice (if ac=(0:Int).toNat then aa else nA (·.add ((0:Int).toNat * 1)) aa) ag.length (ac - (0:Int).toNat),jV 1,.slice (some ⟨bz,0,none⟩) 2 2,.slice (if ac=(2:Int).toNat then aa else nA (·.add ((2:Int).toNat * 1)) aa) ah.length (ac - (2:Int).toNat)]
 let B2:Res:=.row (some ⟨bm,0,none⟩) 2 46 3 [jV 1,.slice (some ⟨bA,0,none⟩) 2 2,.slice (some ⟨bB,0,none⟩) 1 1,jV 0,.slice (some ⟨bC,0,none⟩) 2 2,.slice (if ac=(3:Int).toNat then aa else nA (·.add ((3:Int).toNat * 1)) aa) af.length (ac - (3:Int).toNat)]
 let B3:Res:=.row (some ⟨cE,0,none⟩) 2 43 3 [jV 7,.slice (some ⟨bi,0,none⟩) 2 2,.slice (some ⟨bj,0,none⟩) 2 2,jV 3,.slice (some ⟨bl,0,none⟩) 2 2,.slice (some ⟨bm,0,none⟩) 2 2]
 let B4:Res:=.row (some ⟨cD,0,none⟩) 2 3 1 (hM KL.encI [0,1])
 let B5:Res:=.row (some ⟨bl,0,none⟩) 2 3 1 (hM KL.encI [1,0])
 let B6:Res:=.row (some ⟨bi,0,none⟩) 2 3 1 (hM KL.encI [0,1])
 let B7:Res:=.row (some ⟨bC,0,none⟩) 2 3 1 (hM KL.encI [900,1500])
 let B8:Res:=.row (some ⟨bB,0,none⟩) 1 47 1 [.slice (some ⟨bV,0,none⟩) 5 5]
 let B9:Res:=.row (some ⟨bA,0,none⟩) 2 3 1 (hM KL.encI [1000,1150])
 let cC:Res:=.row (some ⟨bV,0,none⟩) 5 4 1 (hM KL.encT [true,true,true,true,true])
 let dz:Res:=.row (some ⟨bz,0,none⟩) 2 3 1 (hM KL.encI [900,950])
 have iF:sW w U eS [B4,B6,.row (some ⟨bx,0,none⟩) 2 3 1 (hM KL.encI [1000,1100]),dz,B1,B5,B9,cC,B8,B7,B2,B3,.blk b2 28 B0] aq:=am
 have de:=ct.le dV
 have q:=SlR.cutM (R:=wFi) de dQ
 obtain ⟨lL,pH,pK,pN,p7⟩:=q
 have q:=SlR.cutM (R:=wFi) de dS
 obtain ⟨lM,pI,pL,pO,p8⟩:=q
 have q:=iF.freezeR (k:=2) (n:=[1000,1100].length) rfl (wAF (f:=KL.encI) (sz:=1) (fun _=>rfl) [1000,1100]) (by decide)
 obtain ⟨eT,cu,jW,iG⟩:=q
 have iH:sW w U eT [B4,B6,dz,B1,B5,B9,cC,B8,B7,B2,B3,.blk b2 28 B0] aq:=iG
 have q:=iH.freezeR (k:=2) (n:=[900,950].length) rfl (wAF (f:=KL.encI) (sz:=1) (fun _=>rfl) [900,950]) (by decide)
 obtain ⟨dE,bR,jX,iI⟩:=q
 have iJ:sW w U dE [B4,B6,B1,B5,B9,cC,B8,B7,B2,B3,.blk b2 28 B0] aq:=iI
 have fS:=lM.le cu
 have fT:=fS.le bR
 have fU:=jW.le bR
 have fV:=lL.le cu
 have fW:=fV.le bR
 have jR:RlL dE wFe [(⟨0,[1000,1100],ag⟩:wAA),(⟨1,[900,950],ah⟩:wAA)] [jV 0,.slice (some ⟨bx,0,none⟩) 2 2,.slice (if ac=(0:Int).toNat then aa else nA (·.add ((0:Int).toNat * 1)) aa) ag.length (ac - (0:Int).toNat),jV 1,.slice (some ⟨bz,0,none⟩) 2 2,.slice (if ac=(2:Int).toNat then aa else nA (·.add ((2:Int).toNat * 1)) aa) ah.length (ac - (2:Int).toNat)]:=(RlL.cons (R:=wFe) (x:=(⟨0,[1000,1100],ag⟩:wAA)) (vs:=[jV 0,.slice (some ⟨bx,0,none⟩) 2 2,.slice (if ac=(0:Int).toNat then aa else nA (·.add ((0:Int).toNat * 1)) aa) ag.length (ac - (0:Int).toNat)]) ⟨(some ⟨bx,0,none⟩),2,(if ac=(0:Int).toNat then aa else nA (·.add ((0:Int).toNat * 1)) aa),(ac - (0:Int).toNat),rfl,fU,fW⟩ (RlL.cons (R:=wFe) (x:=(⟨1,[900,950],ah⟩:wAA)) (vs:=[jV 1,.slice (some ⟨bz,0,none⟩) 2 2,.slice (if ac=(2:Int).toNat then aa else nA (·.add ((2:Int).toNat * 1)) aa) ah.length (ac - (2:Int).toNat)]) ⟨(some ⟨bz,0,none⟩),2,(if ac=(2:Int).toNat then aa else nA (·.add ((2:Int).toNat * 1)) aa),(ac - (2:Int).toNat),rfl,jX,fT⟩ RlL.nil))
 have q:=iJ.freezeR (k:=5) (n:=[true,true,true,true,true].length) rfl (wAF (f:=KL.encT) (sz:=1) (fun _=>rfl) [true,true,true,true,true]) (by decide)
 obtain ⟨dF,dq,jY,iK⟩:=q
 have iL:sW w U dF [B4,B6,B1,B5,B9,B8,B7,B2,B3,.blk b2 28 B0] aq:=iK
 let dA:List Value:=[.slice (some ⟨bV,0,none⟩) 5 5]
 have jS:RlL dF wFi [[true,true,true,true,true]] dA:=(RlL.cons (R:=wFi) (x:=[true,true,true,true,true]) (vs:=dA) ⟨(some ⟨bV,0,none⟩),5,rfl,jY⟩ RlL.nil)
 have fY:=de.le cu
 have fZ:=fY.le bR
 have gb:=fZ.le dq
 have q:=SlR.cutM (R:=wFi) gb dN
 obtain ⟨lN,pJ,pM,pP,p9⟩:=q
 have q:=iL.freezeR (k:=4) (n:=[1000,1150].length) rfl (wAF (f:=KL.encI) (sz:=1) (fun _=>rfl) [1000,1150]) (by decide)
 obtain ⟨eU,cw,jZ,iM⟩:=q
 have iN:sW w U eU [B4,B6,B1,B5,B8,B7,B2,B3,.blk b2 28 B0] aq:=iM
 have gc:=jS.le cw
 have q:=iN.freezeRR (R:=wFi) (k:=4) rfl gc rfl (by decide)
 obtain ⟨eV,cy,j4,iO⟩:=q
 have iP:sW w U eV [B4,B6,B1,B5,B7,B2,B3,.blk b2 28 B0] aq:=iO
 have q:=iP.freezeR (k:=4) (n:=[900,1500].length) rfl (wAF (f:=KL.encI) (sz:=1) (fun _=>rfl) [900,1500]) (by decide)
 obtain ⟨dG,bS,j5,iQ⟩:=q
 have iR:sW w U dG [B4,B6,B1,B5,B2,B3,.blk b2 28 B0] aq:=iQ
 have ge:=lN.le cw
 have gf:=ge.le cy
 have gg:=gf.le bS
 have gh:=jZ.le cy
 have gi:=gh.le bS
 have gj:=j4.le bS
 have jT:RlL dG wFe [(⟨1,[1000,1150],[[true,true,true,true,true]]⟩:wAA),(⟨0,[900,1500],af⟩:wAA)] [jV 1,.slice (some ⟨bA,0,none⟩) 2 2,.slice (some ⟨bB,0,none⟩) 1 1,jV 0,.slice (some ⟨bC,0,none⟩) 2 2,.slice (if ac=(3:Int).toNat then aa else nA (·.add ((3:Int).toNat * 1)) aa) af.length (ac - (3:Int).toNat)]:=(RlL.cons (R:=wFe) (x:=(⟨1,[1000,1150],[[true,true,true,true,true]]⟩:wAA)) (vs:=[jV 1,.slice (some ⟨bA,0,none⟩) 2 2,.slice (some ⟨bB,0,none⟩) 1 1]) ⟨(some ⟨bA,0,none⟩),2,(some ⟨bB,0,none⟩),1,rfl,gi,gj⟩ (RlL.cons (R:=wFe) (x:=(⟨0,[900,1500],af⟩:wAA)) (vs:=[jV 0,.slice (some ⟨bC,0,none⟩) 2 2,.slice (if ac=(3:Int).toNat then aa else nA (·.add ((3:Int).toNat * 1)) aa) af.length (ac - (3:Int).toNat)]) ⟨(some ⟨bC,0,none⟩),2,(if ac=(3:Int).toNat then aa else nA (·.add ((3:Int).toNat * 1)) aa),(ac - (3:Int).toNat),rfl,j5,gg⟩ RlL.nil))
 have q:=iR.freezeR (k:=1) (n:=[0,1].length) rfl (wAF (f:=KL.encI) (sz:=1) (fun _=>rfl) [0,1]) (by decide)
 obtain ⟨eW,dr,j6,iS⟩:=q
 have iT:sW w U eW [B4,B1,B5,B2,B3,.blk b2 28 B0] aq:=iS
 have gm:=jR.le dq
 have gq:=gm.le cw
 have gr:=gq.le cy
 have gu:=gr.le bS
 have gv:=gu.le dr
 have q:=iT.freezeRR (R:=wFe) (k:=1) rfl gv rfl (by decide)
 obtain ⟨eX,dt,j7,iU⟩:=q
 have iV:sW w U eX [B4,B5,B2,B3,.blk b2 28 B0] aq:=iU
 have q:=iV.freezeR (k:=1) (n:=[1,0].length) rfl (wAF (f:=KL.encI) (sz:=1) (fun _=>rfl) [1,0]) (by decide)
 obtain ⟨eY,cz,j8,iW⟩:=q
 have iX:sW w U eY [B4,B2,B3,.blk b2 28 B0] aq:=iW
 have gw:=jT.le dr
 have gx:=gw.le dt
 have gy:=gx.le cz
 have q:=iX.freezeRR (R:=wFe) (k:=1) rfl gy rfl (by decide)
 obtain ⟨bU,cA,j9,iY⟩:=q
 have iZ:sW w U bU [B4,B3,.blk b2 28 B0] aq:=iY
 have gz:=j8.le cA
 have gA:=j6.le dt
 have gB:=gA.le cz
 have gC:=gB.le cA
 have gD:=j7.le cz
 have gE:=gD.le cA
 have jU:RlL bU wFF [(⟨7,[0,1],[(⟨0,[1000,1100],ag⟩:wAA),(⟨1,[900,950],ah⟩:wAA)]⟩:wAD),(⟨3,[1,0],[(⟨1,[1000,1150],[[true,true,true,true,true]]⟩:wAA),(⟨0,[900,1500],af⟩:wAA)]⟩:wAD)] [jV 7,.slice (some ⟨bi,0,none⟩) 2 2,.slice (some ⟨bj,0,none⟩) 2 2,jV 3,.slice (some ⟨bl,0,none⟩) 2 2,.slice (some ⟨bm,0,none⟩) 2 2]:=(RlL.cons (R:=wFF) (x:=(⟨7,[0,1],[(⟨0,[1000,1100],ag⟩:wAA),(⟨1,[900,950],ah⟩:wAA)]⟩:wAD)) (vs:=[jV 7,.slice (some ⟨bi,0,none⟩) 2 2,.slice (some ⟨bj,0,none⟩) 2 2]) ⟨(some ⟨bi,0,none⟩),2,(some ⟨bj,0,none⟩),2,rfl,gC,gE⟩ (RlL.cons (R:=wFF) (x:=(⟨3,[1,0],[(⟨1,[1000,1150],[[true,true,true,true,true]]⟩:wAA),(⟨0,[900,1500],af⟩:wAA)]⟩:wAD)) (vs:=[jV 3,.slice (some ⟨bl,0,none⟩) 2 2,.slice (some ⟨bm,0,none⟩) 2 2]) ⟨(some ⟨bl,0,none⟩),2,(some ⟨bm,0,none⟩),2,rfl,gz,j9⟩ RlL.nil))
 show OKS _ _ _ _ _ _ (.fx 26 .nil .stop) ae aq
 let dB:List Value:=[.slice (some ⟨cD,0,none⟩) 2 2,jV 1,jV 2,jV 100,jV 250,jV 1200,jV 0,.slice (some ⟨cE,0,none⟩) 2 2]
 refine zu (j:=2) (vs:=dB) Z Z Z Z iZ Z dM bb Z ZL (zC Z) Z Z Z ?_
 intro fK i6
 have i7:sW w U bU [B4,B3,.blk b2 28 dB] fK:=i6
 refine zg ?_
 cases jM
 exact zI ⟨Z,⟨bU,(some ⟨cD,0,none⟩),2,(some ⟨cE,0,none⟩),2,[jV 7,.slice (some ⟨bi,0,none⟩) 2 2,.slice (some ⟨bj,0,none⟩) 2 2,jV 3,.slice (some ⟨bl,0,none⟩) 2 2,.slice (some ⟨bm,0,none⟩) 2 2],dM,(((((((((((lH.trans dV).trans cu).trans bR).trans dq).trans cw).trans cy).trans bS).trans dr).trans dt).trans cz).trans cA),i7,jU⟩⟩
 rintro qD n9 ⟨eZ,bu,bD,bv,bE,bW,fP,qy,dT,gF⟩
 refine zO ?_
 cases dU
 let dC:List Value:=[.slice bu dn.length bD,jV 1,jV 2,jV 100,jV 250,jV 1200,jV 0,.slice bv dp.length bE]
 exact ⟨rfl,_,(wFk (v:=.agg dC.toArray) ⟨⟨_,fP,(wEv Zq ZL (dT.blkAt (k:=2) rfl) (vs:=dC) rfl rfl)⟩,trivial⟩),eZ,_,(dT.pick [0,1] _ (by decide) rfl),bu,bD,bv,bE,bW,rfl,rfl,gF⟩
end Go.Proofs.YtnbcoenjobdplaaGreat
namespace Go.Proofs.YtnbcoenjobdplaaGreat
open Go.KL
set_option maxHeartbeats 4000000
theorem wGs (p0:wDY) (ag:Nat) (ap:Option Addr) (au:Nat) (aq:Option Addr) (av:Nat) (af:Option Addr) (ah:Nat) (p1:Int) (w:World) (U:PHeap) (hS:St0 w U [.blk ag 130 [.slice ap p0.Race.Rules.Classes.length au,jV p0.Race.Rules.Each,jV p0.Race.Rules.Laps,jV p0.Race.Rules.Spare,jV p0.Race.Rules.Loop,jV p0.Race.Rules.Unused,jV p0.Race.Start,.slice aq p0.Race.Teams.length av,.slice af p0.after.length ah]]) (co:Sl U 1 ap au p0.Race.Rules.Classes.length (hM KL.encI p0.Race.Rules.Classes)) (cp:SlR U wFF aq av p0.Race.Teams) (bR:SlR U wDT af ah p0.after) {r:(List Int)} (hm:wDv p0 p1=some r):Gv Tryz.prog 68 [.pointer (some ⟨ag,0,none⟩),jV p1] w (wBU w [.blk ag 130 [.slice ap p0.Race.Rules.Classes.length au,jV p0.Race.Rules.Each,jV p0.Race.Rules.Laps,jV p0.Race.Rules.Spare,jV p0.Race.Rules.Loop,jV p0.Race.Rules.Unused,jV p0.Race.Start,.slice aq p0.Race.Teams.length av,.slice af p0.after.length ah]] U (fun U_ L_ v=>∃ (A0:Option Addr) (c0:Nat),v=.slice A0 r.length c0/\L_=[.row A0 c0 3 1 (hM KL.encI r),.blk ag 130 [.slice ap p0.Race.Rules.Classes.length au,jV p0.Race.Rules.Each,jV p0.Race.Rules.Laps,jV p0.Race.Rules.Spare,jV p0.Race.Rules.Loop,jV p0.Race.Rules.Unused,jV p0.Race.Start,.slice aq p0.Race.Teams.length av,.slice af p0.after.length ah]])):=by
 unfold wDv at hm
 refine Gv.of Tryz.func68 Z Tryz.ntmps68 Tryz.results68 Z (sR fL1 Z (oA Z Z (eN (sR fL1 Z (oA Z Z (eN (zG (sR fL9 Z (oM Z Z (oR Z (ZX Z Z) (oR Z (zJ Z Z Zh Z Zk) (oL Z (hS.ldB (j:=0) Z Z Z Zy (v:=.slice af p0.after.length ah) Z) (oM Z Z (bnK hm fun x2 h3 bV=>?_))))))))))))))
 have q:=bR.el (wAR h3)
 obtain ⟨b5,cd,ct,bK,aZ,ca⟩:=q
 obtain ⟨bf,bg,rfl,bF⟩:=ca
 replace aZ:Cl U b5 (cd + p1.toNat * 1) [.slice bf x2.length bg]:=aZ
 refine oR Z (yG Z Z bK Z zq zS (wEK h3) (wET h3)) (oL Z (hS.ldC (f:=0) aZ (v:=.slice bf x2.length bg) Z Z zc Z) (oR Z (za Z Z zA) (oM Z Z (eN (zT (bnK bV fun cy bS bU=>?_))))))
 have q:=wAs bS
 obtain ⟨ba,bT⟩:=q
 replace ba:=zF ba
 let B0:Res:=.blk ag 130 [.slice ap p0.Race.Rules.Classes.length au,jV p0.Race.Rules.Each,jV p0.Race.Rules.Laps,jV p0.Race.Rules.Spare,jV p0.Race.Rules.Loop,jV p0.Race.Rules.Unused,jV p0.Race.Start,.slice aq p0.Race.Teams.length av,.slice af p0.after.length ah]
 refine CK.forN' (fun an ao σ_ w_=>∃ (U_:PHeap) (aj:Option Addr) (ak:Nat),σ_ 16=jV (↑an:Int)/\σ_ 0=.pointer (some ⟨ag,0,none⟩)/\σ_ 5=.slice aj ao.length ak/\σ_ 14=.slice bf x2.length bg/\σ_ 15=jV (↑x2.length:Int)/\PHeap.Le U U_/\SW w [B0] U U_ [B0,.row aj ak 3 1 (hM KL.encI ao)] w_) bT ?_ ?_ ?_
 have bM:=hS.nilrow 3 1
 exact ⟨U,none,0,rfl,rfl,rfl,rfl,rfl,(zH _),(bM.pick [1,0] _ (by decide) rfl)⟩
 rintro an ao cw cz cg a8 ⟨aw,aj,ak,am,az,bp,aW,aX,bb,ax⟩ cc
 have bm:Hid ((↑an:Int) < (↑x2.length:Int)):=zF (wAo a8)
 replace a8:=zF a8
 have a7:Hid (w64 ((↑an:Int) + 1)=(↑(an + 1):Int)):=zF (by have h1:=ba.out;have h2:=bm.out;rw [wAT] <;> omega)
 refine sR fL1 Z (oR Z (zU Z am aX) (eN (zG (cT Z bm (kN (zG (zT (sR fL5 Z (oM Z am (bnK cc fun ai bq bW=>?_))))))))))
 have bG:=bF.le bb
 have q:=bG.el (fun _=>rfl) (wAR bq)
 obtain ⟨ci,cr,bJ,bL⟩:=q
 refine oR Z (zo Z aW bJ am zA zD (wAj bq)) (oL Z (ax.ldC (f:=0) bL (v:=jV ai) Z Z zP Z) (oA Z Z (oA Z Z (eN (sR wMj Z (oM Z Z (oR Z (zn (zX Z Z Z) (congrArg (jV) a7.out)) (oM Z az (oR Z (ZX Z Z) (oR Z (zJ Z Z Zh Z ZL) (oR Z (zJ Z Z ze Z ZG) (oR Z (zJ Z Z zy Z zD) (oL Z (ax.ldB (j:=0) Z Z Z zP (v:=jV p0.Race.Rules.Laps) Z) (bnK bW fun cu bH bX=>oR Z (Runs.rem Z Z Z bH) (oR Z (yF Z Z Z) (eN (ifc bX ?_ ?_)))))))))))))))))
 intro ay bY
 refine cT Z ay (rR (.fl 0 (.fl 1 (.fx 2 gBz .stop))) Z (oM Z bp (oM Z Z (zW (pv:=[(0,jV ai)]) (zs:=[jV 0]) (cs:=[jV ai]) Z Z Z Z Z (wAC Z wAM) zA zD zt Z Z Z Z Z ax ?_))))
 intro bv bz bN
 let B1:Res:=.row (some ⟨bz,0,none⟩) 1 3 1 (hM KL.encI [ai])
 have br:SW w [B0] U aw [B1,B0,.row aj ak 3 1 (hM KL.encI ao)] bv:=bN
 refine bnK bY fun bs bI bZ=>Zs (j:=2) (enc:=KL.encI) (xs:=ao) (ys:=[ai]) (zs:=bs) rfl rfl rfl rfl rfl Zi wFA rfl rfl rfl rfl rfl rfl br rfl rfl rfl (br.srcR (j:=0) rfl (by decide) (wAF (f:=KL.encI) (sz:=1) (fun _=>rfl) [ai])) (fun _=>rfl) (fun _=>rfl) bI rfl ?_
 intro bi bn bw bO
 have bP:SW w [B0] U aw [B1,B0,.row bi bn 3 1 (hM KL.encI bs)] bw:=bO
 refine oA Z Z (zg (zb (zI (rR fL2 Z (oR Z (zn (zX Z am Z) (congrArg (jV) a7.out)) (oM Z Z (zg ?_)))))))
 cases bZ
 exact zI ⟨rfl,⟨aw,bi,bn,rfl,az,rfl,aW,aX,bb,(bP.pick [1,2] _ (by decide) rfl)⟩⟩
 intro ay b4
 refine cF Z ay (ZV (zb (zI (rR fL2 Z (oR Z (zn (zX Z am Z) (congrArg (jV) a7.out)) (oM Z Z (zg ?_)))))))
 cases b4
 exact zI ⟨Z,⟨aw,aj,ak,Z,az,bp,aW,aX,bb,ax⟩⟩
 rintro cA ch ⟨bu,bt,bB,bE,cj,bC,cm,bD,cq,bQ⟩
 have bA:Hid (¬ ((↑(((↑x2.length:Int):Int) - 0).toNat:Int) < (↑x2.length:Int))):=zF (wAa)
 refine sR fL1 Z (oR Z (zU Z bE bD) (eN (zG (cF Z bA (ZI (zY (zY (ZD (zI (sR fL2 Z (oM Z bC (oA Z Z (eN (zO ?_))))))))))))))
 have hE:=nB bU;first | subst r | cases hE
 exact ⟨rfl,_,(zr rfl),bu,_,(bQ.pick [1,0] _ (by decide) rfl),bt,bB,rfl,rfl⟩
theorem wIo (p0:wAI) (aY:Option Addr) (aZ:Nat) (ak:Option Addr) (am:Nat) (w:World) (U:PHeap) (hS:St0 w U []) (dg:Sl U 1 aY aZ p0.Rules.Classes.length (hM KL.encI p0.Rules.Classes)) (dh:SlR U wFF ak am p0.Teams) {r:(List (List Int)) × Int} (hm:wFR p0=some r):Gv Tryz.prog 37 [.agg #[.slice aY p0.Rules.Classes.length aZ,jV p0.Rules.Each,jV p0.Rules.Laps,jV p0.Rules.Spare,jV p0.Rules.Loop,jV p0.Rules.Unused,jV p0.Start,.slice ak p0.Teams.length am]] w (wBU w [] U (fun U_ L_ v=>∃ (A0:Option Addr) (c0:Nat) (bD:List Value),v=.tuple #[.slice A0 r.1.length c0,jV r.2]/\L_=[.row A0 c0 23 1 bD]/\RlL U_ wDT r.1 bD)):=by
 unfold wFR at hm
 refine Gv.of Tryz.func37 Z Tryz.ntmps37 Tryz.results37 Z (sR gCg Z ?_)
 let B0:List Value:=[.slice aY p0.Rules.Classes.length aZ,jV p0.Rules.Each,jV p0.Rules.Laps,jV p0.Rules.Spare,jV p0.Rules.Loop,jV p0.Rules.Unused,jV p0.Start,.slice ak p0.Teams.length am]
 refine ZS (cs:=B0) rfl rfl rfl rfl rfl rfl (by rfl) hS ?_
 intro W1 b2 bL
 refine oA Z Z (oA Z Z (eN (sR (.fl 0 (.fx 1 (wFz (.nil)) .stop)) Z (oL Z (bL.ldBA (j:=0) Z Z Z Zq ZL (vs:=B0) Z Z) ?_))))
 have q:=bnd hm
 obtain ⟨⟨x5,x6⟩,h7,ao⟩:=q
 try dsimp only at ao
 refine zL 0 Z Z Z Z (zK Z Z Tryz.call30 (zB Z zM) Z) bL (fun hs=>wEY p0 aY aZ ak am W1 U hs dg dh h7) (.inr Z) ?_
 rintro U9 dF dT bb dP bJ bI
 rcases x5 with _ | ae
 try dsimp only at ao
 obtain ⟨rfl,rfl⟩:=bI
 have bi:sW w U U9 [.blk b2 28 B0] bb:=bJ
 refine oM Z Z (oR Z (zx Z Z (v:=.pointer none) Z) (oR Z (zx Z Z (v:=jV x6) Z) (oA Z Z (oA Z Z (eN (zG (sR fL2 Z (oM Z Z (oR Z (ZW Z Z Z) (eN (ifc ao ?_ ?_)))))))))))
 intro bf dw
 refine zm (zw (fun h=>h bf.out)) (kN (sR fL1 Z (oA Z Z (eN (zG (sR fL4 Z (oR Z (zJ Z Z ze Z ZU) (oL Z (bi.ldB (j:=0) Z Z Z Zn (v:=.slice ak p0.Teams.length am) Z) (oR Z (za Z Z ZC) (oM Z Z (eN (zT ?_))))))))))))
 have q:=bnd dw
 obtain ⟨⟨⟩,dn,bM⟩:=q
 try dsimp only at bM
 have q:=wAs dn
 obtain ⟨bp,dp⟩:=q
 replace bp:=zF bp
 refine CK.forN' (fun ap _ σ_ w_=>∃ (U_:PHeap),σ_ 19=jV (↑ap:Int)/\σ_ 4=.pointer none/\σ_ 6=.slice none 0 0/\σ_ 18=jV (↑p0.Teams.length:Int)/\PHeap.Le U9 U_/\sW w U U_ [.blk b2 28 B0] w_) dp ?_ ?_ ?_
 exact ⟨U9,Z,Z,Z,Z,(zH _),bi⟩
 rintro ap ⟨⟩ dW d7 dJ bm ⟨dH,bH,cq,cr,ct,dR,dN⟩ bO
 try dsimp only at bO
 have bC:Hid ((↑ap:Int) < (↑p0.Teams.length:Int)):=zF (wAo bm)
 replace bm:=zF bm
 have dO:Hid (w64 ((↑ap:Int) + 1)=(↑(ap + 1):Int)):=zF (by have h1:=bp.out;have h2:=bC.out;rw [wAT] <;> omega)
 refine sR fL1 Z (oR Z (zU Z bH ct) (eN (zG (cT Z bC (kN (zG (zT (sR fL2 Z (oM Z bH (oA Z Z (eN (rR (wDE gCm) Z (oM Z cr (oM Z cq (oM Z Z ?_)))))))))))))))
 cases bO
 rintro d8 dK ⟨bX,cz,dM,cu,cw,dS,da⟩
 have cj:Hid (¬ ((↑(((↑p0.Teams.length:Int):Int) - 0).toNat:Int) < (↑p0.Teams.length:Int))):=zF (wAa)
 refine sR fL1 Z (oR Z (zU Z cz cw) (eN (zG (cF Z cj (ZI (zY (zY (ZD (zI (sR fL3 Z (oM Z cu (oA Z Z (oA Z Z (eN (zO ?_)))))))))))))))
 have db:=da.nilrow 23 1
 cases bM
 exact ⟨rfl,_,(wFc rfl rfl),bX,_,(db.pick [0] _ (by decide) rfl),none,0,[],rfl,rfl,RlL.nil⟩
 intro bf dx
 refine cT Z bf (sR fL3 Z (oM Z Z (oA Z Z (oA Z Z (eN (zO (zR ?_)))))))
 have dd:=bi.nilrow 23 1
 cases dx
 exact ⟨rfl,_,(wFc rfl rfl),U9,_,(dd.pick [0] _ (by decide) rfl),none,0,[],rfl,rfl,RlL.nil⟩
 try dsimp only at ao
 obtain ⟨aw,bs,bA,bt,bB,a7,be,ci,rfl,rfl,cN,cO,cP⟩:=bI
 let B1:Res:=.blk aw 130 [.slice bs ae.Race.Rules.Classes.length bA,jV ae.Race.Rules.Each,jV ae.Race.Rules.Laps,jV ae.Race.Rules.Spare,jV ae.Race.Rules.Loop,jV ae.Race.Rules.Unused,jV ae.Race.Start,.slice bt ae.Race.Teams.length bB,.slice a7 ae.after.length be]
 have bj:sW w U U9 [B1,.row a7 be 23 1 ci,.blk b2 28 B0] bb:=bJ
 refine oM Z Z (oR Z (zx Z Z (v:=.pointer (some ⟨aw,0,none⟩)) Z) (oR Z (zx Z Z (v:=jV x6) Z) (oA Z Z (oA Z Z (eN (zG (sR fL2 Z (oM Z Z (oR Z (ZW Z Z Z) (eN (ifc ao ?_ ?_)))))))))))
 intro bg dy
 refine zm (zw (fun h=>h bg.out)) (kN (sR fL1 Z (oA Z Z (eN (zG (sR fL4 Z (oR Z (zJ Z Z ze Z ZU) (oL Z (bj.ldB (j:=2) Z Z Z Zn (v:=.slice ak p0.Teams.length am) Z) (oR Z (za Z Z ZC) (oM Z Z (eN (zT ?_))))))))))))
 have q:=bj.freezeRR (R:=wDT) (k:=1) rfl cP rfl (by decide)
 obtain ⟨ba,bR,dB,de⟩:=q
 have df:sW w U ba [B1,.blk b2 28 B0] bb:=de
 refine bnK dy fun dX di dr=>?_
 have q:=wAs di
 obtain ⟨bn,dm⟩:=q
 replace bn:=zF bn
 refine CK.forN' (fun aj aW σ_ w_=>∃ (U_:PHeap) (au:Option Addr) (ay:Nat) (az:List Value),σ_ 19=jV (↑aj:Int)/\σ_ 4=.pointer (some ⟨aw,0,none⟩)/\σ_ 6=.slice au aW.length ay/\σ_ 18=jV (↑p0.Teams.length:Int)/\PHeap.Le ba U_/\sW w U U_ [B1,.blk b2 28 B0,.row au ay 23 1 az] w_/\RlL U_ wDT aW az) dm ?_ ?_ ?_
 have cR:=df.nilrow 23 1
 exact ⟨ba,none,0,[],rfl,rfl,rfl,rfl,(zH _),(cR.pick [1,2,0] _ (by decide) rfl),RlL.nil⟩
 rintro aj aW dV dY bZ bl ⟨bU,au,ay,az,bh,bF,cm,bG,aX,cS,cA⟩ dC
 have bx:Hid ((↑aj:Int) < (↑p0.Teams.length:Int)):=zF (wAo bl)
 replace bl:=zF bl
 have dq:Hid (w64 ((↑aj:Int) + 1)=(↑(aj + 1):Int)):=zF (by have h1:=bn.out;have h2:=bx.out;rw [wAT] <;> omega)
 refine sR fL1 Z (oR Z (zU Z bh bG) (eN (zG (cT Z bx (kN (zG (zT (sR fL2 Z (oM Z bh (oA Z Z (eN (rR (wDE gCm) Z (oM Z cm (oM Z bF (oM Z Z ?_)))))))))))))))
 have cC:=cN.le bR
 have cD:=cC.le aX
 have cE:=cO.le bR
 have cG:=cE.le aX
 have cH:=dB.le aX
 refine bnK dC fun ag cI dt=>zL 1 Z Z Z Z (zK Z Z Tryz.call68 (zB Z (zB Z zM)) Z) cS (fun hs=>wGs ae aw bs bA bt bB a7 be (↑aj:Int) bZ bU hs cD cG cH cI) (.inl Z) ?_
 rintro bV dG dU bv bP cU ⟨aq,ax,rfl,rfl⟩
 let B2:Res:=.row au ay 23 1 az
 have cV:sW w U bV [.row aq ax 3 1 (hM KL.encI ag),B1,.blk b2 28 B0,B2] bv:=cU
 have q:=cV.freezeR (k:=0) (n:=ag.length) rfl (wAF (f:=KL.encI) (sz:=1) (fun _=>rfl) ag) (by decide)
 obtain ⟨an,bQ,dA,cX⟩:=q
 have cY:sW w U an [B1,.blk b2 28 B0,B2] bv:=cX
 let B3:List Value:=[.slice aq ag.length ax]
 refine zW (pv:=[(0,.slice aq ag.length ax)]) (zs:=[.slice none 0 0]) (cs:=B3) Z Z Z Z Z (wAC Z wAM) zq zS yh Z Z Z Z Z cY ?_
 intro b4 cc cW
 have bN:RlL an wDT [ag] B3:=(RlL.cons (R:=wDT) (x:=ag) (vs:=B3) ⟨aq,ax,rfl,dA⟩ RlL.nil)
 let B4:Res:=.row (some ⟨cc,0,none⟩) 1 23 1 B3
 have bK:sW w U an [B4,B1,.blk b2 28 B0,B2] b4:=cW
 refine bnK dt fun dD cJ du=>?_
 have cK:=cA.le bP
 have cL:=cK.le bQ
 refine OKS.appendR (R:=wDT) (j:=3) (xs:=aW) (ys:=[ag]) (zs:=dD) rfl rfl rfl rfl rfl Tryz.underlying32 wKa rfl rfl rfl rfl rfl rfl rfl bK rfl rfl rfl cL bN (bK.srcR (j:=0) rfl (by decide) (RlL.len bN)) cJ rfl ?_
 intro br bz bE ca cZ dz
 have c6:sW w U an [B4,B1,.blk b2 28 B0,.row br bz 23 1 bE] ca:=cZ
 refine oA Z Z (zg (zb (zI (rR fL2 Z (oR Z (zn (zX Z bh Z) (congrArg (jV) dq.out)) (oM Z Z (zg ?_)))))))
 cases du
 exact zI ⟨rfl,⟨an,br,bz,bE,rfl,bF,rfl,bG,((aX.trans bP).trans bQ),(c6.pick [1,2,3] _ (by decide) rfl),dz⟩⟩
 rintro dZ dI ⟨bW,bT,cd,cg,cy,dL,co,cp,dQ,c7,cM⟩
 have ch:Hid (¬ ((↑(((↑p0.Teams.length:Int):Int) - 0).toNat:Int) < (↑p0.Teams.length:Int))):=zF (wAa)
 refine sR fL1 Z (oR Z (zU Z cy cp) (eN (zG (cF Z ch (ZI (zY (zY (ZD (zI (sR fL3 Z (oM Z co (oA Z Z (oA Z Z (eN (zO ?_)))))))))))))))
 cases dr
 exact ⟨rfl,_,(wFc rfl rfl),bW,_,(c7.pick [2] _ (by decide) rfl),bT,cd,cg,rfl,rfl,cM⟩
 intro bg dv
 refine cT Z bg (sR fL3 Z (oM Z Z (oA Z Z (oA Z Z (eN (zO (zR ?_)))))))
 have c9:=bj.nilrow 23 1
 cases dv
 exact ⟨rfl,_,(wFc rfl rfl),U9,_,(c9.pick [0] _ (by decide) rfl),none,0,[],rfl,rfl,RlL.nil⟩
theorem wIR (p0:wAI) (bt:Option Addr) (bu:Nat) (aX:Option Addr) (aY:Nat) (w:World) (U:PHeap) (hS:St0 w U []) (cZ:Sl U 1 bt bu p0.Rules.Classes.length (hM KL.encI p0.Rules.Classes)) (c6:SlR U wFF aX aY p0.Teams) {r:(List (List Int)) × Int} (hm:wEy p0=some r):Gv Tryz.prog 39 [.agg #[.slice bt p0.Rules.Classes.length bu,jV p0.Rules.Each,jV p0.Rules.Laps,jV p0.Rules.Spare,jV p0.Rules.Loop,jV p0.Rules.Unused,jV p0.Start,.slice aX p0.Teams.length aY]] w (wBU w [] U (fun U_ L_ v=>∃ (A0:Option Addr) (c0:Nat) (dd:List Hd),v=.tuple #[.slice A0 r.1.length c0,jV r.2]/\L_=[.row A0 c0 23 1 (hM wEX dd),inn 3 1 KL.encI dd r.1])):=by
 unfold wEy at hm
 refine Gv.of Tryz.func39 Z Tryz.ntmps39 Tryz.results39 Z (sR gCg Z ?_)
 let B0:List Value:=[.slice bt p0.Rules.Classes.length bu,jV p0.Rules.Each,jV p0.Rules.Laps,jV p0.Rules.Spare,jV p0.Rules.Loop,jV p0.Rules.Unused,jV p0.Start,.slice aX p0.Teams.length aY]
 refine ZS (cs:=B0) rfl rfl rfl rfl rfl rfl (by rfl) hS ?_
 intro W1 b2 cW
 refine oA Z Z (oA Z Z (eN (zG (sR gCh Z (oL Z (cW.ldBA (j:=0) Z Z Z Zq ZL (vs:=B0) Z Z) (bnK hm fun x5 h6 fT=>zL 0 Z Z Z Z (zK Z Z Tryz.call65 (zB Z zM) Z) cW (fun hs=>wGq p0 bt bu aX aY W1 U hs cZ c6 h6) (.inr Z) ?_))))))
 rintro U8 L9 gJ ci df ep ⟨rfl,rfl⟩
 have bQ:sW w U U8 [.blk b2 28 B0] ci:=ep
 refine oA Z Z (eN (sR fL2 Z (oM Z Z (oR Z (ZW Z Z Z) (eN (ifc fT ?_ ?_))))))
 intro bG fC
 refine zm (zw (fun h=>h bG.out)) (kN (sR (wDE gBz) Z (oR Z (zJ Z Z ze Z ZU) (oL Z (bQ.ldB (j:=0) Z Z Z Zn (v:=.slice aX p0.Teams.length aY) Z) (oR Z (za Z Z ZC) (bnK fC fun ao cP fJ=>OKS.makeSliceN Z Z Z Z Z (wDF zq) wKa Z Z Z Z Z cP bQ ?_))))))
 intro cm ax eH
 let B1:Res:=.row (some ⟨ax,0,none⟩) ao.length 23 1 (hM wEX (nL ao.length (⟨none,0,0⟩:Hd)))
 have eW:sW w U U8 [B1,.blk b2 28 B0] cm:=eH
 have eR:=eW.innMade 3 1 KL.encI cP
 have cV:sW w U U8 [inn 3 1 KL.encI (nL ao.length (⟨none,0,0⟩:Hd)) ao,B1,.blk b2 28 B0] cm:=eR
 refine oA Z Z (eN (zG (sR fL4 Z (oR Z (zJ Z Z ze Z ZU) (oL Z (cV.ldB (j:=2) Z Z Z Zn (v:=.slice aX p0.Teams.length aY) Z) (oR Z (za Z Z ZC) (oM Z Z (eN (zT (bnK fJ fun gU fh fR=>?_))))))))))
 have q:=wAs fh
 obtain ⟨bV,fj⟩:=q
 replace bV:=zF bV
 refine CK.forN' (fun aa br σ_ w_=>∃ (U_:PHeap) (bg:List Hd),σ_ 23=jV (↑aa:Int)/\σ_ 1=.pointer (some ⟨b2,0,none⟩)/\σ_ 5=.slice (some ⟨ax,0,none⟩) br.length ao.length/\σ_ 21=.slice aX p0.Teams.length aY/\σ_ 22=jV (↑p0.Teams.length:Int)/\PHeap.Le U8 U_/\sW w U U_ [.blk b2 28 B0,.row (some ⟨ax,0,none⟩) ao.length 23 1 (hM wEX bg),inn 3 1 KL.encI bg br] w_) fj ?_ ?_ ?_
 exact ⟨U8,(nL ao.length (⟨none,0,0⟩:Hd)),rfl,rfl,rfl,rfl,rfl,(zH _),(cV.pick [2,1,0] _ (by decide) rfl)⟩
 rintro aa br gQ gZ gu bT ⟨bp,bg,bA,dK,dL,cL,cM,bW,cX⟩ fZ
 have cq:Hid ((↑aa:Int) < (↑p0.Teams.length:Int)):=zF (wAo bT)
 replace bT:=zF bT
 have fz:Hid (w64 ((↑aa:Int) + 1)=(↑(aa + 1):Int)):=zF (by have h1:=bV.out;have h2:=cq.out;rw [wAT] <;> omega)
 refine sR fL1 Z (oR Z (zU Z bA cM) (eN (zG (cT Z cq (kN (zG (zT (sR (wDE gCi) Z (oM Z bA (bnK fZ fun am cQ fS=>?_))))))))))
 have dX:=c6.le df
 have dY:=dX.le bW
 have q:=dY.el (wAR cQ)
 obtain ⟨dy,ge,gM,eb,bP,fV⟩:=q
 obtain ⟨bB,bC,bl,bm,rfl,dZ,d7⟩:=fV
 replace bP:Cl bp dy (ge + aa * 3) [jV am.Bib,.slice bB am.Classes.length bC,.slice bl am.Legs.length bm]:=bP
 refine oR Z (zo Z cL eb bA ZC ZE (wAj cQ)) (oL Z (cX.ldCA (f:=0) bP Z Z yC ZE (us:=[jV am.Bib,.slice bB am.Classes.length bC,.slice bl am.Legs.length bm]) Z Z) ?_)
 let B2:List Value:=[jV 0,.slice none 0 0,.slice none 0 0]
 refine zz (cs:=B2) Z Z Z Z Z Zb Z cX ?_
 intro gv an fb
 refine oA Z Z ?_
 let B3:List Value:=[jV am.Bib,.slice bB am.Classes.length bC,.slice bl am.Legs.length bm]
 refine zu (j:=0) (vs:=B3) Z Z Z Z fb Z Z Z Z ZE (zC Z) Z Z Z ?_
 intro dt fc
 let B4:Res:=.row (some ⟨ax,0,none⟩) ao.length 23 1 (hM wEX bg)
 have fd:sW w U bp [.blk an 43 B3,.blk b2 28 B0,B4,inn 3 1 KL.encI bg br] dt:=fc
 refine eN (sR (.fx 0 .nil .stop) Z (zz (cs:=hM KL.encI (Arr.fill 8 0).l) Z Z Z Z Z Tryz.zeroValue143 Z fd ?_))
 intro du aq fe
 have cY:sW w U bp [.blk aq 143 (hM KL.encI (Arr.fill 8 0).l),.blk an 43 B3,.blk b2 28 B0,B4,inn 3 1 KL.encI bg br] du:=fe
 refine eN (sR fL4 Z (oR Z (zJ Z Z zk Z Zd) (oL Z (cY.ldB (j:=1) Z Z Z yE (v:=.slice bl am.Legs.length bm) Z) (oR Z (za Z Z ZM) (oM Z Z (eN (zT ?_)))))))
 have q:=bnd fS
 obtain ⟨⟨gS,gT⟩,ff,db⟩:=q
 try dsimp only at db
 have q:=wAs ff
 obtain ⟨bU,fg⟩:=q
 replace bU:=zF bU
 refine CK.forN' (fun au (ae,aj) σ_ w_=>∃ (U_:PHeap) (af:List Hd),σ_ 31=jV (↑au:Int)/\σ_ 1=.pointer (some ⟨b2,0,none⟩)/\σ_ 5=.slice (some ⟨ax,0,none⟩) aj.length ao.length/\σ_ 6=jV (↑aa:Int)/\σ_ 7=.pointer (some ⟨an,0,none⟩)/\σ_ 8=.pointer (some ⟨aq,0,none⟩)/\σ_ 21=.slice aX p0.Teams.length aY/\σ_ 22=jV (↑p0.Teams.length:Int)/\σ_ 23=jV (↑aa:Int)/\σ_ 29=.slice bl am.Legs.length bm/\σ_ 30=jV (↑am.Legs.length:Int)/\PHeap.Le bp U_/\sW w U U_ [.blk aq 143 (hM KL.encI ae.l),.blk an 43 B3,.blk b2 28 B0,.row (some ⟨ax,0,none⟩) ao.length 23 1 (hM wEX af),inn 3 1 KL.encI af aj] w_) fg ?_ ?_ ?_
 exact ⟨bp,bg,Z,dK,dL,Z,Z,Z,cL,cM,bA,Z,Z,(zH _),cY⟩
 rintro au ⟨ae,aj⟩ gP gV gi bS ⟨bn,af,bq,bw,cr,ct,bI,bJ,cu,cw,cy,bK,bL,bs,cR⟩ de
 try dsimp only at de
 have cp:Hid ((↑au:Int) < (↑am.Legs.length:Int)):=zF (wAo bS)
 replace bS:=zF bS
 have da:Hid (w64 ((↑au:Int) + 1)=(↑(au + 1):Int)):=zF (by have h1:=bU.out;have h2:=cp.out;rw [wAT] <;> omega)
 refine sR fL1 Z (oR Z (zU Z bq bL) (eN (zG (cT Z cp (kN (zG (zT (sR (wDE gCi) Z (oM Z bq (bnK de fun ag cN fA=>?_))))))))))
 have dO:=d7.le bs
 have q:=dO.el (wAR cN)
 obtain ⟨dv,gc,gK,d8,bO,fU⟩:=q
 obtain ⟨bX,bZ,bY,b4,rfl,gE,gF⟩:=fU
 replace bO:Cl bn dv (gc + au * 3) [jV ag.Skier,.slice bX ag.Loops.length bZ,.slice bY ag.Bouts.length b4]:=bO
 refine oR Z (zo Z bK d8 bq ZM ZJ (wAj cN)) (oL Z (cR.ldCA (f:=0) bO Z Z yP ZJ (us:=[jV ag.Skier,.slice bX ag.Loops.length bZ,.slice bY ag.Bouts.length b4]) Z Z) (zz (cs:=B2) Z Z Z Z Z ZT Z cR ?_))
 intro gj aw ew
 refine oA Z Z ?_
 let B5:List Value:=[jV ag.Skier,.slice bX ag.Loops.length bZ,.slice bY ag.Bouts.length b4]
 refine zu (j:=0) (vs:=B5) Z Z Z Z ew Z Z Z Z ZJ (zC Z) Z Z Z ?_
 intro bE ey
 let B6:Res:=.row (some ⟨ax,0,none⟩) ao.length 23 1 (hM wEX af)
 have eB:sW w U bn [.blk aw 46 B5,.blk aq 143 (hM KL.encI ae.l),.blk an 43 B3,.blk b2 28 B0,B6,inn 3 1 KL.encI af aj] bE:=ey
 refine eN (zG (bnK fA fun dw fY fB=>CK.cut (fun σ_ w_=>∃ (U_:PHeap),σ_ 1=.pointer (some ⟨b2,0,none⟩)/\σ_ 5=.slice (some ⟨ax,0,none⟩) aj.length ao.length/\σ_ 6=jV (↑aa:Int)/\σ_ 7=.pointer (some ⟨an,0,none⟩)/\σ_ 8=.pointer (some ⟨aq,0,none⟩)/\σ_ 9=jV (↑au:Int)/\σ_ 10=.pointer (some ⟨aw,0,none⟩)/\σ_ 21=.slice aX p0.Teams.length aY/\σ_ 22=jV (↑p0.Teams.length:Int)/\σ_ 23=jV (↑aa:Int)/\σ_ 29=.slice bl am.Legs.length bm/\σ_ 30=jV (↑am.Legs.length:Int)/\σ_ 31=jV (↑au:Int)/\σ_ 58=.bool dw/\PHeap.Le bn U_/\sW w U U_ [.blk aw 46 B5,.blk aq 143 (hM KL.encI ae.l),.blk an 43 B3,.blk b2 28 B0,B6,inn 3 1 KL.encI af aj] w_) ?_ ?_))
 refine ZY ZP [3,1,3,1,3,1,3,3,1,3,3,1,3,3,3,1,3,1,3,3,1,3,3] fL23 (by kernel_rfl) ?_
 have az:=eB.drew
 generalize hw_W161:({ bE with drawn:=bE.drawn + 1 }:World)=gm at az ⊢
 refine oR Z (zJ Z bI zk Z zS) (oL Z (az.ldB (j:=2) Z Z Z zc (v:=.slice bB am.Classes.length bC) Z) (oR Z (zJ Z Z ZB Z zD) (oL Z (az.ldB (j:=0) Z Z Z zP (v:=jV ag.Skier) Z) (bnK fY fun gf bM fD=>?_))))
 have dP:=dZ.le bs
 have q:=dP.el (fun _=>rfl) (wAR bM)
 obtain ⟨gw,gH,d9,ee⟩:=q
 refine oR Z (yG Z Z d9 Z zA zD (wEK bM) (wET bM)) (oL Z (az.ldC (f:=0) ee (v:=jV gf) Z Z zP Z) (oR Z (zJ Z bw ze Z ZG) (oR Z (zJ Z Z zy Z zS) (oL Z (az.ldB (j:=3) Z Z Z zc (v:=.slice bt p0.Rules.Classes.length bu) Z) (oM Z Z (bnK fD fun gg cO fE=>?_))))))
 have dQ:=cZ.le df
 have dR:=dQ.le bW
 have dS:=dR.le bs
 have q:=dS.el (fun _=>rfl) (wAR cO)
 obtain ⟨gx,gI,ea,eh⟩:=q
 refine oR Z (zo Z Z ea Z zA zD (wAj cO)) (oL Z (az.ldC (f:=0) eh (v:=jV gg) Z Z zP Z) (oR Z (ZW Z Z Z) (oM Z Z (ifc fE ?_ ?_))))
 intro ak fG
 refine zh Z Z Z (zQ Z Z (zw (fun h=>h ak.out))) (fun _=>zJ Z Z ZB Z zD) (ZO Z Z Z (zQ Z Z (zw (fun h=>h ak.out))) (az.ldB (j:=0) Z Z Z zP (v:=jV ag.Skier) Z) Z (bnK fG fun _ bN fH=>zh Z Z Z (zQ Z Z (zw (fun h=>h ak.out))) (fun _=>Runs.iaA Z bJ Z ym zD (wEt bN) (wEu bN)) ?_))
 have fk:=Arr.at_ ae (k:=ag.Skier.toNat) (by have hz0:=wAd bN;omega)
 refine ZO rfl rfl rfl (zQ rfl rfl (zw (fun h=>h ak.out))) (az.ldB (j:=1) rfl rfl rfl zP (wAp (sz:=1) (fun _=>rfl) _ _ 0 _ fk (by first | omega | rfl | simp) rfl)) rfl (zh rfl rfl rfl (zQ rfl rfl (zw (fun h=>h ak.out))) (fun _=>zJ rfl bw ze rfl ZG) (zh rfl rfl rfl (zQ rfl rfl (zw (fun h=>h ak.out))) (fun _=>zJ rfl rfl zy rfl zD) (ZO rfl rfl rfl (zQ rfl rfl (zw (fun h=>h ak.out))) (az.ldB (j:=3) rfl rfl rfl zP (v:=jV p0.Rules.Each) rfl) rfl (zh rfl rfl rfl (zQ rfl rfl (zw (fun h=>h ak.out))) (fun _=>yo rfl rfl rfl) (zh rfl rfl rfl rfl (fun _=>zZ rfl (zw (fun h=>h ak.out)) rfl) (zg ?_))))))
 have q:=nB fH
 obtain rfl:=q
 exact zI ⟨Z,⟨bn,bw,cr,ct,bI,bJ,Z,Z,cu,cw,cy,bK,bL,bq,Z,(zH _),az⟩⟩
 intro ak fI
 refine oT Z ak (oT Z ak (oT Z ak (oT Z ak (oT Z ak (oT Z ak (oT Z ak (oT Z ak (oR Z (zV Z (Zj ak.out) Z) (zg ?_)))))))))
 cases fI
 exact zI ⟨Z,⟨bn,bw,cr,ct,bI,bJ,Z,Z,cu,cw,cy,bK,bL,bq,Z,(zH _),az⟩⟩
 rintro gW cj ⟨ay,cz,bx,bz,cA,bi,dB,cC,cD,cE,cG,cH,cI,cJ,cK,dg,bj⟩
 refine ifc fB ?_ ?_
 intro bH fK
 refine ZF (cK.trans (congrArg nD bH.out)) (rR (wOJ (.fx 7 (.fx 8 (.fl 9 (.fx 10 .nil .stop)) .stop) .stop)) Z (oM Z bx (oM Z bz (oM Z bx (oM Z bz (bnK fK fun _ bb fL=>oR Z (zo Z Z Z Z zq zS (wAd bb)) ?_))))))
 have c7:=bj.innFit (j:=5) rfl
 have fm:=wCX (xs:=af) (k:=aa) (by rw [c7.len];exact (wAd bb))
 have fW:Value.slice (gd af aa).A (gd af aa).n (gd af aa).c=.slice ((gd af aa).A) ((gd aj aa).length) ((gd af aa).c):=by rw [c7.at_ (k:=aa) (wAd bb)]
 refine ZO rfl rfl rfl rfl (RunsK.to (bj.ldR (j:=4) rfl rfl rfl rfl zc (wAp (sz:=1) (fun _=>rfl) _ _ 0 _ fm (by first | omega | rfl | simp) rfl)) fW) rfl ?_
 have eC:sW w U ay [inn 3 1 KL.encI af aj,.blk aw 46 B5,.blk aq 143 (hM KL.encI ae.l),.blk an 43 B3,.blk b2 28 B0,B6] cj:=bj.pick [5,0,1,2,3,4] _ (by decide) rfl
 have eD:=eC.innTake (k:=aa) (wAd bb)
 let B7:Res:=.row ((gd af aa).A) ((gd af aa).c) 3 1 (hM KL.encI (gd aj aa))
 have eG:sW w U ay [B7,wJu 3 1 KL.encI af aj aa,.blk aw 46 B5,.blk aq 143 (hM KL.encI ae.l),.blk an 43 B3,.blk b2 28 B0,B6] cj:=eD
 refine oM Z dB (zW (pv:=[(0,jV (↑au:Int))]) (zs:=[jV 0]) (cs:=[jV (↑au:Int)]) Z Z Z Z Z (wAC Z wAM) zA zD zt Z Z Z Z Z eG ?_)
 intro dn dx eI
 let B8:Res:=.row (some ⟨dx,0,none⟩) 1 3 1 (hM KL.encI [(↑au:Int)])
 have cS:sW w U ay [B8,B7,wJu 3 1 KL.encI af aj aa,.blk aw 46 B5,.blk aq 143 (hM KL.encI ae.l),.blk an 43 B3,.blk b2 28 B0,B6] dn:=eI
 refine bnK fL fun aW dT fM=>Zs (j:=1) (enc:=KL.encI) (xs:=(gd aj aa)) (ys:=[(↑au:Int)]) (zs:=aW) rfl rfl rfl rfl rfl Zi wFA rfl rfl rfl rfl rfl rfl cS rfl rfl rfl (cS.srcR (j:=0) rfl (by decide) (wAF (f:=KL.encI) (sz:=1) (fun _=>rfl) [(↑au:Int)])) (fun _=>rfl) (fun _=>rfl) dT rfl ?_
 intro aZ ba dp eJ
 let B9:Res:=.row aZ ba 3 1 (hM KL.encI aW)
 have cU:sW w U ay [B8,B9,wJu 3 1 KL.encI af aj aa,.blk aw 46 B5,.blk aq 143 (hM KL.encI ae.l),.blk an 43 B3,.blk b2 28 B0,B6] dp:=eJ
 refine oR Z (zo Z Z Z Z zq zS (wAd bb)) ?_
 have c9:=(cU.innHFit (j:=2) rfl).1
 have fq:=wCX (xs:=af) (k:=aa) (by rw [c9.len];exact wAd bb)
 refine OKS.stR (j:=7) (vs:=wEX (⟨aZ,aW.length,ba⟩:Hd)) (cs':=hM wEX (nH af aa (⟨aZ,aW.length,ba⟩:Hd))) rfl rfl rfl rfl cU rfl rfl rfl rfl rfl zS (by rw [wAF (f:=wEX) (sz:=1) (fun _=>rfl),c9.len];have hz:=wAd bb;show _ + 1 <= _;first | omega | (simp only [nG];omega)) rfl (wFP (sz:=1) (fo:=0) (fun _=>rfl) _ _ _ _ fq (by first | omega | (simp only [nG];omega)) (zC rfl) rfl) rfl ?_
 intro bF eK
 let bv:Res:=.row (some ⟨ax,0,none⟩) ao.length 23 1 (hM wEX (nH af aa (⟨aZ,aW.length,ba⟩:Hd)))
 have eM:sW w U ay [B8,B9,wJu 3 1 KL.encI af aj aa,.blk aw 46 B5,.blk aq 143 (hM KL.encI ae.l),.blk an 43 B3,.blk b2 28 B0,bv] bF:=eK
 have eP:sW w U ay [B9,wJu 3 1 KL.encI af aj aa,B8,.blk aw 46 B5,.blk aq 143 (hM KL.encI ae.l),.blk an 43 B3,.blk b2 28 B0,bv] bF:=eM.pick [1,2,0,3,4,5,6,7] _ (by decide) rfl
 have eQ:=eP.innPut
 have bR:sW w U ay [inn 3 1 KL.encI (nH af aa (⟨aZ,aW.length,ba⟩:Hd)) (nH aj aa aW),B8,.blk aw 46 B5,.blk aq 143 (hM KL.encI ae.l),.blk an 43 B3,.blk b2 28 B0,bv] bF:=eQ
 refine eN (rR (wIu (.fx 6 .nil .stop)) Z (oR Z (zJ Z cC ZB Z zD) (oL Z (bR.ldB (j:=2) Z Z Z zP (v:=jV ag.Skier) Z) (bnK fM fun _ be fN=>oR Z (Runs.iaA Z bi Z ym zD (wEt be) (wEu be)) ?_))))
 have ft:=Arr.at_ ae (k:=ag.Skier.toNat) (by have hz0:=wAd be;omega)
 refine ZO rfl rfl rfl rfl (bR.ldB (j:=3) rfl rfl rfl zP (wAp (sz:=1) (fun _=>rfl) _ _ 0 _ ft (by first | omega | rfl | simp) rfl)) rfl (zh rfl rfl rfl rfl (fun _=>zX rfl rfl rfl) (zh rfl rfl rfl rfl (fun _=>Runs.iaA rfl bi rfl ym zD (wEt be) (wEu be)) ?_))
 have fu:=Arr.at_ ae (k:=ag.Skier.toNat) (by have hz0:=wAd be;omega)
 refine zu (j:=3) (vs:=[jV (w64 ((ae.get ag.Skier.toNat) + 1))]) (cs':=hM KL.encI (ae.set ag.Skier.toNat (w64 ((ae.get ag.Skier.toNat) + 1))).l) rfl rfl rfl rfl bR rfl rfl rfl rfl zD (by have hz0:=wAd be;simp only [nI,nJ,nK,nG,wHr (f:=KL.encI) (sz:=1) (N:=8) ae (fun _=>rfl) rfl];omega) rfl (wFP (sz:=1) (fo:=0) (fun _=>rfl) _ _ _ _ fu (by first | omega | rfl | simp) (zC rfl) rfl) rfl ?_
 intro dq eS
 have eT:sW w U ay [inn 3 1 KL.encI (nH af aa (⟨aZ,aW.length,ba⟩:Hd)) (nH aj aa aW),B8,.blk aw 46 B5,.blk aq 143 (hM KL.encI (ae.set ag.Skier.toNat (w64 ((ae.get ag.Skier.toNat) + 1))).l),.blk an 43 B3,.blk b2 28 B0,bv] dq:=eS
 refine zg (zb (zI (rR fL2 Z (oR Z (zn (zX Z cJ Z) (congrArg (jV) da.out)) (oM Z Z (zg ?_))))))
 cases fN
 exact zI ⟨rfl,⟨ay,(nH af aa (⟨aZ,aW.length,ba⟩:Hd)),rfl,cz,(Eq.trans (b:=(.slice (some ⟨ax,0,none⟩) aj.length ao.length:Value)) (c:=(.slice (some ⟨ax,0,none⟩) ((nH aj aa aW).length) ao.length:Value)) bx (by simp only [List.length_set])),bz,cA,bi,cD,cE,cG,cH,cI,(bs.trans dg),(eT.pick [3,4,5,6,0] _ (by decide) rfl)⟩⟩
 intro bH fO
 refine zm (cK.trans (congrArg nD (nE.2 bH.out))) (kN (rR (wIu (.fx 6 .nil .stop)) Z (oR Z (zJ Z cC ZB Z zD) (oL Z (bj.ldB (j:=0) Z Z Z zP (v:=jV ag.Skier) Z) (bnK fO fun _ bf fP=>oR Z (Runs.iaA Z bi Z ym zD (wEt bf) (wEu bf)) ?_)))))
 have fw:=Arr.at_ ae (k:=ag.Skier.toNat) (by have hz0:=wAd bf;omega)
 refine ZO rfl rfl rfl rfl (bj.ldB (j:=1) rfl rfl rfl zP (wAp (sz:=1) (fun _=>rfl) _ _ 0 _ fw (by first | omega | rfl | simp) rfl)) rfl (zh rfl rfl rfl rfl (fun _=>zX rfl rfl rfl) (zh rfl rfl rfl rfl (fun _=>Runs.iaA rfl bi rfl ym zD (wEt bf) (wEu bf)) ?_))
 have fy:=Arr.at_ ae (k:=ag.Skier.toNat) (by have hz0:=wAd bf;omega)
 refine zu (j:=1) (vs:=[jV (w64 ((ae.get ag.Skier.toNat) + 1))]) (cs':=hM KL.encI (ae.set ag.Skier.toNat (w64 ((ae.get ag.Skier.toNat) + 1))).l) rfl rfl rfl rfl bj rfl rfl rfl rfl zD (by have hz0:=wAd bf;simp only [nI,nJ,nK,nG,wHr (f:=KL.encI) (sz:=1) (N:=8) ae (fun _=>rfl) rfl];omega) rfl (wFP (sz:=1) (fo:=0) (fun _=>rfl) _ _ _ _ fy (by first | omega | rfl | simp) (zC rfl) rfl) rfl ?_
 intro dr eU
 have eV:sW w U ay [.blk aw 46 B5,.blk aq 143 (hM KL.encI (ae.set ag.Skier.toNat (w64 ((ae.get ag.Skier.toNat) + 1))).l),.blk an 43 B3,.blk b2 28 B0,B6,inn 3 1 KL.encI af aj] dr:=eU
 refine zg (zb (zI (rR fL2 Z (oR Z (zn (zX Z cJ Z) (congrArg (jV) da.out)) (oM Z Z (zg ?_))))))
 cases fP
 exact zI ⟨rfl,⟨ay,af,rfl,cz,bx,bz,cA,bi,cD,cE,cG,cH,cI,(bs.trans dg),(eV.pick [1,2,3,4,5] _ (by decide) rfl)⟩⟩
 rintro gX gq ⟨dh,dU,dM,dC,dD,gy,gz,gA,dE,dF,dG,gB,dH,gb,eX⟩
 have dz:Hid (¬ ((↑(((↑am.Legs.length:Int):Int) - 0).toNat:Int) < (↑am.Legs.length:Int))):=zF (wAa)
 refine sR fL1 Z (oR Z (zU Z dM dH) (eN (zG (cF Z dz (ZI (zY (zY (ZD (zb (zI (rR fL2 Z (oR Z (zn (zX Z dG Z) (congrArg (jV) fz.out)) (oM Z Z (zg ?_))))))))))))))
 cases db
 exact zI ⟨rfl,⟨dh,dU,rfl,dC,dD,dE,dF,(bW.trans gb),(eX.pick [2,3,4] _ (by decide) rfl)⟩⟩
 rintro gY gr ⟨di,dV,dN,gC,dI,gD,dJ,gG,eY⟩
 have dA:Hid (¬ ((↑(((↑p0.Teams.length:Int):Int) - 0).toNat:Int) < (↑p0.Teams.length:Int))):=zF (wAa)
 refine sR fL1 Z (oR Z (zU Z dN dJ) (eN (zG (cF Z dA (ZI (zY (zY (ZD (zI (sR fL3 Z (oM Z dI (oA Z Z (oA Z Z (eN (zO ?_)))))))))))))))
 cases fR
 exact ⟨rfl,_,(wFc rfl rfl),di,_,(eY.pick [1,2] _ (by decide) rfl),(some ⟨ax,0,none⟩),ao.length,dV,rfl,rfl⟩
 intro bG fQ
 refine cT Z bG (sR fL3 Z (oM Z Z (oA Z Z (oA Z Z (eN (zO (zR ?_)))))))
 have eZ:=bQ.nilrow 23 1
 have e8:=eZ.innNil 3 1 KL.encI
 have e9:sW w U U8 [inn 3 1 KL.encI ([]:List Hd) ([]:List (List Int)),.row none 0 23 1 [],.blk b2 28 B0] ci:=e8
 cases fQ
 exact ⟨rfl,_,(wFc rfl rfl),U8,_,(e9.pick [1,0] _ (by decide) rfl),none,0,([]:List Hd),rfl,rfl⟩
end Go.Proofs.YtnbcoenjobdplaaGreat
namespace Go.Proofs.YtnbcoenjobdplaaGreat
open Go.KL
set_option maxHeartbeats 4000000
theorem wEC (p0:List Int) (ap:Option Addr) (au:Nat) (p1:List Int) (aq:Option Addr) (av:Nat) (w:World) (U:PHeap) (hS:St0 w U []) (bs:Sl U 1 ap au p0.length (hM KL.encI p0)) (bt:Sl U 1 aq av p1.length (hM KL.encI p1)) {r:Bool} (hm:wCh p0 p1=some r):Gv Tryz.prog 47 [.slice ap p0.length au,.slice aq p1.length av] w (wBU w [] U (fun U_ L_ v=>v=.bool r/\L_=[])):=by
 unfold wCh at hm
 refine Gv.of Tryz.func47 Z Tryz.ntmps47 Tryz.results47 Z (sR fL1 Z (oA Z Z (eN (zG (sR fL5 Z (oM Z Z (oR Z (za Z Z zA) (oM Z Z (oR Z (za Z Z zA) (oR Z (ZW Z Z Z) (eN ?_)))))))))))
 by_cases c1:(↑p0.length:Int)=(↑p1.length:Int)
 have ah:=hm;rw [if_pos c1] at ah;replace c1:=zF c1
 refine zm (zw (fun h=>h c1.out)) (kN (zG (sR fL3 Z (oM Z Z (oR Z (za Z Z zA) (oM Z Z (eN (zT ?_))))))))
 have q:=wBe ah
 obtain ⟨r5,ak⟩:=q
 have q:=wBd ak
 obtain ⟨an,bw⟩:=q
 replace an:=zF an
 refine yA (fun k4 _ σ_ w_=>∃ (U_:PHeap),σ_ 13=jV (↑k4:Int)/\σ_ 0=.slice ap p0.length au/\σ_ 1=.slice aq p1.length av/\σ_ 12=jV (↑p0.length:Int)/\PHeap.Le U U_/\sW w U U_ [] w_) bw ?_ ?_ ?_
 exact ⟨U,Z,Z,Z,Z,(zH _),hS⟩
 rintro k4 ⟨⟩ bR bT ax am ⟨aw,aj,az,aW,aX,ao,bq⟩ ba bu
 try dsimp only at ba
 have ay:Hid ((↑k4:Int) < (↑p0.length:Int)):=zF (wAo am)
 replace am:=zF am
 have bx:Hid (w64 ((↑k4:Int) + 1)=(↑(k4 + 1):Int)):=zF (by have h1:=an.out;have h2:=ay.out;rw [wAT] <;> omega)
 refine sR fL1 rfl (zh rfl rfl rfl rfl (fun _=>zU rfl aj aX) (eN (zG (cT Z ay (kN (zG (zT (sR fL2 rfl (zj rfl rfl rfl rfl rfl aj (yg rfl rfl rfl rfl rfl rfl (eN (zG (ZY ZP [3,3,3,1,3,3,3,1,3] fL9 (by kernel_rfl) ?_)))))))))))))
 have af:=bq.drew
 generalize hw_W25:({ ax with drawn:=ax.drawn + 1 }:World)=bH at af ⊢
 refine oM Z az (oM Z Z (bnK ba fun bF aY bz=>?_))
 have bi:=bs.le ao
 have q:=bi.el (fun _=>rfl) (wAR aY)
 obtain ⟨bJ,bO,bl,bn⟩:=q
 refine oR Z (zo Z Z bl Z zA zD (wAj aY)) (oL Z (af.ldC (f:=0) bn (v:=jV bF) Z Z zP Z) (oM Z aW (oM Z Z (bnK bz fun bG aZ bA=>?_))))
 have bj:=bt.le ao
 have q:=bj.el (fun _=>rfl) (wAR aZ)
 obtain ⟨bK,bP,bm,bp⟩:=q
 refine oR Z (zo Z Z bm Z zA zD (wAj aZ)) (oL Z (af.ldC (f:=0) bp (v:=jV bG) Z Z zP Z) (oR Z (ZW Z Z Z) (eN (ifc bA ?_ ?_))))
 intro ai bB
 refine zm (zw (fun h=>h ai.out)) (ZV (zb (zI (rR fL2 Z (oR Z (zn (zX Z aj Z) (congrArg (jV) bx.out)) (oM Z Z (zg ?_)))))))
 have q:=nB bB
 obtain rfl:=q
 exact zI ⟨Z,_,Z,⟨aw,Z,az,aW,aX,ao,af⟩⟩
 intro ai bC
 refine cT Z ai (sR fL1 Z (oA Z Z (eN (zO (zf (zR ?_))))))
 have q:=wAf bC
 obtain ⟨bE,bD,bf⟩:=q
 have q:=wCI ah ak (bu bE bf)
 obtain rfl:=q
 refine zR (zf (zR ?_))
 have hE:=nB bD;first | subst r | cases hE
 exact ⟨Z,_,(zr Z),aw,_,af,Z,Z⟩
 rintro ⟨⟩ bS bI ⟨bb,bh,bL,bM,bg,bN,br⟩ bv
 have a7:=wCm ah ak bv
 try dsimp only at a7
 have be:Hid (¬ ((↑(((↑p0.length:Int):Int) - 0).toNat:Int) < (↑p0.length:Int))):=zF (wAa)
 refine sR fL1 Z (oR Z (zU Z bh bg) (eN (zG (cF Z be (ZI (zY (zY (ZD (zI (sR fL1 Z (oA Z Z (eN (zO ?_)))))))))))))
 have hE:=nB a7;first | subst r | cases hE
 exact ⟨Z,_,(zr Z),bb,_,br,Z,Z⟩
 have a8:=hm;rw [if_neg c1] at a8;replace c1:=zF c1
 refine cT Z c1 (sR fL1 Z (oA Z Z (eN (zO (zR ?_)))))
 have hE:=nB a8;first | subst r | cases hE
 exact ⟨Z,_,(zr Z),U,_,hS,Z,Z⟩
theorem wDk (p0:List (List Int)) (aw:Option Addr) (aW:Nat) (p1:List (List Int)) (ax:Option Addr) (aX:Nat) (w:World) (U:PHeap) (hS:St0 w U []) (bJ:SlR U wDT aw aW p0) (bK:SlR U wDT ax aX p1) {r:Bool} (hm:wCH p0 p1=some r):Gv Tryz.prog 40 [.slice aw p0.length aW,.slice ax p1.length aX] w (wBU w [] U (fun U_ L_ v=>v=.bool r/\L_=[])):=by
 unfold wCH at hm
 refine Gv.of Tryz.func40 Z Tryz.ntmps40 Tryz.results40 Z (sR fL1 Z (oA Z Z (eN (zG (sR fL5 Z (oM Z Z (oR Z (za Z Z zq) (oM Z Z (oR Z (za Z Z zq) (oR Z (ZW Z Z Z) (eN ?_)))))))))))
 by_cases c1:(↑p0.length:Int)=(↑p1.length:Int)
 have ah:=hm;rw [if_pos c1] at ah;replace c1:=zF c1
 refine zm (zw (fun h=>h c1.out)) (kN (zG (sR fL3 Z (oM Z Z (oR Z (za Z Z zq) (oM Z Z (eN (zT ?_))))))))
 have q:=wBe ah
 obtain ⟨r5,ap⟩:=q
 have q:=wBd ap
 obtain ⟨au,bN⟩:=q
 replace au:=zF au
 refine yA (fun k4 _ σ_ w_=>∃ (U_:PHeap),σ_ 13=jV (↑k4:Int)/\σ_ 0=.slice aw p0.length aW/\σ_ 1=.slice ax p1.length aX/\σ_ 12=jV (↑p0.length:Int)/\PHeap.Le U U_/\sW w U U_ [] w_) bN ?_ ?_ ?_
 exact ⟨U,Z,Z,Z,Z,(zH _),hS⟩
 rintro k4 ⟨⟩ cq ct ba aq ⟨ai,am,be,bf,bg,av,bG⟩ bn bL
 try dsimp only at bn
 have bb:Hid ((↑k4:Int) < (↑p0.length:Int)):=zF (wAo aq)
 replace aq:=zF aq
 have bO:Hid (w64 ((↑k4:Int) + 1)=(↑(k4 + 1):Int)):=zF (by have h1:=au.out;have h2:=bb.out;rw [wAT] <;> omega)
 refine sR fL1 rfl (zh rfl rfl rfl rfl (fun _=>zU rfl am bg) (eN (zG (cT Z bb (kN (zG (zT (sR fL2 rfl (zj rfl rfl rfl rfl rfl am (yg rfl rfl rfl rfl rfl rfl (eN (zG (ZY ZP [3,3,3,1,3,3,3,1,2,3] (wOK gCb) (by kernel_rfl) ?_)))))))))))))
 have ag:=bG.drew
 generalize hw_W25:({ ba with drawn:=ba.drawn + 1 }:World)=bq at ag ⊢
 refine oM Z be (oM Z Z (bnK bn fun a7 bh bP=>?_))
 have bz:=bJ.le av
 have q:=bz.el (wAR bh)
 obtain ⟨bs,bY,cm,bE,an,bV⟩:=q
 obtain ⟨ay,aY,rfl,bA⟩:=bV
 replace an:Cl ai bs (bY + k4 * 1) [.slice ay a7.length aY]:=an
 refine oR Z (zo Z Z bE Z zq zS (wAj bh)) (oL Z (ag.ldC (f:=0) an (v:=.slice ay a7.length aY) Z Z zc Z) (oM Z bf (oM Z Z (bnK bP fun a8 bi bQ=>?_))))
 have bB:=bK.le av
 have q:=bB.el (wAR bi)
 obtain ⟨bt,bZ,co,bF,ao,bW⟩:=q
 obtain ⟨az,aZ,rfl,bC⟩:=bW
 replace ao:Cl ai bt (bZ + k4 * 1) [.slice az a8.length aZ]:=ao
 refine oR Z (zo Z Z bF Z zq zS (wAj bi)) (oL Z (ag.ldC (f:=0) ao (v:=.slice az a8.length aZ) Z Z zc Z) (bnK bQ fun cp bD bR=>zL 0 Z Z Z Z (zK Z Z Tryz.call47 (zB Z (zB Z zM)) Z) ag (fun hs=>wEC a7 ay aY a8 az aZ bq ai hs bA bC bD) (.inr Z) ?_))
 rintro aj ca cj br bX bH ⟨rfl,rfl⟩
 have bj:sW w U aj [] br:=bH
 refine oR Z (ZN Z Z) (eN (ifc bR ?_ ?_))
 intro ak bS
 refine zm (nC ak.out) (ZV (zb (zI (rR fL2 Z (oR Z (zn (zX Z am Z) (congrArg (jV) bO.out)) (oM Z Z (zg ?_)))))))
 have q:=nB bS
 obtain rfl:=q
 exact zI ⟨Z,_,Z,⟨aj,Z,be,bf,bg,(av.trans bX),bj⟩⟩
 intro ak bT
 refine ZF (nF (ak.out)) (sR fL1 Z (oA Z Z (eN (zO (zf (zR ?_))))))
 have q:=wAf bT
 obtain ⟨b4,bU,bv⟩:=q
 have q:=wCI ah ap (bL b4 bv)
 obtain rfl:=q
 refine zR (zf (zR ?_))
 have hE:=nB bU;first | subst r | cases hE
 exact ⟨Z,_,(zr Z),aj,_,bj,Z,Z⟩
 rintro ⟨⟩ cr cc ⟨bp,bx,cd,cg,bw,ch,bI⟩ bM
 have bl:=wCm ah ap bM
 try dsimp only at bl
 have bu:Hid (¬ ((↑(((↑p0.length:Int):Int) - 0).toNat:Int) < (↑p0.length:Int))):=zF (wAa)
 refine sR fL1 Z (oR Z (zU Z bx bw) (eN (zG (cF Z bu (ZI (zY (zY (ZD (zI (sR fL1 Z (oA Z Z (eN (zO ?_)))))))))))))
 have hE:=nB bl;first | subst r | cases hE
 exact ⟨Z,_,(zr Z),bp,_,bI,Z,Z⟩
 have bm:=hm;rw [if_neg c1] at bm;replace c1:=zF c1
 refine cT Z c1 (sR fL1 Z (oA Z Z (eN (zO (zR ?_)))))
 have hE:=nB bm;first | subst r | cases hE
 exact ⟨Z,_,(zr Z),U,_,hS,Z,Z⟩
theorem wEH (p0:List wAB) (au:Option Addr) (aw:Nat) (p1:List wAB) (av:Option Addr) (ax:Nat) (w:World) (U:PHeap) (hS:St0 w U []) (bu:Sl U 3 au aw p0.length (hM wAG p0)) (bv:Sl U 3 av ax p1.length (hM wAG p1)) {r:Bool} (hm:wCF p0 p1=some r):Gv Tryz.prog 41 [.slice au p0.length aw,.slice av p1.length ax] w (wBU w [] U (fun U_ L_ v=>v=.bool r/\L_=[])):=by
 unfold wCF at hm
 refine Gv.of Tryz.func41 Z Tryz.ntmps41 Tryz.results41 Z (sR fL1 Z (oA Z Z (eN (zG (sR fL5 Z (oM Z Z (oR Z (za Z Z ZR) (oM Z Z (oR Z (za Z Z ZR) (oR Z (ZW Z Z Z) (eN ?_)))))))))))
 by_cases c1:(↑p0.length:Int)=(↑p1.length:Int)
 have ah:=hm;rw [if_pos c1] at ah;replace c1:=zF c1
 refine zm (zw (fun h=>h c1.out)) (kN (zG (sR fL3 Z (oM Z Z (oR Z (za Z Z ZR) (oM Z Z (eN (zT ?_))))))))
 have q:=wBe ah
 obtain ⟨r5,an⟩:=q
 have q:=wBd an
 obtain ⟨ap,bz⟩:=q
 replace ap:=zF ap
 refine yA (fun k4 _ σ_ w_=>∃ (U_:PHeap),σ_ 13=jV (↑k4:Int)/\σ_ 0=.slice au p0.length aw/\σ_ 1=.slice av p1.length ax/\σ_ 12=jV (↑p0.length:Int)/\PHeap.Le U U_/\sW w U U_ [] w_) bz ?_ ?_ ?_
 exact ⟨U,Z,Z,Z,Z,(zH _),hS⟩
 rintro k4 ⟨⟩ bR bT az ao ⟨ay,am,aX,aY,aZ,aq,bs⟩ be bw
 try dsimp only at be
 have aW:Hid ((↑k4:Int) < (↑p0.length:Int)):=zF (wAo ao)
 replace ao:=zF ao
 have bA:Hid (w64 ((↑k4:Int) + 1)=(↑(k4 + 1):Int)):=zF (by have h1:=ap.out;have h2:=aW.out;rw [wAT] <;> omega)
 refine sR fL1 rfl (zh rfl rfl rfl rfl (fun _=>zU rfl am aZ) (eN (zG (cT Z aW (kN (zG (zT (sR fL2 rfl (zj rfl rfl rfl rfl rfl am (yg rfl rfl rfl rfl rfl rfl (eN (zG (ZY ZP [3,3,3,1,3,3,3,1,3] fL9 (by kernel_rfl) ?_)))))))))))))
 have af:=bs.drew
 generalize hw_W25:({ az with drawn:=az.drawn + 1 }:World)=bH at af ⊢
 refine oM Z aX (oM Z Z (bnK be fun ai a7 bB=>?_))
 have bl:=bu.le aq
 have q:=bl.el (fun _=>rfl) (wAR a7)
 obtain ⟨bJ,bO,bn,bq⟩:=q
 refine oR Z (zo Z Z bn Z ZR Zg (wAj a7)) (oL Z (af.ldCA (f:=0) bq Z Z Tryz.isAgg70 Zg (us:=[jV ai.Bib,jV ai.Place,jV ai.Time]) Z Z) (oM Z aY (oM Z Z (bnK bB fun aj a8 bC=>?_))))
 have bm:=bv.le aq
 have q:=bm.el (fun _=>rfl) (wAR a8)
 obtain ⟨bK,bP,bp,br⟩:=q
 refine oR Z (zo Z Z bp Z ZR Zg (wAj a8)) (oL Z (af.ldCA (f:=0) br Z Z Tryz.isAgg70 Zg (us:=[jV aj.Bib,jV aj.Place,jV aj.Time]) Z Z) (oR Z (zn (Runs.neS (enc:=wAG) (a:=ai) (b:=aj) Z Z Z wOu wOt) (congrArg nD (decide_not).symm)) (eN (ifc bC ?_ ?_))))
 intro ak bD
 refine zm (zw (fun h=>h ak.out)) (ZV (zb (zI (rR fL2 Z (oR Z (zn (zX Z am Z) (congrArg (jV) bA.out)) (oM Z Z (zg ?_)))))))
 have q:=nB bD
 obtain rfl:=q
 exact zI ⟨Z,_,Z,⟨ay,Z,aX,aY,aZ,aq,af⟩⟩
 intro ak bE
 refine cT Z ak (sR fL1 Z (oA Z Z (eN (zO (zf (zR ?_))))))
 have q:=wAf bE
 obtain ⟨bG,bF,bh⟩:=q
 have q:=wCI ah an (bw bG bh)
 obtain rfl:=q
 refine zR (zf (zR ?_))
 have hE:=nB bF;first | subst r | cases hE
 exact ⟨Z,_,(zr Z),ay,_,af,Z,Z⟩
 rintro ⟨⟩ bS bI ⟨bf,bj,bL,bM,bi,bN,bt⟩ bx
 have ba:=wCm ah an bx
 try dsimp only at ba
 have bg:Hid (¬ ((↑(((↑p0.length:Int):Int) - 0).toNat:Int) < (↑p0.length:Int))):=zF (wAa)
 refine sR fL1 Z (oR Z (zU Z bj bi) (eN (zG (cF Z bg (ZI (zY (zY (ZD (zI (sR fL1 Z (oA Z Z (eN (zO ?_)))))))))))))
 have hE:=nB ba;first | subst r | cases hE
 exact ⟨Z,_,(zr Z),bf,_,bt,Z,Z⟩
 have bb:=hm;rw [if_neg c1] at bb;replace c1:=zF c1
 refine cT Z c1 (sR fL1 Z (oA Z Z (eN (zO (zR ?_)))))
 have hE:=nB bb;first | subst r | cases hE
 exact ⟨Z,_,(zr Z),U,_,hS,Z,Z⟩
theorem wBQ  (w:World) (U:PHeap) (hS:St0 w U [])  {r:wBV} (hm:wCU =some r):Gv Tryz.prog 43 [] w (wBU w [] U (fun U_ L_ v=>∃ (av:Option Addr) (ay:Nat) (aw:Option Addr) (az:Nat) (aW:List Value),v=.agg #[.slice av r.Classes.length ay,.slice aw r.Times.length az]/\L_=[.row av ay 3 1 (hM KL.encI r.Classes),.row aw az 23 1 aW]/\RlL U_ wDT r.Times aW)):=by
 unfold wCU at hm
 refine Gv.of Tryz.func43 Z Tryz.ntmps43 Tryz.results43 Z (sR (.fx 0 .nil .stop) Z ?_)
 let B0:List Value:=[.slice none 0 0,.slice none 0 0]
 refine zz (cs:=B0) Z Z Z Z Z Tryz.zeroValue118 Z hS ?_
 intro W1 b2 bs
 refine eN (sR (.fx 0 (.fx 1 (.fx 2 (.fx 3 (.fx 4 (.fl 5 (.fx 6 .nil .stop)) .stop) .stop) .stop) .stop) .stop) Z (zW (pv:=[(0,jV 0),(1,jV 1),(2,jV 0)]) (zs:=[jV 0,jV 0,jV 0]) (cs:=[jV 0,jV 1,jV 0]) Z Z Z Z Z (wAC Z (wAC Z (wAC Z wAM))) zA zD zt Z Z Z Z Z bs ?_))
 intro W5 b6 bC
 let B1:Res:=.row (some ⟨b6,0,none⟩) 3 3 1 (hM KL.encI [0,1,0])
 have bD:sW w U U [B1,.blk b2 118 B0] W5:=bC
 refine zW (pv:=[(0,jV 2300),(1,jV 9999)]) (zs:=[jV 0,jV 0]) (cs:=[jV 2300,jV 9999]) Z Z Z Z Z (wAC Z (wAC Z wAM)) zA zD zt Z Z Z Z Z bD ?_
 intro a8 ah bj
 let B2:Res:=.row (some ⟨ah,0,none⟩) 2 3 1 (hM KL.encI [2300,9999])
 have bl:sW w U U [B2,B1,.blk b2 118 B0] a8:=bj
 refine zW (pv:=[(0,jV 2600),(1,jV 2400)]) (zs:=[jV 0,jV 0]) (cs:=[jV 2600,jV 2400]) Z Z Z Z Z (wAC Z (wAC Z wAM)) zA zD zt Z Z Z Z Z bl ?_
 intro ba ai bm
 let B3:Res:=.row (some ⟨ai,0,none⟩) 2 3 1 (hM KL.encI [2600,2400])
 have bn:sW w U U [B3,B2,B1,.blk b2 118 B0] ba:=bm
 refine zW (pv:=[(0,jV 2250),(1,jV 9999)]) (zs:=[jV 0,jV 0]) (cs:=[jV 2250,jV 9999]) Z Z Z Z Z (wAC Z (wAC Z wAM)) zA zD zt Z Z Z Z Z bn ?_
 intro am aj bp
 let B4:Res:=.row (some ⟨aj,0,none⟩) 2 3 1 (hM KL.encI [2250,9999])
 have bq:sW w U U [B4,B3,B2,B1,.blk b2 118 B0] am:=bp
 have q:=bq.freezeR (k:=2) (n:=[2300,9999].length) rfl (wAF (f:=KL.encI) (sz:=1) (fun _=>rfl) [2300,9999]) (by decide)
 obtain ⟨aZ,bK,bF,bt⟩:=q
 have bu:sW w U aZ [B4,B3,B1,.blk b2 118 B0] am:=bt
 have q:=bu.freezeR (k:=1) (n:=[2600,2400].length) rfl (wAF (f:=KL.encI) (sz:=1) (fun _=>rfl) [2600,2400]) (by decide)
 obtain ⟨a7,bI,bG,bv⟩:=q
 have bw:sW w U a7 [B4,B1,.blk b2 118 B0] am:=bv
 have q:=bw.freezeR (k:=0) (n:=[2250,9999].length) rfl (wAF (f:=KL.encI) (sz:=1) (fun _=>rfl) [2250,9999]) (by decide)
 obtain ⟨ag,aY,bH,bx⟩:=q
 have bz:sW w U ag [B1,.blk b2 118 B0] am:=bx
 let B5:List Value:=[.slice (some ⟨ah,0,none⟩) 2 2,.slice (some ⟨ai,0,none⟩) 2 2,.slice (some ⟨aj,0,none⟩) 2 2]
 refine zW (pv:=[(0,.slice (some ⟨ah,0,none⟩) 2 2),(1,.slice (some ⟨ai,0,none⟩) 2 2),(2,.slice (some ⟨aj,0,none⟩) 2 2)]) (zs:=[.slice none 0 0,.slice none 0 0,.slice none 0 0]) (cs:=B5) Z Z Z Z Z (wAC Z (wAC Z (wAC Z wAM))) zq zS yh Z Z Z Z Z bz ?_
 intro bb an br
 have bg:=bG.le aY
 have bh:=bF.le bI
 have bi:=bh.le aY
 have bE:RlL ag wDT [[2300,9999],[2600,2400],[2250,9999]] B5:=(RlL.cons (R:=wDT) (x:=[2300,9999]) (vs:=[.slice (some ⟨ah,0,none⟩) 2 2]) ⟨(some ⟨ah,0,none⟩),2,rfl,bi⟩ (RlL.cons (R:=wDT) (x:=[2600,2400]) (vs:=[.slice (some ⟨ai,0,none⟩) 2 2]) ⟨(some ⟨ai,0,none⟩),2,rfl,bg⟩ (RlL.cons (R:=wDT) (x:=[2250,9999]) (vs:=[.slice (some ⟨aj,0,none⟩) 2 2]) ⟨(some ⟨aj,0,none⟩),2,rfl,bH⟩ RlL.nil)))
 let B6:Res:=.row (some ⟨an,0,none⟩) 3 23 1 B5
 have bA:sW w U ag [B6,B1,.blk b2 118 B0] bb:=br
 let B7:List Value:=[.slice (some ⟨b6,0,none⟩) 3 3,.slice (some ⟨an,0,none⟩) 3 3]
 refine oR Z (ZH (pv:=[(0,.slice (some ⟨b6,0,none⟩) 3 3),(1,.slice (some ⟨an,0,none⟩) 3 3)]) (z:=B0) (cs:=B7) Z (wAC Z (wAC Z wAM)) Tryz.zeroValue118 wMG Z Z) (zu (j:=2) (vs:=B7) Z Z Z Z bA Z Z Z Z yM (zC Z) Z Z Z ?_)
 intro be bB
 have aX:sW w U ag [B6,B1,.blk b2 118 B7] be:=bB
 refine eN (zO ?_)
 cases hm
 exact ⟨rfl,_,(wFk (v:=.agg B7.toArray) ⟨⟨_,rfl,(wEv yw yM (aX.blkAt (k:=2) rfl) (vs:=B7) rfl rfl)⟩,trivial⟩),ag,_,(aX.pick [1,0] _ (by decide) rfl),(some ⟨b6,0,none⟩),3,(some ⟨an,0,none⟩),3,B5,rfl,rfl,bE⟩
theorem wGJ (p0:List Int) (ag:Option Addr) (ai:Nat) (p1:wAJ) (ah:Nat) (ae:Option Addr) (af:Nat) (w:World) (U:PHeap) (hS:St0 w U []) (ak:Sl U 1 ag ai p0.length (hM KL.encI p0)) (aj:Cl U ah 0 [.slice ae p1.Classes.length af,jV p1.Each,jV p1.Laps,jV p1.Spare,jV p1.Loop,jV p1.Unused]) (am:Sl U 1 ae af p1.Classes.length (hM KL.encI p1.Classes)) {r:Bool} (hm:wCV p0 p1=some r):Gv Tryz.prog 107 [.slice ag p0.length ai,.pointer (some ⟨ah,0,none⟩)] w (wBU w [] U (fun U_ L_ v=>v=.bool r/\L_=[])):=by
 unfold wCV at hm
 refine Gv.of Tryz.func107 Z Tryz.ntmps107 Tryz.results107 Z (sR fL1 Z (oA Z Z (eN (sR fL7 Z (oM Z Z (oR Z (za Z Z zA) (oR Z (zJ Z Z zy Z zS) (oL Z (hS.ldC (f:=0) aj (v:=.slice ae p1.Classes.length af) Z Z zc Z) (oR Z (za Z Z zA) (oR Z (yF Z Z Z) (oA Z Z (eN (zO ?_)))))))))))))
 first | (obtain rfl:=nB hm) | cases hm
 exact ⟨Z,_,(zr Z),U,_,hS,Z,Z⟩
theorem wFf (p0:List Int) (ac:Option Addr) (ae:Nat) (p1:((List Int)->Option Bool)) (ai:Nat) (af:Value) (w:World) (U:PHeap) (hS:St0 w U []) (ao:Sl U 1 ac ae p0.length (hM KL.encI p0)) (ap:Cl U ai 0 [af]) (aq:FnOK Tryz.prog U af wIO wIP p1) {r:Bool} (hm:wBy p0 p1=some r):Gv Tryz.prog 143 [.slice ac p0.length ae,.pointer (some ⟨ai,0,none⟩)] w (wBU w [] U (fun U_ L_ v=>v=.bool r/\L_=[])):=by
 unfold wBy at hm
 refine Gv.of Tryz.func143 Z Tryz.ntmps143 Tryz.results143 Z (sR fL1 Z (oA Z Z (eN (sR gCq Z (oL Z (hS.ldC (f:=0) ap (v:=af) Z Z Tryz.isAgg170 Z) (oM Z Z (bnK hm fun x1 h2 au=>yT (a:=p0) Z Z Z Z Z Z (zB Z zM) hS aq ⟨ac,ae,Z,ao⟩ h2 ?_)))))))
 rintro U4 L5 v6 W7 aw an ⟨rfl,rfl⟩
 have am:sW w U U4 [] W7:=an
 refine oR Z (ZN Z Z) (oA Z Z (eN (zO ?_)))
 cases au
 exact ⟨Z,_,(zr Z),U4,_,am,Z,Z⟩
theorem wEM (p0:List (List Int)) (an:Option Addr) (ap:Nat) (p1:((List Int)->Option Bool)) (au:Value) (w:World) (U:PHeap) (hS:St0 w U []) (bt:SlR U wDT an ap p0) (bu:FnOK Tryz.prog U au wIO wIP p1) {r:Int} (hm:wCL p0 p1=some r):Gv Tryz.prog 183 [.slice an p0.length ap,au] w (wBU w [] U (fun U_ L_ v=>v=jV r/\L_=[])):=by
 unfold wCL at hm
 refine Gv.of Tryz.func183 Z Tryz.ntmps183 Tryz.results183 Z (sR fL1 Z (oA Z Z (eN (zG (sR fL3 Z (oM Z Z (oR Z (za Z Z zq) (oM Z Z (eN (zT ?_))))))))))
 have q:=wBe hm
 obtain ⟨r3,ai⟩:=q
 have q:=wBd ai
 obtain ⟨ak,bx⟩:=q
 replace ak:=zF ak
 refine yA (fun k2 _ σ_ w_=>∃ (U_:PHeap),σ_ 8=jV (↑k2:Int)/\σ_ 0=.slice an p0.length ap/\σ_ 1=au/\σ_ 7=jV (↑p0.length:Int)/\PHeap.Le U U_/\sW w U U_ [] w_) bx ?_ ?_ ?_
 exact ⟨U,Z,Z,Z,Z,(zH _),hS⟩
 rintro k2 ⟨⟩ bT bV W8 aj ⟨ba,ag,ax,ay,az,am,aX⟩ a7 bv
 try dsimp only at a7
 have aw:Hid ((↑k2:Int) < (↑p0.length:Int)):=zF (wAo aj)
 replace aj:=zF aj
 have bz:Hid (w64 ((↑k2:Int) + 1)=(↑(k2 + 1):Int)):=zF (by have h1:=ak.out;have h2:=aw.out;rw [wAT] <;> omega)
 refine sR fL1 Z (oR Z (zU Z ag az) (eN (zG (cT Z aw (kN (zG (zT (sR fL2 Z (oM Z ag (oA Z Z (eN (sR (wHS (.fx 5 .nil .stop)) Z (oM Z ay (oM Z ax (oM Z Z (bnK a7 fun av aW bA=>?_))))))))))))))))
 have bl:=bt.le am
 have q:=bl.el (wAR aW)
 obtain ⟨bf,bH,bR,bq,ah,bF⟩:=q
 obtain ⟨ao,aq,rfl,bm⟩:=bF
 replace ah:Cl ba bf (bH + k2 * 1) [.slice ao av.length aq]:=ah
 refine oR Z (zo Z Z bq Z zq zS (wAj aW)) (oL Z (aX.ldC (f:=0) ah (v:=.slice ao av.length aq) Z Z zc Z) (bnK bA fun bS bn bB=>?_))
 have bp:=bu.le am
 refine yT (a:=av) Z Z Z Z Z Z (zB Z zM) aX bp ⟨ao,aq,Z,bm⟩ bn ?_
 rintro ae bJ bQ be bG br ⟨rfl,rfl⟩
 have aY:sW w U ae [] be:=br
 refine eN (ifc bB ?_ ?_)
 intro af bC
 refine ZF (congrArg nD af.out) (sR fL2 Z (oM Z Z (oA Z Z (eN (zO (zf (zR ?_)))))))
 have q:=wAf bC
 obtain ⟨bI,bD,bh⟩:=q
 have q:=wCI hm ai (bv bI bh)
 obtain rfl:=q
 refine zR (zf (zR ?_))
 cases bD
 exact ⟨Z,_,(zr Z),ae,_,aY,Z,Z⟩
 intro af bE
 refine zm (congrArg nD (nE.2 af.out)) (ZV (zb (zI (rR fL2 Z (oR Z (zn (zX Z ag Z) (congrArg (jV) bz.out)) (oM Z Z (zg ?_)))))))
 have q:=nB bE
 obtain rfl:=q
 exact zI ⟨Z,_,Z,⟨ae,Z,ax,ay,az,(am.trans bG),aY⟩⟩
 rintro ⟨⟩ bU bK ⟨bb,bj,bM,bN,bi,bO,bs⟩ bw
 have aZ:=wCm hm ai bw
 try dsimp only at aZ
 have bg:Hid (¬ ((↑(((↑p0.length:Int):Int) - 0).toNat:Int) < (↑p0.length:Int))):=zF (wAa)
 refine sR fL1 Z (oR Z (zU Z bj bi) (eN (zG (cF Z bg (ZI (zY (zY (ZD (zI (sR fL1 Z (oA Z Z (eN (zO ?_)))))))))))))
 cases aZ
 exact ⟨Z,_,(zr Z),bb,_,bs,Z,Z⟩
theorem wDx (p0:List (List Int)) (ae:Option Addr) (af:Nat) (p1:((List Int)->Option Bool)) (ag:Value) (w:World) (U:PHeap) (hS:St0 w U []) (ao:SlR U wDT ae af p0) (ap:FnOK Tryz.prog U ag wIO wIP p1) {r:Bool} (hm:wBi p0 p1=some r):Gv Tryz.prog 142 [.slice ae p0.length af,ag] w (wBU w [] U (fun U_ L_ v=>v=.bool r/\L_=[])):=by
 unfold wBi at hm
 refine Gv.of Tryz.func142 Z Tryz.ntmps142 Tryz.results142 Z (sR fL1 Z (oA Z Z (eN (sR gCq Z (oM Z Z (oM Z Z (bnK hm fun x1 h2 ai=>zL 0 Z Z Z Z (zK Z Z Tryz.call183 (zB Z (zB Z zM)) Z) hS (fun hs=>wEM p0 ae af p1 ag w U hs ao ap h2) (.inr Z) ?_)))))))
 rintro U4 L5 v6 W7 au an ⟨rfl,rfl⟩
 have am:sW w U U4 [] W7:=an
 refine oR Z (yo Z Z Z) (oA Z Z (eN (zO ?_)))
 first | (obtain rfl:=nB ai) | cases ai
 exact ⟨Z,_,(zr Z),U4,_,am,Z,Z⟩
theorem wEV (p0:List (List Int)) (ai:Option Addr) (aj:Nat) (p1:((List Int)->Option Bool)) (af:Value) (w:World) (U:PHeap) (hS:St0 w U []) (aZ:SlR U wDT ai aj p0) (an:FnOK Tryz.prog U af wIO wIP p1) {r:Bool} (hm:wCw p0 p1=some r):Gv Tryz.prog 106 [.slice ai p0.length aj,af] w (wBU w [] U (fun U_ L_ v=>v=.bool r/\L_=[])):=by
 unfold wCw at hm
 refine Gv.of Tryz.func106 Z Tryz.ntmps106 Tryz.results106 Z (sR gBy Z (ZS (cs:=[af]) Z Z Z Z Z Z (FnOK.cells an) hS ?_))
 intro W1 b2 aW
 have q:=aW.freeze (k:=0) rfl
 obtain ⟨U5,ao,ac,aX⟩:=q
 replace ac:=Cl.of ac
 have aY:sW w U U5 [] W1:=aX
 replace ac:Cl U5 b2 0 [af]:=ac
 refine oA Z Z (eN (sR gCq Z (oM Z Z (oR Z (yW Z zM (zB Z zM)) ?_))))
 have au:=aZ.le ao
 have av:=an.le ao
 have ax:FnOK Tryz.prog U5 (.func (.func 143) #[] #[.pointer (some ⟨b2,0,none⟩)]) wIO wIP (fun x=>wBy x p1):=⟨143,[],[.pointer (some ⟨b2,0,none⟩)],rfl,Tryz.call143,fun U1 w1 x y vs le hs ha hm=>by obtain ⟨pA_0,pc_0,rfl,hq0_0⟩:=ha;exact wFf x pA_0 pc_0 p1 b2 af w1 U1 hs hq0_0 (ac.le le) (av.le le) hm⟩
 refine bnK hm fun bf aw a7=>zL 0 Z Z Z Z (zK Z Z Tryz.call142 (zB Z (zB Z zM)) Z) aY (fun hs=>wDx p0 ai aj (fun x=>wBy x p1) (.func (.func 143) #[] #[.pointer (some ⟨b2,0,none⟩)]) W1 U5 hs au ax aw) (.inr Z) ?_
 rintro ak ba be aq bb ay ⟨rfl,rfl⟩
 have az:sW w U ak [] aq:=ay
 refine oR Z (ZN Z Z) (oA Z Z (eN (zO ?_)))
 cases a7
 exact ⟨Z,_,(zr Z),ak,_,az,Z,Z⟩
theorem wFg (p0:Int) (w:World) (U:PHeap) (hS:St0 w U [])  {r:Bool} (hm:wBz p0=some r):Gv Tryz.prog 109 [jV p0] w (wBU w [] U (fun U_ L_ v=>v=.bool r/\L_=[])):=by
 unfold wBz at hm
 refine Gv.of Tryz.func109 Z Tryz.ntmps109 Tryz.results109 Z (sR fL1 Z (oA Z Z (eN (sR gCh Z (oM Z Z (bnK hm fun x1 h2 ai=>zL 0 Z Z Z Z (zK Z Z yL (zB Z (zB Z (zB Z zM))) Z) hS (fun hs=>wCR p0 0 100000 w U hs h2) (.inr Z) ?_))))))
 rintro U4 L5 v6 W7 ak ah ⟨rfl,rfl⟩
 have ag:sW w U U4 [] W7:=ah
 refine oA Z Z (eN (zO ?_))
 have hE:=nB ai;first | subst r | cases hE
 exact ⟨Z,_,(zr Z),U4,_,ag,Z,Z⟩
theorem wGK (p0:List Int) (ac:Option Addr) (ae:Nat) (w:World) (U:PHeap) (hS:St0 w U []) (an:Sl U 1 ac ae p0.length (hM KL.encI p0)) {r:Bool} (hm:wCW p0=some r):Gv Tryz.prog 108 [.slice ac p0.length ae] w (wBU w [] U (fun U_ L_ v=>v=.bool r/\L_=[])):=by
 unfold wCW at hm
 refine Gv.of Tryz.func108 Z Tryz.ntmps108 Tryz.results108 Z (sR fL1 Z (oA Z Z (eN (sR gCh Z (oM Z Z ?_)))))
 have aj:FnOK Tryz.prog U (.func (.func 109) #[] #[]) wJg wKY wBz:=⟨109,[],[],rfl,Tryz.call109,fun U1 w1 x y vs le hs ha hm=>by obtain rfl:=ha;exact wFg x w1 U1 hs  hm⟩
 refine bnK hm fun x2 h3 ao=>zL 0 Z Z Z Z (zK Z Z Tryz.call72 (zB Z (zB Z zM)) Z) hS (fun hs=>wCl p0 ac ae wBz (.func (.func 109) #[] #[]) w U hs an aj h3) (.inr Z) ?_
 rintro U5 L6 v7 W8 au ak ⟨rfl,rfl⟩
 have am:sW w U U5 [] W8:=ak
 refine oA Z Z (eN (zO ?_))
 have hE:=nB ao;first | subst r | cases hE
 exact ⟨Z,_,(zr Z),U5,_,am,Z,Z⟩
theorem wDy (p0:wAJ) (av:Option Addr) (aw:Nat) (p1:wBV) (aj:Option Addr) (ak:Nat) (ah:Option Addr) (ai:Nat) (w:World) (U:PHeap) (hS:St0 w U []) (b4:Sl U 1 av aw p0.Classes.length (hM KL.encI p0.Classes)) (ca:Sl U 1 aj ak p1.Classes.length (hM KL.encI p1.Classes)) (cc:SlR U wDT ah ai p1.Times) {r:Int} (hm:wCr p0 p1=some r):Gv Tryz.prog 69 [.agg #[.slice av p0.Classes.length aw,jV p0.Each,jV p0.Laps,jV p0.Spare,jV p0.Loop,jV p0.Unused],.agg #[.slice aj p1.Classes.length ak,.slice ah p1.Times.length ai]] w (wBU w [] U (fun U_ L_ v=>v=jV r/\L_=[])):=by
 unfold wCr at hm
 refine Gv.of Tryz.func69 Z Tryz.ntmps69 Tryz.results69 Z (sR (.fx 0 gCa .stop) Z ?_)
 let B0:List Value:=[.slice av p0.Classes.length aw,jV p0.Each,jV p0.Laps,jV p0.Spare,jV p0.Loop,jV p0.Unused]
 refine ZS (cs:=B0) rfl rfl rfl rfl rfl rfl (by rfl) hS ?_
 intro W1 b2 bT
 have q:=bT.freeze (k:=0) rfl
 obtain ⟨U5,bi,an,bX⟩:=q
 replace an:=Cl.of an
 have bZ:sW w U U5 [] W1:=bX
 replace an:Cl U5 b2 0 B0:=an
 let B1:List Value:=[.slice aj p1.Classes.length ak,.slice ah p1.Times.length ai]
 refine ZS (cs:=B1) rfl rfl rfl rfl rfl rfl (by rfl) bZ ?_
 intro bw aq bs
 refine oA Z Z (eN (sR gCh Z (oL Z (bs.ldCA (f:=0) an Z Z Zv ZG (us:=B0) Z Z) ?_)))
 have bq:=b4.le bi
 refine bnK hm fun cQ bz cd=>zL 0 Z Z Z Z (zK Z Z Tryz.call99 (zB Z zM) Z) bs (fun hs=>wEw p0 av aw bw U5 hs bq bz) (.inr Z) ?_
 rintro aY cE cL bl ay bS ⟨rfl,rfl⟩
 have bf:sW w U aY [.blk aq 118 B1] bl:=bS
 refine oA Z Z (eN (zG (zT (sR fL3 Z (oM Z Z (oR Z (ZW Z Z Z) (oA Z Z (eN (ifc cd ?_ ?_)))))))))
 intro ba cg
 refine zm (zw (fun h=>h ba.out)) (sR (wDE (.fx 3 (wNe (.fx 18 (wOP (.nil)) .stop)) .stop)) Z (oR Z (zJ Z Z Zr Z zS) (oL Z (bf.ldB (j:=0) Z Z Z zc (v:=.slice aj p1.Classes.length ak) Z) (oR Z (za Z Z zA) (bnK cg fun cR bA ch=>zL 0 Z Z Z Z (zK Z Z yL (zB Z (zB Z (zB Z zM))) Z) bf (fun hs=>wCR (↑p1.Classes.length:Int) 1 8 bl aY hs bA) (.inr Z) ?_)))))
 rintro ap cG cM bm az bU ⟨rfl,rfl⟩
 have ao:sW w U ap [.blk aq 118 B1] bm:=bU
 refine oR Z (ZN Z Z) (oM Z Z (ifc ch ?_ ?_))
 intro ae ci
 refine zh Z Z Z (zQ Z Z (nC ae.out)) (fun _=>zJ Z Z Zr Z Zk) (ZO Z Z Z (zQ Z Z (nC ae.out)) (ao.ldB (j:=0) Z Z Z Zy (v:=.slice ah p1.Times.length ai) Z) Z (zh Z Z Z (zQ Z Z (nC ae.out)) (fun _=>za Z Z zq) (zh Z Z Z (zQ Z Z (nC ae.out)) (fun _=>zJ Z Z Zr Z zS) (ZO Z Z Z (zQ Z Z (nC ae.out)) (ao.ldB (j:=0) Z Z Z zc (v:=.slice aj p1.Classes.length ak) Z) Z (zh Z Z Z (zQ Z Z (nC ae.out)) (fun _=>za Z Z zA) (zh Z Z Z (zQ Z Z (nC ae.out)) (fun _=>ZW Z Z Z) (oR Z (zZ Z (nC ae.out) Z) (oM Z Z (ifc ci ?_ ?_)))))))))
 intro af cj
 refine zh Z Z Z (zQ Z Z (zw (fun h=>h af.out))) (fun _=>zJ Z Z Zr Z Zk) (ZO Z Z Z (zQ Z Z (zw (fun h=>h af.out))) (ao.ldB (j:=0) Z Z Z Zy (v:=.slice ah p1.Times.length ai) Z) Z (zh Z Z Z (zQ Z Z (zw (fun h=>h af.out))) (fun _=>yW Z zM (zB Z zM)) ?_))
 have bB:=cc.le bi
 have bC:=bB.le ay
 have br:=bC.le az
 have bD:=an.le ay
 have bE:=bD.le az
 have bF:=bq.le ay
 have bG:=bF.le az
 have bQ:FnOK Tryz.prog ap (.func (.func 107) #[] #[.pointer (some ⟨b2,0,none⟩)]) wIO wIP (fun x=>wCV x p0):=⟨107,[],[.pointer (some ⟨b2,0,none⟩)],rfl,Tryz.call107,fun U1 w1 x y vs le hs ha hm=>by obtain ⟨pA_0,pc_0,rfl,hq0_0⟩:=ha;exact wGJ x pA_0 pc_0 p0 b2 av aw w1 U1 hs hq0_0 (bE.le le) (bG.le le) hm⟩
 refine bnK cj fun cS bH cm=>zL 0 Z Z Z (zQ Z Z (zw (fun h=>h af.out))) (zK Z Z Tryz.call106 (zB Z (zB Z zM)) Z) ao (fun hs=>wEV p1.Times ah ai (fun x=>wCV x p0) (.func (.func 107) #[] #[.pointer (some ⟨b2,0,none⟩)]) bm ap hs br bQ bH) (.inr Z) ?_
 rintro a7 cH cN bn bu bV ⟨rfl,rfl⟩
 have bg:sW w U a7 [.blk aq 118 B1] bn:=bV
 refine zh Z Z Z (zQ Z Z (zw (fun h=>h af.out))) (fun _=>ZN Z Z) (oR Z (zZ Z (zw (fun h=>h af.out)) Z) (oA Z Z (eN (ifc cm ?_ ?_))))
 intro bb co
 refine zm (nC bb.out) (sR (.fl 0 (.fl 1 (.fx 2 (wLf (.fx 7 (wJf (.nil)) .stop)) .stop))) Z (oR Z (zJ Z Z Zr Z zS) (oL Z (bg.ldB (j:=0) Z Z Z zc (v:=.slice aj p1.Classes.length ak) Z) ?_)))
 have bI:=ca.le bi
 have bJ:=bI.le ay
 have bK:=bJ.le az
 have bL:=bK.le bu
 refine bnK co fun cU bM cp=>zL 0 Z Z Z Z (zK Z Z Tryz.call103 (zB Z zM) Z) bg (fun hs=>wEj p1.Classes aj ak bn a7 hs bL bM) (.inr Z) ?_
 rintro ax cI cO bp cD bW ⟨rfl,rfl⟩
 have bh:sW w U ax [.blk aq 118 B1] bp:=bW
 refine oR Z (ZN Z Z) (oM Z Z (ifc cp ?_ ?_))
 intro ag cq
 refine zh Z Z Z (zQ Z Z (nC ag.out)) (fun _=>zJ Z Z Zr Z Zk) (ZO Z Z Z (zQ Z Z (nC ag.out)) (bh.ldB (j:=0) Z Z Z Zy (v:=.slice ah p1.Times.length ai) Z) Z ?_)
 have bN:=br.le bu
 have bO:=bN.le cD
 have bR:FnOK Tryz.prog ax (.func (.func 108) #[] #[]) wIO wIP wCW:=⟨108,[],[],rfl,Tryz.call108,fun U1 w1 x y vs le hs ha hm=>by obtain ⟨pA_0,pc_0,rfl,hq0_0⟩:=ha;exact wGK x pA_0 pc_0 w1 U1 hs hq0_0 hm⟩
 refine bnK cq fun cV bP cr=>zL 0 Z Z Z (zQ Z Z (nC ag.out)) (zK Z Z Tryz.call106 (zB Z (zB Z zM)) Z) bh (fun hs=>wEV p1.Times ah ai wCW (.func (.func 108) #[] #[]) bp ax hs bO bR bP) (.inr Z) ?_
 rintro a8 cJ cP bx cK bY ⟨rfl,rfl⟩
 have bt:sW w U a8 [.blk aq 118 B1] bx:=bY
 refine zh Z Z Z (zQ Z Z (nC ag.out)) (fun _=>ZN Z Z) (oR Z (zZ Z (nC ag.out) Z) (oA Z Z (eN (ifc cr ?_ ?_))))
 intro be ct
 refine zm (nC be.out) (ZV (zb (zI (sR fL1 Z (oA Z Z (eN (zO ?_)))))))
 cases ct
 exact ⟨rfl,_,(zr rfl),a8,_,(bt.pick [] _ (by decide) rfl),rfl,rfl⟩
 intro be cu
 refine ZF (nF (be.out)) (sR fL1 Z (oA Z Z (eN (zO (zf (zR ?_))))))
 cases cu
 exact ⟨rfl,_,(zr rfl),a8,_,(bt.pick [] _ (by decide) rfl),rfl,rfl⟩
 intro ag cw
 refine zd Z Z Z (zN Z Z (nF (ag.out)) Z) (zd Z Z Z (zN Z Z (nF (ag.out)) Z) (ZA Z Z Z (zN Z Z (nF (ag.out)) Z) (zd Z Z Z (zN Z Z (nF (ag.out)) Z) (oR Z (zV Z (nF (ag.out)) Z) (oA Z Z (eN (ZF Z (sR fL1 Z (oA Z Z (eN (zO (zf (zR ?_)))))))))))))
 cases cw
 exact ⟨rfl,_,(zr rfl),ax,_,(bh.pick [] _ (by decide) rfl),rfl,rfl⟩
 intro bb cy
 refine ZF (nF (bb.out)) (sR fL1 Z (oA Z Z (eN (zO (zf (zR ?_))))))
 cases cy
 exact ⟨rfl,_,(zr rfl),a7,_,(bg.pick [] _ (by decide) rfl),rfl,rfl⟩
 intro af cz
 refine oT Z af (oT Z af (oT Z af (ZA Z Z Z (zN Z Z (Zj af.out) Z) (oT Z af (oR Z (zV Z (Zj af.out) Z) (oA Z Z (eN (ZF Z (sR fL1 Z (oA Z Z (eN (zO (zf (zR ?_))))))))))))))
 cases cz
 exact ⟨rfl,_,(zr rfl),ap,_,(ao.pick [] _ (by decide) rfl),rfl,rfl⟩
 intro ae cA
 refine zd Z Z Z (zN Z Z (nF (ae.out)) Z) (zd Z Z Z (zN Z Z (nF (ae.out)) Z) (zd Z Z Z (zN Z Z (nF (ae.out)) Z) (zd Z Z Z (zN Z Z (nF (ae.out)) Z) (zd Z Z Z (zN Z Z (nF (ae.out)) Z) (zd Z Z Z (zN Z Z (nF (ae.out)) Z) (zd Z Z Z (zN Z Z (nF (ae.out)) Z) (oR Z (zV Z (nF (ae.out)) Z) (oM Z Z (oN Z (oN Z (oN Z (ZA Z Z Z (zN Z Z Z Z) (oN Z (oR Z (zV Z Z Z) (oA Z Z (eN (ZF Z (sR fL1 Z (oA Z Z (eN (zO (zf (zR ?_)))))))))))))))))))))))
 cases cA
 exact ⟨rfl,_,(zr rfl),ap,_,(ao.pick [] _ (by decide) rfl),rfl,rfl⟩
 intro ba cC
 refine cT Z ba (sR fL2 Z (oM Z Z (oA Z Z (eN (zO (zf (zR ?_)))))))
 have hE:=nB cC;first | subst r | cases hE
 exact ⟨rfl,_,(zr rfl),aY,_,(bf.pick [] _ (by decide) rfl),rfl,rfl⟩
end Go.Proofs.YtnbcoenjobdplaaGreat
namespace Go.Proofs.YtnbcoenjobdplaaGreat
open Go.KL
set_option maxHeartbeats 4000000
theorem wDz (p0:wAl) (ae:Option Addr) (ag:Nat) (ak:Option Addr) (am:Nat) (af:Option Addr) (ah:Nat) (p1:Int) (p2:Int) (w:World) (U:PHeap) (hS:St0 w U []) (az:Sl U 1 ae ag p0.Squad.Classes.length (hM KL.encI p0.Squad.Classes)) (be:SlR U wDT ak am p0.Squad.Times) (aW:Sl U 1 af ah p0.rules.Classes.length (hM KL.encI p0.rules.Classes)) {r:Bool} (hm:wCs p0 p1 p2=some r):Gv Tryz.prog 74 [.agg #[.slice ae p0.Squad.Classes.length ag,.slice ak p0.Squad.Times.length am,.slice af p0.rules.Classes.length ah,jV p0.rules.Each,jV p0.rules.Laps,jV p0.rules.Spare,jV p0.rules.Loop,jV p0.rules.Unused],jV p1,jV p2] w (wBU w [] U (fun U_ L_ v=>v=.bool r/\L_=[])):=by
 unfold wCs at hm
 refine Gv.of Tryz.func74 rfl Tryz.ntmps74 Tryz.results74 rfl (sR gBy rfl (ZS (cs:=[.slice ae p0.Squad.Classes.length ag,.slice ak p0.Squad.Times.length am,.slice af p0.rules.Classes.length ah,jV p0.rules.Each,jV p0.rules.Laps,jV p0.rules.Spare,jV p0.rules.Loop,jV p0.rules.Unused]) rfl rfl rfl rfl rfl rfl (by rfl) hS ?_))
 intro W1 b2 ay
 refine yg rfl rfl rfl rfl rfl rfl (eN (zG (ZY ZP [3,3,1,3,3,1,3,3,1,3,3,1,3,3] fL14 (by kernel_rfl) ?_)))
 have ac:=ay.drew
 generalize hw_W6:({ W1 with drawn:=W1.drawn + 1 }:World)=W6 at ac ⊢
 refine oR Z (zJ Z Z yZ Z yM) (oR Z (zJ Z Z Zr Z zS) (oL Z (ac.ldB (j:=0) Z Z Z zc (v:=.slice ae p0.Squad.Classes.length ag) Z) (oM Z Z (bnK hm fun x7 h8 aX=>?_))))
 have q:=az.el (fun _=>rfl) (wAR h8)
 obtain ⟨a8,bf,au,aw⟩:=q
 refine oR Z (yG Z Z au Z zA zD (wEK h8) (wET h8)) (oL Z (ac.ldC (f:=0) aw (v:=jV x7) Z Z zP Z) (oR Z (zJ Z Z yZ Z ZG) (oR Z (zJ Z Z zy Z zS) (oL Z (ac.ldB (j:=0) Z Z Z zc (v:=.slice af p0.rules.Classes.length ah) Z) (oM Z Z (bnK aX fun aY ai ao=>?_))))))
 have q:=aW.el (fun _=>rfl) (wAR ai)
 obtain ⟨ba,bg,av,ax⟩:=q
 refine oR Z (yG Z Z av Z zA zD (wEK ai) (wET ai)) (oL Z (ac.ldC (f:=0) ax (v:=jV aY) Z Z zP Z) (oR Z (yF Z Z Z) (oA Z Z (eN (zO ?_)))))
 first | (obtain rfl:=nB ao) | cases ao
 exact ⟨rfl,_,(zr rfl),U,_,(ac.pick [] _ (by decide) rfl),rfl,rfl⟩
theorem wGZ (p0:List Int) (ah:Option Addr) (ai:Nat) (w:World) (U:PHeap) (hS:St0 w U []) (a8:Sl U 1 ah ai p0.length (hM KL.encI p0)) {r:Int} (hm:wEh p0=some r):Gv Tryz.prog 75 [.slice ah p0.length ai] w (wBU w [] U (fun U_ L_ v=>v=jV r/\L_=[])):=by
 unfold wEh at hm
 refine Gv.of Tryz.func75 Z Tryz.ntmps75 Tryz.results75 Z (sR fL1 Z (oA Z Z (eN (sR fL1 Z (oA Z Z (eN (zG (sR fL3 Z (oM Z Z (oR Z (za Z Z zA) (oM Z Z (eN (zT (bnK hm fun bs bb bg=>?_))))))))))))))
 have q:=wAs bb
 obtain ⟨ag,ba⟩:=q
 replace ag:=zF ag
 refine CK.forN' (fun k7 x6 σ_ w_=>∃ (U_:PHeap),σ_ 8=jV (↑k7:Int)/\σ_ 3=jV x6/\σ_ 6=.slice ah p0.length ai/\σ_ 7=jV (↑p0.length:Int)/\PHeap.Le U U_/\sW w U U_ [] w_) ba ?_ ?_ ?_
 exact ⟨U,Z,Z,Z,Z,(zH _),hS⟩
 rintro k7 x6 br bt bj af ⟨au,ae,ax,ak,am,ap,ao⟩ bh
 have aj:Hid ((↑k7:Int) < (↑p0.length:Int)):=zF (wAo af)
 replace af:=zF af
 have be:Hid (w64 ((↑k7:Int) + 1)=(↑(k7 + 1):Int)):=zF (by have h1:=ag.out;have h2:=aj.out;rw [wAT] <;> omega)
 refine sR fL1 Z (oR Z (zU Z ae am) (eN (zG (cT Z aj (kN (zG (zT (sR fL3 Z (bnK bh fun bi an bf=>?_)))))))))
 have aX:=a8.le ap
 have q:=aX.el (fun _=>rfl) (wAR an)
 obtain ⟨bm,bq,aY,aZ⟩:=q
 refine oR Z (zo Z ak aY ae zA zD (wAj an)) (oL Z (ao.ldC (f:=0) aZ (v:=jV bi) Z Z zP Z) (oA Z Z (eN (rR fL4 Z (oM Z ax (oM Z Z (oR Z (zX Z Z Z) (oA Z Z (zg (zb (zI (rR fL2 Z (oR Z (zn (zX Z ae Z) (congrArg (jV) be.out)) (oM Z Z (zg ?_)))))))))))))))
 cases bf
 exact zI ⟨Z,⟨au,Z,Z,ak,am,ap,ao⟩⟩
 rintro bu bl ⟨av,aW,ay,bn,az,bp,a7⟩
 have aw:Hid (¬ ((↑(((↑p0.length:Int):Int) - 0).toNat:Int) < (↑p0.length:Int))):=zF (wAa)
 refine sR fL1 Z (oR Z (zU Z aW az) (eN (zG (cF Z aw (ZI (zY (zY (ZD (zI (sR fL2 Z (oM Z ay (oA Z Z (eN (zO ?_))))))))))))))
 have hE:=nB bg;first | subst r | cases hE
 exact ⟨Z,_,(zr Z),av,_,a7,Z,Z⟩
theorem wGL (p0:wAl) (aY:Option Addr) (a7:Nat) (av:Option Addr) (aw:Nat) (aZ:Option Addr) (a8:Nat) (p1:List Int) (bm:Option Addr) (bn:Nat) (w:World) (U:PHeap) (hS:St0 w U []) (cU:Sl U 1 aY a7 p0.Squad.Classes.length (hM KL.encI p0.Squad.Classes)) (cV:SlR U wDT av aw p0.Squad.Times) (cW:Sl U 1 aZ a8 p0.rules.Classes.length (hM KL.encI p0.rules.Classes)) (cX:Sl U 1 bm bn p1.length (hM KL.encI p1)) {r:Int × Bool} (hm:wDg p0 p1=some r):Gv Tryz.prog 111 [.agg #[.slice aY p0.Squad.Classes.length a7,.slice av p0.Squad.Times.length aw,.slice aZ p0.rules.Classes.length a8,jV p0.rules.Each,jV p0.rules.Laps,jV p0.rules.Spare,jV p0.rules.Loop,jV p0.rules.Unused],.slice bm p1.length bn] w (wBU w [] U (fun U_ L_ v=>v=.tuple #[jV r.1,.bool r.2]/\L_=[])):=by
 unfold wDg at hm
 refine Gv.of Tryz.func111 Z Tryz.ntmps111 Tryz.results111 Z (sR gCg Z ?_)
 let B0:List Value:=[.slice aY p0.Squad.Classes.length a7,.slice av p0.Squad.Times.length aw,.slice aZ p0.rules.Classes.length a8,jV p0.rules.Each,jV p0.rules.Laps,jV p0.rules.Spare,jV p0.rules.Loop,jV p0.rules.Unused]
 refine ZS (cs:=B0) rfl rfl rfl rfl rfl rfl (by rfl) hS ?_
 intro W1 b2 bG
 refine oA Z Z (oA Z Z (eN (sR fL3 Z (oL Z (bG.ldBA (j:=0) Z Z Z Tryz.isAgg158 yk (vs:=B0) Z Z) (oR Z (yW Z (zB Z zM) zM) (oA Z Z (eN (sR fL1 Z (oA Z Z (eN (sR (.fx 0 .nil .stop) Z (zz (cs:=hM KL.encI (Arr.fill 8 0).l) Z Z Z Z Z Tryz.zeroValue227 Z bG ?_))))))))))))
 intro W5 b6 cP
 have cS:sW w U U [.blk b6 227 (hM KL.encI (Arr.fill 8 0).l),.blk b2 158 B0] W5:=cP
 refine eN (zG (sR fL3 Z (oM Z Z (oR Z (za Z Z zA) (oM Z Z (eN (zT ?_)))))))
 have q:=wBe hm
 obtain ⟨dP,aX⟩:=q
 have q:=wBd aX
 obtain ⟨bl,cZ⟩:=q
 replace bl:=zF bl
 refine yA (fun ao (ae,aq) σ_ w_=>∃ (U_:PHeap) (ax:Option Addr) (ay:Nat),σ_ 15=jV (↑ao:Int)/\σ_ 2=.pointer (some ⟨b2,0,none⟩)/\σ_ 6=.func (.func 74) #[.agg B0.toArray] #[]/\σ_ 7=.slice ax aq.length ay/\σ_ 8=.pointer (some ⟨b6,0,none⟩)/\σ_ 13=.slice bm p1.length bn/\σ_ 14=jV (↑p1.length:Int)/\PHeap.Le U U_/\sW w U U_ [.blk b6 227 (hM KL.encI ae.l),.blk b2 158 B0,.row ax ay 3 1 (hM KL.encI aq)] w_) cZ ?_ ?_ ?_
 have cN:=cS.nilrow 3 1
 exact ⟨U,none,0,rfl,rfl,rfl,rfl,rfl,rfl,rfl,(zH _),(cN.pick [1,2,0] _ (by decide) rfl)⟩
 rintro ao ⟨ae,aq⟩ dV dX dD bj ⟨bu,ax,ay,aW,bf,bz,ci,az,bA,bB,au,bi⟩ bK bI
 try dsimp only at bK
 have bx:Hid ((↑ao:Int) < (↑p1.length:Int)):=zF (wAo bj)
 replace bj:=zF bj
 have da:Hid (w64 ((↑ao:Int) + 1)=(↑(ao + 1):Int)):=zF (by have h1:=bl.out;have h2:=bx.out;rw [wAT] <;> omega)
 refine sR fL1 Z (oR Z (zU Z aW bB) (eN (zG (cT Z bx (kN (zG (zT (sR fL5 Z (oM Z aW (bnK bK fun ac bD dh=>?_))))))))))
 have cq:=cX.le au
 have q:=cq.el (fun _=>rfl) (wAR bD)
 obtain ⟨dF,dO,cA,cD⟩:=q
 refine oR Z (zo Z bA cA aW zA zD (wAj bD)) (oL Z (bi.ldC (f:=0) cD (v:=jV ac) Z Z zP Z) (oA Z Z (oA Z Z (eN (sR (wHS (.fx 5 .nil .stop)) Z (oM Z Z (bnK dh fun _ ah di=>oR Z (Runs.iaA Z az Z Tryz.runUnderlying227 zD (wEt ah) (wEu ah)) ?_)))))))
 have c6:=Arr.at_ ae (k:=ac.toNat) (by have hz0:=wAd ah;omega)
 refine ZO rfl rfl rfl rfl (bi.ldB (j:=0) rfl rfl rfl zP (wAp (sz:=1) (fun _=>rfl) _ _ 0 _ c6 (by first | omega | rfl | simp) rfl)) rfl (zh rfl rfl rfl rfl (fun _=>zX rfl rfl rfl) (zh rfl rfl rfl rfl (fun _=>Runs.iaA rfl az rfl Tryz.runUnderlying227 zD (wEt ah) (wEu ah)) ?_))
 have c7:=Arr.at_ ae (k:=ac.toNat) (by have hz0:=wAd ah;omega)
 refine zu (j:=0) (vs:=[jV (w64 ((ae.get ac.toNat) + 1))]) (cs':=hM KL.encI (ae.set ac.toNat (w64 ((ae.get ac.toNat) + 1))).l) rfl rfl rfl rfl bi rfl rfl rfl rfl zD (by have hz0:=wAd ah;simp only [nI,nJ,nK,nG,wHr (f:=KL.encI) (sz:=1) (N:=8) ae (fun _=>rfl) rfl];omega) rfl (wFP (sz:=1) (fo:=0) (fun _=>rfl) _ _ _ _ c7 (by first | omega | rfl | simp) (zC rfl) rfl) rfl ?_
 intro bb cO
 let B1:Res:=.row ax ay 3 1 (hM KL.encI aq)
 have cQ:sW w U bu [.blk b6 227 (hM KL.encI (ae.set ac.toNat (w64 ((ae.get ac.toNat) + 1))).l),.blk b2 158 B0,B1] bb:=cO
 refine eN (zG (zG (ZY ZP [3,3,3,2,3,3,3,3,1,3,3,1,3,3] (wDE (.fx 3 (wNd (.nil)) .stop)) (by kernel_rfl) ?_)))
 have bH:=cQ.drew
 generalize hw_W72:({ bb with drawn:=bb.drawn + 1 }:World)=bW at bH ⊢
 refine oM Z bz (oM Z Z (oM Z Z ?_))
 have cr:=cU.le au
 have bE:=cV.le au
 have ct:=cW.le au
 refine bnK di fun dU cu dm=>zL 0 Z Z Z Z (zK Z Z Tryz.call74 (zB Z (zB Z zM)) Z) bH (fun hs=>wDz p0 aY a7 av aw aZ a8 ac (↑ao:Int) bW bu hs cr bE ct cu) (.inr Z) ?_
 rintro an dA dR bX bL cR ⟨rfl,rfl⟩
 have am:sW w U an [.blk b6 227 (hM KL.encI (ae.set ac.toNat (w64 ((ae.get ac.toNat) + 1))).l),.blk b2 158 B0,B1] bX:=cR
 refine oR Z (ZN Z Z) (oM Z Z (ifc dm ?_ ?_))
 intro af dn
 refine zj Z Z Z (zQ Z Z (nC af.out)) Z Z (zh Z Z Z (zQ Z Z (nC af.out)) (fun _=>Runs.iaA Z az Z Tryz.runUnderlying227 zD (wEt ah) (wEu ah)) ?_)
 have c9:=Arr.at_ (ae.set ac.toNat (w64 ((ae.get ac.toNat) + 1))) (k:=ac.toNat) (by have hz0:=wAd ah;omega)
 refine ZO rfl rfl rfl (zQ rfl rfl (nC af.out)) (am.ldB (j:=0) rfl rfl rfl zP (wAp (sz:=1) (fun _=>rfl) _ _ 0 _ c9 (by first | omega | rfl | simp) rfl)) rfl (zh rfl rfl rfl (zQ rfl rfl (nC af.out)) (fun _=>zJ rfl bf yZ rfl ZG) (zh rfl rfl rfl (zQ rfl rfl (nC af.out)) (fun _=>zJ rfl rfl zy rfl zD) (ZO rfl rfl rfl (zQ rfl rfl (nC af.out)) (am.ldB (j:=1) rfl rfl rfl zP (v:=jV p0.rules.Each) rfl) rfl (zh rfl rfl rfl (zQ rfl rfl (nC af.out)) (fun _=>yN rfl rfl rfl) (zh rfl rfl rfl rfl (fun _=>zZ rfl (nC af.out) rfl) (eN (ifc dn ?_ ?_)))))))
 intro be dp
 refine cT Z be (sR fL2 Z (oA Z Z (oA Z Z (eN (zO (zR (zf (zR ?_))))))))
 have q:=wAf dp
 obtain ⟨dy,dq,cd⟩:=q
 have q:=wCI hm aX (bI dy cd)
 obtain rfl:=q
 refine zR (zf (zR ?_))
 cases dq
 exact ⟨rfl,_,(wFc rfl rfl),an,_,(am.pick [] _ (by decide) rfl),rfl,rfl⟩
 intro be dr
 refine cF Z be (kN (rR (wPF (.fx 10 (.fx 11 (.fl 12 .nil) .stop) .stop)) Z (oM Z ci (oR Z (zJ Z bf yZ Z yM) (oR Z (zJ Z Z Zr Z Zk) (oL Z (am.ldB (j:=1) Z Z Z Zy (v:=.slice av p0.Squad.Times.length aw) Z) (oM Z Z (bnK dr fun bP bg dt=>?_))))))))
 have cw:=bE.le bL
 have q:=cw.el (wAR bg)
 obtain ⟨bZ,dw,dS,cy,bh,du⟩:=q
 obtain ⟨bM,bN,rfl,cm⟩:=du
 replace bh:Cl an bZ (dw + ac.toNat * 1) [.slice bM bP.length bN]:=bh
 refine oR Z (yG Z Z cy Z zq zS (wEK bg) (wET bg)) (oL Z (am.ldC (f:=0) bh (v:=.slice bM bP.length bN) Z Z zc Z) (oM Z Z (bnK dt fun ap bC db=>?_)))
 have q:=cm.el (fun _=>rfl) (wAR bC)
 obtain ⟨dE,dN,cz,cC⟩:=q
 refine oR Z (zo Z Z cz Z zA zD (wAj bC)) (oL Z (am.ldC (f:=0) cC (v:=jV ap) Z Z zP Z) (zW (pv:=[(0,jV ap)]) (zs:=[jV 0]) (cs:=[jV ap]) Z Z Z Z Z (wAC Z wAM) zA zD zt Z Z Z Z Z am ?_))
 intro bS bY cE
 let B2:Res:=.row (some ⟨bY,0,none⟩) 1 3 1 (hM KL.encI [ap])
 have bF:sW w U an [B2,.blk b6 227 (hM KL.encI (ae.set ac.toNat (w64 ((ae.get ac.toNat) + 1))).l),.blk b2 158 B0,B1] bS:=cE
 refine bnK db fun bO co dd=>Zs (j:=3) (enc:=KL.encI) (xs:=aq) (ys:=[ap]) (zs:=bO) rfl rfl rfl rfl rfl Zi wFA rfl rfl rfl rfl rfl rfl bF rfl rfl rfl (bF.srcR (j:=0) rfl (by decide) (wAF (f:=KL.encI) (sz:=1) (fun _=>rfl) [ap])) (fun _=>rfl) (fun _=>rfl) co rfl ?_
 intro bq bw bT cG
 have cH:sW w U an [B2,.blk b6 227 (hM KL.encI (ae.set ac.toNat (w64 ((ae.get ac.toNat) + 1))).l),.blk b2 158 B0,.row bq bw 3 1 (hM KL.encI bO)] bT:=cG
 refine oA Z Z (zg (zb (zI (rR fL2 Z (oR Z (zn (zX Z aW Z) (congrArg (jV) da.out)) (oM Z Z (zg ?_)))))))
 have q:=nB dd
 obtain rfl:=q
 exact zI ⟨rfl,_,rfl,⟨an,bq,bw,rfl,bf,bz,rfl,az,bA,bB,(au.trans bL),(cH.pick [1,2,3] _ (by decide) rfl)⟩⟩
 intro af de
 refine zd Z Z Z (zN Z Z (nF (af.out)) Z) (zd Z Z Z (zN Z Z (nF (af.out)) Z) (zd Z Z Z (zN Z Z (nF (af.out)) Z) (zd Z Z Z (zN Z Z (nF (af.out)) Z) (zd Z Z Z (zN Z Z (nF (af.out)) Z) (zd Z Z Z (zN Z Z (nF (af.out)) Z) (zd Z Z Z (zN Z Z (nF (af.out)) Z) (oR Z (zV Z (nF (af.out)) Z) (eN (ZF Z (sR fL2 Z (oA Z Z (oA Z Z (eN (zO (zR (zf (zR ?_)))))))))))))))))
 have q:=wAf de
 obtain ⟨dx,df,cc⟩:=q
 have q:=wCI hm aX (bI dx cc)
 obtain rfl:=q
 refine zR (zf (zR ?_))
 cases df
 exact ⟨rfl,_,(wFc rfl rfl),an,_,(am.pick [] _ (by decide) rfl),rfl,rfl⟩
 rintro ⟨bQ,bp⟩ dW bv ⟨dB,bR,b4,cj,dG,dH,cg,dI,dJ,ch,dK,cI⟩ cY
 have bJ:=wCm hm aX cY
 try dsimp only at bJ
 have ca:Hid (¬ ((↑(((↑p1.length:Int):Int) - 0).toNat:Int) < (↑p1.length:Int))):=zF (wAa)
 refine sR fL1 Z (oR Z (zU Z cj ch) (eN (zG (cF Z ca (ZI (zY (zY (ZD (zI (sR (.fl 0 gCj) Z (oM Z cg ?_)))))))))))
 have q:=cI.freezeR (k:=2) (n:=bp.length) rfl (wAF (f:=KL.encI) (sz:=1) (fun _=>rfl) bp) (by decide)
 obtain ⟨bs,dL,dv,cJ⟩:=q
 have cK:sW w U bs [.blk b6 227 (hM KL.encI bQ.l),.blk b2 158 B0] bv:=cJ
 refine bnK bJ fun dT cp dg=>zL 0 Z Z Z Z (zK Z Z Tryz.call75 (zB Z zM) Z) cK (fun hs=>wGZ bp bR b4 bv bs hs dv cp) (.inr Z) ?_
 rintro bt dz dQ bU dM cL ⟨rfl,rfl⟩
 have cM:sW w U bt [.blk b6 227 (hM KL.encI bQ.l),.blk b2 158 B0] bU:=cL
 refine oA Z Z (oA Z Z (eN (zO ?_)))
 cases dg
 exact ⟨rfl,_,(wFc rfl rfl),bt,_,(cM.pick [] _ (by decide) rfl),rfl,rfl⟩
theorem wFv (n_:Nat):∀ (p0:List Int) (ag:Option Addr) (ai:Nat) (p1:wAl) (aj:Nat) (bp:Option Addr) (br:Nat) (bx:Option Addr) (bz:Nat) (bq:Option Addr) (bs:Nat) (p2:List Int) (af:Nat) (aW:Option Addr) (a8:Nat) (p3:Int) (ah:Nat) (p4:Int) (ak:Nat) (p5:Unit) (am:Nat) (w:World) (U:PHeap) (hS:St0 w U [.blk af 23 [.slice aW p2.length a8],.row aW a8 3 1 (hM KL.encI p2),.blk ah 3 [jV p3]]) (bv:Sl U 1 ag ai p0.length (hM KL.encI p0)) (bV:Cl U aj 0 [.slice bp p1.Squad.Classes.length br,.slice bx p1.Squad.Times.length bz,.slice bq p1.rules.Classes.length bs,jV p1.rules.Each,jV p1.rules.Laps,jV p1.rules.Spare,jV p1.rules.Loop,jV p1.rules.Unused]) (dd:Sl U 1 bp br p1.Squad.Classes.length (hM KL.encI p1.Squad.Classes)) (de:SlR U wDT bx bz p1.Squad.Times) (df:Sl U 1 bq bs p1.rules.Classes.length (hM KL.encI p1.rules.Classes)) (bW:p2=[]->aW=none) (eK:Cl U ak 0 [jV p4]) (bB:Cl U am 0 [.func (.func 110) #[] #[.pointer (some ⟨aj,0,none⟩),.pointer (some ⟨af,0,none⟩),.pointer (some ⟨ah,0,none⟩),.pointer (some ⟨ak,0,none⟩),.pointer (some ⟨am,0,none⟩)]]) {r:(List Int) × Int} (hm:wCt n_ p0 p1 p2 p3 p4 p5=some r),Gv Tryz.prog 110 [.slice ag p0.length ai,.pointer (some ⟨aj,0,none⟩),.pointer (some ⟨af,0,none⟩),.pointer (some ⟨ah,0,none⟩),.pointer (some ⟨ak,0,none⟩),.pointer (some ⟨am,0,none⟩)] w (wBU w [.blk af 23 [.slice aW p2.length a8],.row aW a8 3 1 (hM KL.encI p2),.blk ah 3 [jV p3]] U (fun U_ L_ v=>∃ (cD:Option Addr) (dS:Nat),v=.tuple #[]/\L_=[.row cD dS 3 1 (hM KL.encI r.1),.blk af 23 [.slice cD r.1.length dS],.blk ah 3 [jV r.2]]/\(r.1=[]->cD=none))):=by
 induction n_ with
 | zero =>
  intros
  rename_i hm
  have k8:(none:Option ((List Int) × Int))=some _:=hm
  cases k8
 | succ n_ ih =>
  intro p0 ag ai p1 aj bp br bx bz bq bs p2 af aW a8 p3 ah p4 ak p5 am w U hS bv bV dd de df bW eK bB r hm
  have hm:wDI (wCt n_) p0 p1 p2 p3 p4 p5=some r:=hm
  unfold wDI at hm
  refine Gv.of Tryz.func110 Z Tryz.ntmps110 Tryz.results110 Z (zG (sR fL7 Z (oM Z Z (oR Z (za Z Z zA) (oR Z (zJ Z Z yZ Z ZG) (oR Z (zJ Z Z zy Z zS) (oL Z (hS.ldC (f:=2) bV (v:=.slice bq p1.rules.Classes.length bs) Z Z zc Z) (oR Z (za Z Z zA) (oR Z (yF Z Z Z) (eN ?_))))))))))
  by_cases c4:(↑p0.length:Int)=(↑p1.rules.Classes.length:Int)
  ·have eR:=hm;rw [if_pos c4] at eR;replace c4:=zF c4
   refine cT Z c4 (zG (sR (.fl 0 (.fl 1 (.fx 2 (wOL (.nil)) .stop))) Z (oL Z (hS.ldCA (f:=0) bV Z Z Tryz.isAgg158 yk (us:=[.slice bp p1.Squad.Classes.length br,.slice bx p1.Squad.Times.length bz,.slice bq p1.rules.Classes.length bs,jV p1.rules.Each,jV p1.rules.Laps,jV p1.rules.Spare,jV p1.rules.Loop,jV p1.rules.Unused]) Z Z) (oM Z Z ?_))))
   have q:=bnd eR
   obtain ⟨⟨x6,x7⟩,h8,eT⟩:=q
   try dsimp only at eT
   refine zL 0 Z Z Z Z (zK Z Z Tryz.call111 (zB Z (zB Z zM)) Z) hS (fun hs=>wGL p1 bp br bx bz bq bs p0 ag ai w U hs dd de df bv h8) (.inr Z) ?_
   rintro bP lH mj cM e8 jp ⟨rfl,rfl⟩
   let B0:Res:=.row aW a8 3 1 (hM KL.encI p2)
   let B1:Res:=.blk af 23 [.slice aW p2.length a8]
   let B2:Res:=.blk ah 3 [jV p3]
   have bA:SW w [B1,B0,B2] U bP [B1,B0,B2] cM:=jp
   refine oM Z Z (oR Z (zx Z Z (v:=jV x6) Z) (oR Z (zx Z Z (v:=.bool x7) Z) (oA Z Z (oA Z Z (eN (sR wMj Z (oM Z Z (oM Z Z (ifc eT ?_ ?_)))))))))
   ·intro a7 lb
    refine ZO Z Z Z (zQ Z Z (congrArg nD a7.out)) (bA.ldB (j:=0) Z Z Z zc (v:=.slice aW p2.length a8) Z) Z ?_
    have im:aW.isNone=decide (p2=[]):=wJq (j:=1) bA rfl (fun _=>rfl) (by decide) bW
    refine zh Z Z Z (zQ Z Z (congrArg nD a7.out)) (fun _=>Runs.eqNilR Z Z Z zA im) (zj Z Z Z (zQ Z Z (congrArg nD a7.out)) Z Z (ifc lb ?_ ?_))
    ·intro bj lh
     refine oT Z bj (oT Z bj (oT Z bj (zh Z Z Z (zQ Z Z (congrArg nD a7.out)) (fun _=>zV Z (Zj bj.out) Z) (oR Z (zV Z (congrArg nD a7.out) Z) (eN (ZF Z (rR gCr Z (oM Z Z ?_))))))))
     have ip:=bv.le e8
     refine bnK lh fun fe iq lj=>zL 0 Z Z Z Z (zK Z Z Tryz.call66 (zB Z zM) Z) bA (fun hs=>wBD p0 ag ai cM bP hs ip iq) (.inr Z) ?_
     rintro cc lJ mm ft mf jq ⟨ct,cR,rfl,rfl⟩
     let B3:Res:=.row ct cR 3 1 (hM KL.encI fe)
     have jr:SW w [B1,B0,B2] U cc [B3,B1,B0,B2] ft:=jq
     refine oM Z Z (bnK lj fun mw ir lk=>?_)
     let B4:List Value:=[.slice ct fe.length cR]
     refine zu (j:=1) (vs:=B4) Z Z Z Z jr Z Z Z Z zS (zC Z) Z Z Z ?_
     intro fu jt
     have ju:SW w [B1,B0,B2] U cc [B3,.blk af 23 B4,B0,B2] fu:=jt
     refine zu (j:=3) (vs:=[jV x6]) Z Z Z Z ju Z Z Z Z zD (zC Z) Z Z Z ?_
     intro fw jw
     have jx:SW w [B1,B0,B2] U cc [B3,.blk af 23 B4,B0,.blk ah 3 [jV x6]] fw:=jw
     refine eN (zO (zR ?_))
     cases lk
     exact ⟨rfl,_,(wMk),cc,_,(jx.pick [0,1,3] _ (by decide) rfl),ct,cR,rfl,rfl,(fun h=>absurd h (wKV ir))⟩
    ·intro bj ll
     refine zj Z Z Z (wF Z bj) Z Z (ZO Z Z Z (wF Z bj) (bA.ldB (j:=2) Z Z Z zP (v:=jV p3) Z) Z (rU Z (wF Z bj) (zU Z Z Z) (zh Z Z Z (zQ Z Z (congrArg nD a7.out)) (fun _=>zZ Z (zw bj.out) Z) (oR Z (zV Z (congrArg nD a7.out) Z) (eN (ifc ll ?_ ?_))))))
     ·intro cV lm
      refine cT Z cV (rR gCr Z (oM Z Z ?_))
      have iC:=bv.le e8
      refine bnK lm fun ff iP ln=>zL 0 Z Z Z Z (zK Z Z Tryz.call66 (zB Z zM) Z) bA (fun hs=>wBD p0 ag ai cM bP hs iC iP) (.inr Z) ?_
      rintro cd lL mo fz mg jG ⟨cA,cY,rfl,rfl⟩
      let B5:Res:=.row cA cY 3 1 (hM KL.encI ff)
      have jJ:SW w [B1,B0,B2] U cd [B5,B1,B0,B2] fz:=jG
      refine oM Z Z (bnK ln fun mx iZ lq=>?_)
      let B6:List Value:=[.slice cA ff.length cY]
      refine zu (j:=1) (vs:=B6) Z Z Z Z jJ Z Z Z Z zS (zC Z) Z Z Z ?_
      intro fE jO
      have jQ:SW w [B1,B0,B2] U cd [B5,.blk af 23 B6,B0,B2] fE:=jO
      refine zu (j:=3) (vs:=[jV x6]) Z Z Z Z jQ Z Z Z Z zD (zC Z) Z Z Z ?_
      intro fH jU
      have jY:SW w [B1,B0,B2] U cd [B5,.blk af 23 B6,B0,.blk ah 3 [jV x6]] fH:=jU
      refine eN (zO (zR ?_))
      cases lq
      exact ⟨rfl,_,(wMk),cd,_,(jY.pick [0,1,3] _ (by decide) rfl),cA,cY,rfl,rfl,(fun h=>absurd h (wKV iZ))⟩
     ·intro cV lu
      refine cF Z cV (kN (zO (zR ?_)))
      cases lu
      exact ⟨rfl,_,(wMk),bP,_,(bA.pick [1,0,2] _ (by decide) rfl),aW,a8,rfl,rfl,bW⟩
   ·intro a7 lv
    refine zd Z Z Z (zN Z Z (congrArg nD (nE.2 a7.out)) Z) (zd Z Z Z (zN Z Z (congrArg nD (nE.2 a7.out)) Z) (zd Z Z Z (zN Z Z (congrArg nD (nE.2 a7.out)) Z) (zd Z Z Z (wAU Z Z Z) (zd Z Z Z (wAU Z Z Z) (zd Z Z Z (wAU Z Z Z) (zd Z Z Z (zN Z Z (congrArg nD (nE.2 a7.out)) Z) (oR Z (zZ Z (congrArg nD (nE.2 a7.out)) Z) (eN (zm Z (kN (zO (zR ?_))))))))))))
    cases lv
    exact ⟨rfl,_,(wMk),bP,_,(bA.pick [1,0,2] _ (by decide) rfl),aW,a8,rfl,rfl,bW⟩
  ·have eS:=hm;rw [if_neg c4] at eS;replace c4:=zF c4
   refine cF Z c4 (kN (sR fL5 Z (oR Z (zJ Z Z yZ Z yM) (oR Z (zJ Z Z Zr Z zS) (oL Z (hS.ldC (f:=0) bV (v:=.slice bp p1.Squad.Classes.length br) Z Z zc Z) (oR Z (za Z Z zA) (oM Z Z (eN (zT ?_)))))))))
   have q:=bnd eS
   obtain ⟨⟨mz,mA⟩,k5,eU⟩:=q
   try dsimp only at eU
   have q:=wAs k5
   obtain ⟨di,k6⟩:=q
   replace di:=zF di
   let B7:Res:=.row aW a8 3 1 (hM KL.encI p2)
   let B8:Res:=.blk af 23 [.slice aW p2.length a8]
   let B9:Res:=.blk ah 3 [jV p3]
   refine CK.forN' (fun aa (bC,cr) σ_ w_=>∃ (U_:PHeap) (bi:Option Addr) (bu:Nat),σ_ 40=jV (↑aa:Int)/\σ_ 0=.slice ag p0.length ai/\σ_ 1=.pointer (some ⟨aj,0,none⟩)/\σ_ 4=.pointer (some ⟨ak,0,none⟩)/\σ_ 5=.pointer (some ⟨am,0,none⟩)/\σ_ 39=jV (↑p1.Squad.Classes.length:Int)/\PHeap.Le U U_/\SW w [B8,B7,B9] U U_ [.row bi bu 3 1 (hM KL.encI bC),.blk af 23 [.slice bi bC.length bu],.blk ah 3 [jV cr]] w_/\(bC=[]->bi=none)) k6 ?_ ?_ ?_
   ·exact ⟨U,aW,a8,rfl,rfl,rfl,rfl,rfl,rfl,(zH _),(hS.pick [1,0,2] _ (by decide) rfl),bW⟩
   ·rintro aa ⟨bC,cr⟩ my mJ fq dh ⟨dA,bi,bu,bh,bg,bl,bm,be,bn,ax,cp,c9⟩ dm
    try dsimp only at dm
    have dM:Hid ((↑aa:Int) < (↑p1.Squad.Classes.length:Int)):=zF (wAo dh)
    replace dh:=zF dh
    have dg:Hid (w64 ((↑aa:Int) + 1)=(↑(aa + 1):Int)):=zF (by have h1:=di.out;have h2:=dM.out;rw [wAT] <;> omega)
    refine sR fL1 Z (oR Z (zU Z bh bn) (eN (zG (cT Z dM (kN (zG (zT (sR fL2 Z (oM Z bh (oA Z Z (eN (sR (wOK gCb) Z (oM Z Z ?_)))))))))))))
    have ew:=eK.le ax
    refine oL Z (cp.ldC (f:=0) ew (v:=jV p4) Z bm zP Z) (oR Z (ZW Z Z Z) (oM Z Z ?_))
    by_cases aw:(↑aa:Int)=p4
    ·have eM:=dm;rw [if_pos aw] at eM;replace aw:=zF aw
     refine zd Z Z Z (zN Z Z (zw (fun h=>h aw.out)) Z) (zd Z Z Z (zN Z Z (zw (fun h=>h aw.out)) Z) (zd Z Z Z (zN Z Z (zw (fun h=>h aw.out)) Z) (zd Z Z Z (zN Z Z (zw (fun h=>h aw.out)) Z) (ZA Z Z Z (zN Z Z (zw (fun h=>h aw.out)) Z) (oR Z (zZ Z (zw (fun h=>h aw.out)) Z) (eN (zm Z (ZV (zb (zI (rR fL2 Z (oR Z (zn (zX Z bh Z) (congrArg (jV) dg.out)) (oM Z Z (zg ?_))))))))))))))
     cases eM
     exact zI ⟨Z,⟨dA,bi,bu,Z,bg,bl,bm,be,bn,ax,cp,c9⟩⟩
    ·have eP:=dm;rw [if_neg aw] at eP;replace aw:=zF aw
     have ey:=bV.le ax
     refine ZO Z Z Z (wT Z aw) (cp.ldCA (f:=0) ey Z bl Tryz.isAgg158 yk (us:=[.slice bp p1.Squad.Classes.length br,.slice bx p1.Squad.Times.length bz,.slice bq p1.rules.Classes.length bs,jV p1.rules.Each,jV p1.rules.Laps,jV p1.rules.Spare,jV p1.rules.Loop,jV p1.rules.Unused]) Z Z) Z (zj Z Z Z (wT Z aw) Z Z (zj Z Z Z (wT Z aw) Z bg (rU Z (wT Z aw) (za Z Z zA) ?_)))
     have eB:=dd.le ax
     have eC:=de.le ax
     have eD:=df.le ax
     refine bnK eP fun mu il k9=>zL 0 Z Z Z (wT Z aw) (zK Z Z Tryz.call74 (zB Z (zB Z (zB Z zM))) Z) cp (fun hs=>wDz p1 bp br bx bz bq bs (↑aa:Int) (↑p0.length:Int) fq dA hs eB eC eD il) (.inr Z) ?_
     rintro az lI ml cN ay jo ⟨rfl,rfl⟩
     let aq:Res:=.row bi bu 3 1 (hM KL.encI bC)
     let au:Res:=.blk af 23 [.slice bi bC.length bu]
     let av:Res:=.blk ah 3 [jV cr]
     have eH:SW w [B8,B7,B9] U az [aq,au,av] cN:=jo
     refine oR Z (zV Z (Zj aw.out) Z) (eN (ifc k9 ?_ ?_))
     ·intro cQ la
      refine ZF (congrArg nD cQ.out) (bnK la fun ba co lc=>bnK lc fun aZ eG li=>?_)
      have q:=bnd li
      obtain ⟨⟨bX,fd⟩,io,eQ⟩:=q
      try dsimp only at eQ
      refine ZY ZP [2,3,2,3,2,0,0] (.fl 1 (.fl 3 (.fx 0 (.fx 2 gCk (.fx 4 gCl .stop)) (.fx 2 (.fx 0 gCk (.fx 4 gCn .stop)) (.fx 4 (.fx 0 gCl (.fx 2 gCn .stop)) .stop))))) (by kernel_rfl) ?_
      have bI:=eH.drew
      generalize hw_W213:({ cN with drawn:=cN.drawn + 1 }:World)=dH at bI ⊢
      refine ye (s:=.nil) (M:=fun σ_ w_=>∃ (U_:PHeap) (bJ:Option Addr) (ch:Nat) (cu:Option Addr) (cS:Nat) (cw:Option Addr) (cU:Nat),σ_ 0=.slice ag p0.length ai/\σ_ 1=.pointer (some ⟨aj,0,none⟩)/\σ_ 4=.pointer (some ⟨ak,0,none⟩)/\σ_ 5=.pointer (some ⟨am,0,none⟩)/\σ_ 9=jV (↑aa:Int)/\σ_ 39=jV (↑p1.Squad.Classes.length:Int)/\σ_ 40=jV (↑aa:Int)/\σ_ 53=.func (.func 110) #[] #[.pointer (some ⟨aj,0,none⟩),.pointer (some ⟨af,0,none⟩),.pointer (some ⟨ah,0,none⟩),.pointer (some ⟨ak,0,none⟩),.pointer (some ⟨am,0,none⟩)]/\σ_ 54=.slice ag p0.length ai/\σ_ 56=jV (↑aa:Int)/\σ_ 57=.slice cu ([(↑aa:Int)].length) cS/\σ_ 58=.slice cw aZ.length cU/\σ_ 59=.tuple #[]/\PHeap.Le az U_/\SW w [B8,B7,B9] U U_ [.row bJ ch 3 1 (hM KL.encI bX),.blk af 23 [.slice bJ bX.length ch],.blk ah 3 [jV fd],.row cu cS 3 1 (hM KL.encI [(↑aa:Int)])] w_/\(bX=[]->bJ=none)/\Sl U_ 1 cw cU aZ.length (hM KL.encI aZ)) ?_ fun lx=>?_
      ·rintro mB lS ⟨fh,bJ,ch,cu,cS,cw,cU,fP,fQ,fR,fS,lY,fT,fU,lZ,l4,l5,l6,l7,l8,lz,jv,it,me⟩
       refine zg (zb (zI (rR fL2 Z (oR Z (zn (zX Z fU Z) (congrArg (jV) dg.out)) (oM Z Z (zg ?_))))))
       cases eQ
       exact zI ⟨rfl,⟨fh,bJ,ch,rfl,fP,fQ,fR,fS,fT,((ax.trans ay).trans lz),(jv.pick [0,1,2] _ (by decide) rfl),it⟩⟩
      refine ye (s:=.fx 6 .nil .stop) (M:=fun σ_ w_=>∃ (U_:PHeap) (bK:Option Addr) (bQ:Nat) (bL:Option Addr) (bR:Nat),σ_ 0=.slice ag p0.length ai/\σ_ 1=.pointer (some ⟨aj,0,none⟩)/\σ_ 4=.pointer (some ⟨ak,0,none⟩)/\σ_ 5=.pointer (some ⟨am,0,none⟩)/\σ_ 9=jV (↑aa:Int)/\σ_ 39=jV (↑p1.Squad.Classes.length:Int)/\σ_ 40=jV (↑aa:Int)/\σ_ 53=.func (.func 110) #[] #[.pointer (some ⟨aj,0,none⟩),.pointer (some ⟨af,0,none⟩),.pointer (some ⟨ah,0,none⟩),.pointer (some ⟨ak,0,none⟩),.pointer (some ⟨am,0,none⟩)]/\σ_ 54=.slice ag p0.length ai/\σ_ 56=jV (↑aa:Int)/\σ_ 57=.slice bK ([(↑aa:Int)].length) bQ/\σ_ 58=.slice bL aZ.length bR/\PHeap.Le az U_/\SW w [B8,B7,B9] U U_ [aq,au,av,.row bK bQ 3 1 (hM KL.encI [(↑aa:Int)]),.row bL bR 3 1 (hM KL.encI aZ)] w_) ?_ fun eW=>?_
      ·rintro mC cO ⟨lR,bK,bQ,bL,bR,fV,fW,fY,fZ,gb,gc,ge,dT,gf,gg,gh,dU,bD,jy⟩
       have q:=jy.freezeR (k:=4) (n:=aZ.length) rfl (wAF (f:=KL.encI) (sz:=1) (fun _=>rfl) aZ) (by decide)
       obtain ⟨cK,bE,eV,jz⟩:=q
       let cE:Res:=.row bK bQ 3 1 (hM KL.encI [(↑aa:Int)])
       have jA:SW w [B8,B7,B9] U cK [aq,au,av,cE] cO:=jz
       have iu:=ey.le ay
       have iv:=iu.le bD
       have iw:=iv.le bE
       have iy:=eB.le ay
       have iz:=iy.le bD
       have iA:=iz.le bE
       have iB:=eC.le ay
       have iD:=iB.le bD
       have iE:=iD.le bE
       have iF:=eD.le ay
       have iG:=iF.le bD
       have iH:=iG.le bE
       have iI:=ew.le ay
       have iJ:=iI.le bD
       have iK:=iJ.le bE
       have iL:=bB.le ax
       have iM:=iL.le ay
       have iN:=iM.le bD
       have iO:=iN.le bE
       have jB:SW w [B8,B7,B9] U cK [au,aq,av,cE] cO:=jA.pick [1,0,2,3] _ (by decide) rfl
       refine zL 3 Z Z Z Z (zK Z dT Tryz.call110 (zB dU zM) Z) jB (fun hs=>ih aZ bL bR p1 aj bp br bx bz bq bs bC af bi bu cr ah p4 ak () am cO cK hs eV iw iA iE iH c9 iK iO io) (.inl Z) ?_
       rintro dB lK mn fy e9 jC ⟨cy,cW,rfl,rfl,iQ⟩
       have jD:SW w [B8,B7,B9] U dB [.row cy cW 3 1 (hM KL.encI bX),.blk af 23 [.slice cy bX.length cW],.blk ah 3 [jV fd],cE] fy:=jC
       have iR:=eV.le e9
       exact lx _ _ ⟨dB,cy,cW,bK,bQ,bL,bR,fV,fW,fY,fZ,gb,gc,ge,dT,gf,gg,gh,dU,Z,((bD.trans bE).trans e9),jD,iQ,iR⟩
      refine ye (s:=gCe) (M:=fun σ_ w_=>∃ (U_:PHeap) (bZ:Option Addr) (ci:Nat) (b4:Option Addr) (cj:Nat),σ_ 0=.slice ag p0.length ai/\σ_ 1=.pointer (some ⟨aj,0,none⟩)/\σ_ 4=.pointer (some ⟨ak,0,none⟩)/\σ_ 5=.pointer (some ⟨am,0,none⟩)/\σ_ 9=jV (↑aa:Int)/\σ_ 39=jV (↑p1.Squad.Classes.length:Int)/\σ_ 40=jV (↑aa:Int)/\σ_ 54=.slice ag p0.length ai/\σ_ 56=jV (↑aa:Int)/\σ_ 57=.slice bZ ([(↑aa:Int)].length) ci/\σ_ 58=.slice b4 aZ.length cj/\PHeap.Le az U_/\SW w [B8,B7,B9] U U_ [aq,au,av,.row bZ ci 3 1 (hM KL.encI [(↑aa:Int)]),.row b4 cj 3 1 (hM KL.encI aZ)] w_) ?_ fun ly=>?_
      ·rintro mD lT ⟨fj,bZ,ci,b4,cj,gi,gj,gm,dV,gq,gr,gu,gv,gw,gx,gy,fb,eI⟩
       have iS:=bB.le ax
       have iT:=iS.le ay
       have iU:=iT.le fb
       exact OKS.mx2 Z Z Z Z (eI.ldC (f:=0) iU (v:=.func (.func 110) #[] #[.pointer (some ⟨aj,0,none⟩),.pointer (some ⟨af,0,none⟩),.pointer (some ⟨ah,0,none⟩),.pointer (some ⟨ak,0,none⟩),.pointer (some ⟨am,0,none⟩)]) Z dV Tryz.isAgg195 Z) (eW _ _ ⟨fj,bZ,ci,b4,cj,gi,gj,gm,dV,gq,gr,gu,Z,gv,gw,gx,gy,fb,eI⟩)
      refine ye (s:=gCd) (M:=fun σ_ w_=>∃ (U_:PHeap) (cz:Option Addr) (cX:Nat) (bM:Option Addr) (bS:Nat),σ_ 0=.slice ag p0.length ai/\σ_ 1=.pointer (some ⟨aj,0,none⟩)/\σ_ 4=.pointer (some ⟨ak,0,none⟩)/\σ_ 5=.pointer (some ⟨am,0,none⟩)/\σ_ 9=jV (↑aa:Int)/\σ_ 39=jV (↑p1.Squad.Classes.length:Int)/\σ_ 40=jV (↑aa:Int)/\σ_ 53=.func (.func 110) #[] #[.pointer (some ⟨aj,0,none⟩),.pointer (some ⟨af,0,none⟩),.pointer (some ⟨ah,0,none⟩),.pointer (some ⟨ak,0,none⟩),.pointer (some ⟨am,0,none⟩)]/\σ_ 54=.slice ag p0.length ai/\σ_ 55=.slice cz ba.length cX/\σ_ 56=jV (↑aa:Int)/\σ_ 57=.slice bM ([(↑aa:Int)].length) bS/\PHeap.Le az U_/\SW w [B8,B7,B9] U U_ [aq,au,av,.row cz cX 3 1 (hM KL.encI ba),.row bM bS 3 1 (hM KL.encI [(↑aa:Int)])] w_) ?_ fun dn=>?_
      ·rintro mE lU ⟨dC,cz,cX,bM,bS,gz,gA,gB,gC,gD,gE,gF,gG,gH,gI,gJ,dW,lA,eJ⟩
       refine Zs (j:=3) (enc:=KL.encI) (xs:=ba) (ys:=[(↑aa:Int)]) (zs:=aZ) rfl rfl rfl rfl rfl Zi wFA rfl rfl rfl rfl rfl rfl eJ rfl gI dW (eJ.srcR (j:=4) rfl (by decide) (wAF (f:=KL.encI) (sz:=1) (fun _=>rfl) [(↑aa:Int)])) (fun _=>rfl) (fun _=>rfl) eG rfl ?_
       intro dt dN fA jE
       have jF:SW w [B8,B7,B9] U dC [aq,au,av,.row dt dN 3 1 (hM KL.encI aZ),.row bM bS 3 1 (hM KL.encI [(↑aa:Int)])] fA:=jE
       exact eW _ _ ⟨dC,bM,bS,dt,dN,gz,gA,gB,gC,gD,gE,gF,gG,gH,gJ,dW,rfl,lA,(jF.pick [0,1,2,4,3] _ (by decide) rfl)⟩
      refine ye (s:=gCn) (M:=fun σ_ w_=>∃ (U_:PHeap) (ca:Option Addr) (cm:Nat) (bG:Option Addr) (bH:Nat),σ_ 0=.slice ag p0.length ai/\σ_ 1=.pointer (some ⟨aj,0,none⟩)/\σ_ 4=.pointer (some ⟨ak,0,none⟩)/\σ_ 5=.pointer (some ⟨am,0,none⟩)/\σ_ 9=jV (↑aa:Int)/\σ_ 39=jV (↑p1.Squad.Classes.length:Int)/\σ_ 40=jV (↑aa:Int)/\σ_ 54=.slice ag p0.length ai/\σ_ 55=.slice ca ba.length cm/\σ_ 56=jV (↑aa:Int)/\σ_ 57=.slice bG ([(↑aa:Int)].length) bH/\PHeap.Le az U_/\SW w [B8,B7,B9] U U_ [aq,au,av,.row ca cm 3 1 (hM KL.encI ba),.row bG bH 3 1 (hM KL.encI [(↑aa:Int)])] w_) ?_ fun eX=>?_
      ·rintro mF lV ⟨cL,ca,cm,bG,bH,dX,dY,dZ,c6,d7,d8,d9,ea,eb,ee,c7,dp,cq⟩
       refine yO ?_ ?_
       ·have iV:=bB.le ax
        have iW:=iV.le ay
        have iX:=iW.le dp
        exact OKS.mx2 Z Z Z Z (cq.ldC (f:=0) iX (v:=.func (.func 110) #[] #[.pointer (some ⟨aj,0,none⟩),.pointer (some ⟨af,0,none⟩),.pointer (some ⟨ah,0,none⟩),.pointer (some ⟨ak,0,none⟩),.pointer (some ⟨am,0,none⟩)]) Z c6 Tryz.isAgg195 Z) (dn _ _ ⟨cL,ca,cm,bG,bH,dX,dY,dZ,c6,d7,d8,d9,Z,ea,eb,ee,c7,dp,cq⟩)
       ·refine Zs (j:=3) (enc:=KL.encI) (xs:=ba) (ys:=[(↑aa:Int)]) (zs:=aZ) rfl rfl rfl rfl rfl Zi wFA rfl rfl rfl rfl rfl rfl cq rfl eb c7 (cq.srcR (j:=4) rfl (by decide) (wAF (f:=KL.encI) (sz:=1) (fun _=>rfl) [(↑aa:Int)])) (fun _=>rfl) (fun _=>rfl) eG rfl ?_
        intro du dO fB jH
        have jI:SW w [B8,B7,B9] U cL [aq,au,av,.row du dO 3 1 (hM KL.encI aZ),.row bG bH 3 1 (hM KL.encI [(↑aa:Int)])] fB:=jH
        exact ly _ _ ⟨cL,bG,bH,du,dO,dX,dY,dZ,c6,d7,d8,d9,ea,ee,c7,rfl,dp,(jI.pick [0,1,2,4,3] _ (by decide) rfl)⟩
      refine ye (s:=gCl) (M:=fun σ_ w_=>∃ (U_:PHeap) (bN:Option Addr) (bT:Nat),σ_ 0=.slice ag p0.length ai/\σ_ 1=.pointer (some ⟨aj,0,none⟩)/\σ_ 4=.pointer (some ⟨ak,0,none⟩)/\σ_ 5=.pointer (some ⟨am,0,none⟩)/\σ_ 9=jV (↑aa:Int)/\σ_ 39=jV (↑p1.Squad.Classes.length:Int)/\σ_ 40=jV (↑aa:Int)/\σ_ 53=.func (.func 110) #[] #[.pointer (some ⟨aj,0,none⟩),.pointer (some ⟨af,0,none⟩),.pointer (some ⟨ah,0,none⟩),.pointer (some ⟨ak,0,none⟩),.pointer (some ⟨am,0,none⟩)]/\σ_ 54=.slice ag p0.length ai/\σ_ 56=jV (↑aa:Int)/\σ_ 57=.slice bN ([(↑aa:Int)].length) bT/\PHeap.Le az U_/\SW w [B8,B7,B9] U U_ [aq,au,av,.row bN bT 3 1 (hM KL.encI [(↑aa:Int)])] w_) ?_ fun eY=>?_
      ·rintro mG fC ⟨fk,bN,bT,gK,gM,gO,gP,gQ,gS,gT,gU,eh,gV,gW,fc,jK⟩
       have iY:=bv.le ax
       have i6:=iY.le ay
       have i7:=i6.le fc
       refine zL 0 Z Z Z Z (zK Z Z Tryz.call66 (zB eh zM) Z) jK (fun hs=>wBD p0 ag ai fC fk hs i7 co) (.inr Z) ?_
       rintro dD lM mp fD lB jL ⟨dv,dP,rfl,rfl⟩
       have jM:SW w [B8,B7,B9] U dD [.row dv dP 3 1 (hM KL.encI ba),aq,au,av,.row bN bT 3 1 (hM KL.encI [(↑aa:Int)])] fD:=jL
       exact dn _ _ ⟨dD,dv,dP,bN,bT,gK,gM,gO,gP,gQ,gS,gT,gU,eh,rfl,gV,gW,(fc.trans lB),(jM.pick [1,2,3,0,4] _ (by decide) rfl)⟩
      refine ye (s:=gCk) (M:=fun σ_ w_=>∃ (U_:PHeap) (bO:Option Addr) (bU:Nat),σ_ 0=.slice ag p0.length ai/\σ_ 1=.pointer (some ⟨aj,0,none⟩)/\σ_ 4=.pointer (some ⟨ak,0,none⟩)/\σ_ 5=.pointer (some ⟨am,0,none⟩)/\σ_ 9=jV (↑aa:Int)/\σ_ 39=jV (↑p1.Squad.Classes.length:Int)/\σ_ 40=jV (↑aa:Int)/\σ_ 53=.func (.func 110) #[] #[.pointer (some ⟨aj,0,none⟩),.pointer (some ⟨af,0,none⟩),.pointer (some ⟨ah,0,none⟩),.pointer (some ⟨ak,0,none⟩),.pointer (some ⟨am,0,none⟩)]/\σ_ 54=.slice ag p0.length ai/\σ_ 55=.slice bO ba.length bU/\σ_ 56=jV (↑aa:Int)/\PHeap.Le az U_/\SW w [B8,B7,B9] U U_ [aq,au,av,.row bO bU 3 1 (hM KL.encI ba)] w_) ?_ fun eZ=>?_
      ·rintro mH lW ⟨dE,bO,bU,gX,gY,gZ,g8,g9,ib,ic,ie,ig,ii,ep,lC,jN⟩
       refine zW (pv:=[(0,jV (↑aa:Int))]) (zs:=[jV 0]) (cs:=[jV (↑aa:Int)]) Z Z Z Z Z (wAC ep wAM) zA zD zt Z Z Z Z Z jN ?_
       intro fG dJ jP
       have jR:SW w [B8,B7,B9] U dE [.row (some ⟨dJ,0,none⟩) 1 3 1 (hM KL.encI [(↑aa:Int)]),aq,au,av,.row bO bU 3 1 (hM KL.encI ba)] fG:=jP
       exact dn _ _ ⟨dE,bO,bU,(some ⟨dJ,0,none⟩),1,gX,gY,gZ,g8,g9,ib,ic,ie,ig,ii,ep,rfl,lC,(jR.pick [1,2,3,4,0] _ (by decide) rfl)⟩
      refine oM Z bg (oM Z Z (yO ?_ ?_))
      ·have i8:=bB.le ax
       have i9:=i8.le ay
       refine OKS.mx2 Z Z Z Z (bI.ldC (f:=0) i9 (v:=.func (.func 110) #[] #[.pointer (some ⟨aj,0,none⟩),.pointer (some ⟨af,0,none⟩),.pointer (some ⟨ah,0,none⟩),.pointer (some ⟨ak,0,none⟩),.pointer (some ⟨am,0,none⟩)]) Z be Tryz.isAgg195 Z) (yO ?_ ?_)
       ·have ja:=bv.le ax
        have jb:=ja.le ay
        refine zL 0 Z Z Z Z (zK Z Z Tryz.call66 (zB Z zM) Z) bI (fun hs=>wBD p0 ag ai dH az hs jb co) (.inr Z) ?_
        rintro dF lN mq fI lD jS ⟨dw,dQ,rfl,rfl⟩
        have jT:SW w [B8,B7,B9] U dF [.row dw dQ 3 1 (hM KL.encI ba),aq,au,av] fI:=jS
        exact eZ _ _ ⟨dF,dw,dQ,bg,bl,bm,be,rfl,bn,bh,rfl,rfl,rfl,rfl,lD,(jT.pick [1,2,3,0] _ (by decide) rfl)⟩
       ·refine zW (pv:=[(0,jV (↑aa:Int))]) (zs:=[jV 0]) (cs:=[jV (↑aa:Int)]) Z Z Z Z Z (wAC Z wAM) zA zD zt Z Z Z Z Z bI ?_
        intro fJ dK jW
        have jX:SW w [B8,B7,B9] U az [.row (some ⟨dK,0,none⟩) 1 3 1 (hM KL.encI [(↑aa:Int)]),aq,au,av] fJ:=jW
        exact eY _ _ ⟨az,(some ⟨dK,0,none⟩),1,bg,bl,bm,be,rfl,bn,bh,rfl,rfl,rfl,rfl,(zH _),(jX.pick [1,2,3,0] _ (by decide) rfl)⟩
      refine yO ?_ ?_
      ·have jc:=bv.le ax
       have jd:=jc.le ay
       refine zL 0 Z Z Z Z (zK Z Z Tryz.call66 (zB Z zM) Z) bI (fun hs=>wBD p0 ag ai dH az hs jd co) (.inr Z) ?_
       rintro cg lP mr fK dq jZ ⟨cC,cZ,rfl,rfl⟩
       let dy:Res:=.row cC cZ 3 1 (hM KL.encI ba)
       have da:SW w [B8,B7,B9] U cg [dy,aq,au,av] fK:=jZ
       refine yO ?_ ?_
       ·have je:=bB.le ax
        have jf:=je.le ay
        have jg:=jf.le dq
        exact OKS.mx2 rfl rfl rfl rfl (da.ldC (f:=0) jg (v:=.func (.func 110) #[] #[.pointer (some ⟨aj,0,none⟩),.pointer (some ⟨af,0,none⟩),.pointer (some ⟨ah,0,none⟩),.pointer (some ⟨ak,0,none⟩),.pointer (some ⟨am,0,none⟩)]) rfl be Tryz.isAgg195 rfl) (eZ _ _ ⟨cg,cC,cZ,bg,bl,bm,be,rfl,bn,bh,rfl,rfl,rfl,rfl,dq,(da.pick [1,2,3,0] _ (by decide) rfl)⟩)
       ·refine zW (pv:=[(0,jV (↑aa:Int))]) (zs:=[jV 0]) (cs:=[jV (↑aa:Int)]) Z Z Z Z Z (wAC Z wAM) zA zD zt Z Z Z Z Z da ?_
        intro fL dL j4
        have j5:SW w [B8,B7,B9] U cg [.row (some ⟨dL,0,none⟩) 1 3 1 (hM KL.encI [(↑aa:Int)]),dy,aq,au,av] fL:=j4
        exact eX _ _ ⟨cg,cC,cZ,(some ⟨dL,0,none⟩),1,bg,bl,bm,be,rfl,bn,bh,rfl,rfl,rfl,rfl,dq,(j5.pick [2,3,4,1,0] _ (by decide) rfl)⟩
      ·refine zW (pv:=[(0,jV (↑aa:Int))]) (zs:=[jV 0]) (cs:=[jV (↑aa:Int)]) Z Z Z Z Z (wAC Z wAM) zA zD zt Z Z Z Z Z bI ?_
       intro dI cP j6
       let dz:Res:=.row (some ⟨cP,0,none⟩) 1 3 1 (hM KL.encI [(↑aa:Int)])
       have db:SW w [B8,B7,B9] U az [dz,aq,au,av] dI:=j6
       refine yO ?_ ?_
       ·have jh:=bB.le ax
        have ji:=jh.le ay
        exact OKS.mx2 rfl rfl rfl rfl (db.ldC (f:=0) ji (v:=.func (.func 110) #[] #[.pointer (some ⟨aj,0,none⟩),.pointer (some ⟨af,0,none⟩),.pointer (some ⟨ah,0,none⟩),.pointer (some ⟨ak,0,none⟩),.pointer (some ⟨am,0,none⟩)]) rfl be Tryz.isAgg195 rfl) (eY _ _ ⟨az,(some ⟨cP,0,none⟩),1,bg,bl,bm,be,rfl,bn,bh,rfl,rfl,rfl,rfl,(zH _),(db.pick [1,2,3,0] _ (by decide) rfl)⟩)
       ·have jj:=bv.le ax
        have jk:=jj.le ay
        refine zL 0 Z Z Z Z (zK Z Z Tryz.call66 (zB Z zM) Z) db (fun hs=>wBD p0 ag ai dI az hs jk co) (.inr Z) ?_
        rintro dG lQ ms fM lE j7 ⟨dx,dR,rfl,rfl⟩
        have j8:SW w [B8,B7,B9] U dG [.row dx dR 3 1 (hM KL.encI ba),dz,aq,au,av] fM:=j7
        exact eX _ _ ⟨dG,dx,dR,(some ⟨cP,0,none⟩),1,bg,bl,bm,be,rfl,bn,bh,rfl,rfl,rfl,rfl,lE,(j8.pick [2,3,4,0,1] _ (by decide) rfl)⟩
     ·intro cQ lw
      refine zm (congrArg nD (nE.2 cQ.out)) (ZV (zb (zI (rR fL2 Z (oR Z (zn (zX Z bh Z) (congrArg (jV) dg.out)) (oM Z Z (zg ?_)))))))
      cases lw
      exact zI ⟨Z,⟨az,bi,bu,Z,bg,bl,bm,be,bn,(ax.trans ay),eH,c9⟩⟩
   ·rintro mI lX ⟨fm,fg,fN,ik,ma,mb,mc,md,ij,mh,j9,jl⟩
    have fO:Hid (¬ ((↑(((↑p1.Squad.Classes.length:Int):Int) - 0).toNat:Int) < (↑p1.Squad.Classes.length:Int))):=zF (wAa)
    refine sR fL1 Z (oR Z (zU Z ik ij) (eN (zG (cF Z fO (ZI (zY (zY (ZD ?_))))))))
    cases eU
    exact ⟨Z,_,(wMk),fm,_,j9,fg,fN,Z,Z,jl⟩
end Go.Proofs.YtnbcoenjobdplaaGreat
namespace Go.Proofs.YtnbcoenjobdplaaGreat
open Go.KL
set_option maxHeartbeats 4000000
theorem wDp (p0:wAl) (az:Option Addr) (aY:Nat) (aW:Option Addr) (aZ:Nat) (aX:Option Addr) (a7:Nat) (p1:Int) (w:World) (U:PHeap) (hS:St0 w U []) (cd:Sl U 1 az aY p0.Squad.Classes.length (hM KL.encI p0.Squad.Classes)) (cg:SlR U wDT aW aZ p0.Squad.Times) (ch:Sl U 1 aX a7 p0.rules.Classes.length (hM KL.encI p0.rules.Classes)) {r:(List Int) × Int} (hm:wCe p0 p1=some r):Gv Tryz.prog 70 [.agg #[.slice az p0.Squad.Classes.length aY,.slice aW p0.Squad.Times.length aZ,.slice aX p0.rules.Classes.length a7,jV p0.rules.Each,jV p0.rules.Laps,jV p0.rules.Spare,jV p0.rules.Loop,jV p0.rules.Unused],jV p1] w (wBU w [] U (fun U_ L_ v=>∃ (A0:Option Addr) (c0:Nat),v=.tuple #[.slice A0 r.1.length c0,jV r.2]/\L_=[.row A0 c0 3 1 (hM KL.encI r.1)]/\(r.1=[]->A0=none))):=by
 unfold wCe at hm
 refine Gv.of Tryz.func70 Z Tryz.ntmps70 Tryz.results70 Z (sR gCo Z ?_)
 let B0:List Value:=[.slice az p0.Squad.Classes.length aY,.slice aW p0.Squad.Times.length aZ,.slice aX p0.rules.Classes.length a7,jV p0.rules.Each,jV p0.rules.Laps,jV p0.rules.Spare,jV p0.rules.Loop,jV p0.rules.Unused]
 refine ZS (cs:=B0) rfl rfl rfl rfl rfl rfl (by rfl) hS ?_
 intro W1 b2 bR
 have q:=bR.freeze (k:=0) rfl
 obtain ⟨U5,bf,am,ca⟩:=q
 replace am:=Cl.of am
 have cc:sW w U U5 [] W1:=ca
 replace am:Cl U5 b2 0 B0:=am
 refine ZS (cs:=[jV p1]) rfl rfl rfl rfl rfl rfl (by rfl) cc ?_
 intro bt au bK
 have q:=bK.freeze (k:=0) rfl
 obtain ⟨aq,ay,aj,bL⟩:=q
 replace aj:=Cl.of aj
 have bM:sW w U aq [] bt:=bL
 replace aj:Cl aq au 0 [jV p1]:=aj
 refine oA Z Z (oA Z Z (eN (sR (.fx 0 .nil .stop) Z (zz (cs:=[.slice none 0 0]) Z Z Z Z Z yh Z bM ?_))))
 intro cj ac bN
 refine eN (sR (.fx 0 (.fx 1 .nil .stop) .stop) Z (zz (cs:=[jV 0]) Z Z Z Z Z zt Z bN ?_))
 intro cm ah bO
 refine zu (j:=0) (vs:=[jV 0]) Z Z Z Z bO Z Z Z Z zD (zC Z) Z Z Z ?_
 intro bu bP
 let B1:Res:=.blk ah 3 [jV 0]
 let B2:Res:=.blk ac 23 [.slice none 0 0]
 have bQ:sW w U aq [B1,B2] bu:=bP
 refine eN (sR (.fx 0 .nil .stop) Z (zz (cs:=[.nilFunc]) Z Z Z Z Z Tryz.zeroValue195 Z bQ ?_))
 intro co ai bS
 refine eN (sR gCf Z (oR Z (yW Z zM (zB Z (zB Z (zB Z (zB Z (zB Z zM)))))) ?_))
 let B3:List Value:=[.func (.func 110) #[] #[.pointer (some ⟨b2,0,none⟩),.pointer (some ⟨ac,0,none⟩),.pointer (some ⟨ah,0,none⟩),.pointer (some ⟨au,0,none⟩),.pointer (some ⟨ai,0,none⟩)]]
 refine zu (j:=0) (vs:=B3) Z Z Z Z bS Z Z Z Z Tryz.sizeOf195 (zC Z) Z Z Z ?_
 intro ag bT
 have bp:sW w U aq [.blk ai 195 B3,B1,B2] ag:=bT
 refine eN (sR gCf Z (oL Z (bp.ldB (j:=0) Z Z Z Tryz.isAgg195 (v:=.func (.func 110) #[] #[.pointer (some ⟨b2,0,none⟩),.pointer (some ⟨ac,0,none⟩),.pointer (some ⟨ah,0,none⟩),.pointer (some ⟨au,0,none⟩),.pointer (some ⟨ai,0,none⟩)]) Z) ?_))
 have q:=bp.freeze (k:=0) rfl
 obtain ⟨af,an,ak,bU⟩:=q
 replace ak:=Cl.of ak
 have bV:sW w U af [B1,B2] ag:=bU
 replace ak:Cl af ai 0 B3:=ak
 have bW:=bV.nilrow 3 1
 let B4:Res:=.row none 0 3 1 (hM KL.encI ([]:List Int))
 let B5:Res:=.blk ac 23 [.slice none (([]:List Int).length) 0]
 have bX:sW w U af [B4,B1,B5] ag:=bW
 have bv:=am.le ay
 have bw:=bv.le an
 have bx:=cd.le bf
 have bz:=bx.le ay
 have bA:=bz.le an
 have bB:=cg.le bf
 have bC:=bB.le ay
 have bD:=bC.le an
 have bE:=ch.le bf
 have bF:=bE.le ay
 have bG:=bF.le an
 have bH:=aj.le an
 have q:=bnd hm
 obtain ⟨⟨bg,br⟩,bI,bq⟩:=q
 try dsimp only at bq
 have bY:sW w U af [B5,B4,B1] ag:=bX.pick [2,0,1] _ (by decide) rfl
 refine zL 3 rfl rfl rfl rfl (zK rfl rfl Tryz.call110 (zB rfl zM) rfl) bY (fun hs=>wFv 1000 [] none 0 p0 b2 az aY aW aZ aX a7 ([]:List Int) ac none 0 0 ah p1 au () ai ag af hs (by first | exact Sl.nil _ _ _ _ | exact SlR.nil) bw bA bD bG (fun _=>rfl) bH ak bI) (.inl rfl) ?_
 rintro bm ci cr be cq bZ ⟨ap,aw,rfl,rfl,bJ⟩
 have b4:sW w U bm [.row ap aw 3 1 (hM KL.encI bg),.blk ac 23 [.slice ap bg.length aw],.blk ah 3 [jV br]] be:=bZ
 refine eN (zG (ZY ZP [1,1,3,3] fL4 (by kernel_rfl) ?_))
 have ax:=b4.drew
 generalize hw_W74:({ be with drawn:=be.drawn + 1 }:World)=cp at ax ⊢
 refine oL Z (ax.ldB (j:=1) Z Z Z zc (v:=.slice ap bg.length aw) Z) (oL Z (ax.ldB (j:=2) Z Z Z zP (v:=jV br) Z) (oA Z Z (oA Z Z (eN (zO ?_)))))
 cases bq
 exact ⟨rfl,_,(wFc rfl rfl),bm,_,(ax.pick [0] _ (by decide) rfl),ap,aw,rfl,rfl,bJ⟩
theorem wJN (p0:wAJ) (ag:Option Addr) (aj:Nat) (p1:wBV) (ah:Option Addr) (ak:Nat) (ai:Option Addr) (am:Nat) (w:World) (U:PHeap) (hS:St0 w U []) (ba:Sl U 1 ag aj p0.Classes.length (hM KL.encI p0.Classes)) (bb:Sl U 1 ah ak p1.Classes.length (hM KL.encI p1.Classes)) (be:SlR U wDT ai am p1.Times) {r:(List Int) × Int × Int} (hm:wFl p0 p1=some r):Gv Tryz.prog 42 [.agg #[.slice ag p0.Classes.length aj,jV p0.Each,jV p0.Laps,jV p0.Spare,jV p0.Loop,jV p0.Unused],.agg #[.slice ah p1.Classes.length ak,.slice ai p1.Times.length am]] w (wBU w [] U (fun U_ L_ v=>∃ (A0:Option Addr) (c0:Nat),v=.tuple #[.slice A0 r.1.length c0,jV r.2.1,jV r.2.2]/\L_=[.row A0 c0 3 1 (hM KL.encI r.1)])):=by
 unfold wFl at hm
 refine Gv.of Tryz.func42 Z Tryz.ntmps42 Tryz.results42 Z (sR (.fx 0 (.fx 1 (wMf (.nil)) .stop) .stop) Z ?_)
 let B0:List Value:=[.slice ag p0.Classes.length aj,jV p0.Each,jV p0.Laps,jV p0.Spare,jV p0.Loop,jV p0.Unused]
 refine ZS (cs:=B0) rfl rfl rfl rfl rfl rfl (by rfl) hS ?_
 intro W1 b2 bs
 let B1:List Value:=[.slice ah p1.Classes.length ak,.slice ai p1.Times.length am]
 refine ZS (cs:=B1) rfl rfl rfl rfl rfl rfl (by rfl) bs ?_
 intro W5 b6 ay
 refine oA Z Z (oA Z Z (oA Z Z (eN (zG (sR gCp Z (oL Z (ay.ldBA (j:=1) Z Z Z Zv ZG (vs:=B0) Z Z) (oL Z (ay.ldBA (j:=0) Z Z Z yw yM (vs:=B1) Z Z) (bnK hm fun x9 bi bw=>zL 0 Z Z Z Z (zK Z Z Tryz.call69 (zB Z (zB Z zM)) Z) ay (fun hs=>wDy p0 ag aj p1 ah ak ai am W5 U hs ba bb be bi) (.inr Z) ?_))))))))
 rintro ap bD bH aY az br ⟨rfl,rfl⟩
 have ao:sW w U ap [.blk b6 118 B1,.blk b2 25 B0] aY:=br
 refine oA Z Z (eN (sR fL2 Z (oM Z Z (oR Z (ZW Z Z Z) (eN (ifc bw ?_ ?_))))))
 intro au bx
 refine zm (zw (fun h=>h au.out)) (kN (sR (wDE (.fx 3 (fC4_8 (.nil)) .stop)) Z (oL Z (ao.ldBA (j:=0) Z Z Z yw yM (vs:=B1) Z Z) (oL Z (ao.ldBA (j:=1) Z Z Z Zv ZG (vs:=B0) Z Z) (oR Z (ZH (pv:=[(0,.agg B1.toArray),(1,.agg B0.toArray)]) (z:=[.slice none 0 0,.slice none 0 0,.slice none 0 0,jV 0,jV 0,jV 0,jV 0,jV 0]) (cs:=[.slice ah p1.Classes.length ak,.slice ai p1.Times.length am,.slice ag p0.Classes.length aj,jV p0.Each,jV p0.Laps,jV p0.Spare,jV p0.Loop,jV p0.Unused]) Z (wAC Z (wAC Z wAM)) Tryz.zeroValue158 wHu Z Z) ?_)))))
 have bj:=bb.le az
 have bl:=be.le az
 have bm:=ba.le az
 have q:=bnd bx
 obtain ⟨⟨aW,bC⟩,bn,bf⟩:=q
 try dsimp only at bf
 refine zL 0 Z Z Z Z (zK Z Z Tryz.call70 (zB Z (zB Z zM)) Z) ao (fun hs=>wDp (⟨p1,p0⟩:wAl) ah ak ai am ag aj (-1) aY ap hs bj bl bm bn) (.inr Z) ?_
 rintro aq bE bI bg bG bt ⟨an,av,rfl,rfl,bp⟩
 have ax:sW w U aq [.row an av 3 1 (hM KL.encI aW),.blk b6 118 B1,.blk b2 25 B0] bg:=bt
 refine oM Z Z (oR Z (zx Z Z (v:=.slice an aW.length av) Z) (oR Z (zx Z Z (v:=jV bC) Z) (oA Z Z (oA Z Z (eN (zG (sR fL2 Z (oM Z Z ?_))))))))
 have bq:an.isNone=decide (aW=[]):=wJq (j:=0) ax rfl (fun _=>rfl) (by decide) bp
 refine oR Z (Runs.eqNilR Z Z Z zA bq) (eN (ifc bf ?_ ?_))
 intro aw bz
 refine cT Z aw (sR fL3 Z (oA Z Z (oA Z Z (oA Z Z (eN (zO (zR ?_)))))))
 have bu:=ax.nilrow 3 1
 cases bz
 exact ⟨rfl,_,(res3 rfl rfl rfl),aq,_,(bu.pick [0] _ (by decide) rfl),none,0,rfl,rfl⟩
 intro aw bA
 refine cF Z aw (kN (sR fL5 Z (oM Z Z (oM Z Z (oA Z Z (oA Z Z (oA Z Z (eN (zO ?_)))))))))
 cases bA
 exact ⟨rfl,_,(res3 rfl rfl rfl),aq,_,(ax.pick [0] _ (by decide) rfl),an,av,rfl,rfl⟩
 intro au bB
 refine cT Z au (sR fL4 Z (oM Z Z (oA Z Z (oA Z Z (oA Z Z (eN (zO (zR ?_))))))))
 have bv:=ao.nilrow 3 1
 cases bB
 exact ⟨rfl,_,(res3 rfl rfl rfl),ap,_,(bv.pick [0] _ (by decide) rfl),none,0,rfl,rfl⟩
theorem wFd (p0:Int) (w:World) (U:PHeap) (hS:St0 w U [])  {r:Bool} (hm:wBv p0=some r):Gv Tryz.prog 71 [jV p0] w (wBU w [] U (fun U_ L_ v=>v=.bool r/\L_=[])):=by
 unfold wBv at hm
 refine Gv.of Tryz.func71 Z Tryz.ntmps71 Tryz.results71 Z (sR fL1 Z (oA Z Z (eN (sR gCh Z (oM Z Z (bnK hm fun x1 h2 ai=>zL 0 Z Z Z Z (zK Z Z yL (zB Z (zB Z (zB Z zM))) Z) hS (fun hs=>wCR p0 (-1000000) 1000000 w U hs h2) (.inr Z) ?_))))))
 rintro U4 L5 v6 W7 ak ah ⟨rfl,rfl⟩
 have ag:sW w U U4 [] W7:=ah
 refine oA Z Z (eN (zO ?_))
 have hE:=nB ai;first | subst r | cases hE
 exact ⟨Z,_,(zr Z),U4,_,ag,Z,Z⟩
theorem wHb (p0:Int) (w:World) (U:PHeap) (hS:St0 w U [])  {r:Bool} (hm:wDL p0=some r):Gv Tryz.prog 73 [jV p0] w (wBU w [] U (fun U_ L_ v=>v=.bool r/\L_=[])):=by
 unfold wDL at hm
 refine Gv.of Tryz.func73 Z Tryz.ntmps73 Tryz.results73 Z (sR fL1 Z (oA Z Z (eN (sR fL3 Z (oM Z Z (oR Z (yo Z Z Z) (oA Z Z (eN (zO ?_)))))))))
 first | (obtain rfl:=nB hm) | cases hm
 exact ⟨Z,_,(zr Z),U,_,hS,Z,Z⟩
theorem wDO (p0:wAJ) (az:Option Addr) (aY:Nat) (p1:wBV) (aW:Option Addr) (aZ:Nat) (aX:Option Addr) (a7:Nat) (p2:List Int) (aw:Option Addr) (ax:Nat) (p3:List Int) (ao:Option Addr) (ap:Nat) (w:World) (U:PHeap) (hS:St0 w U []) (cO:Sl U 1 az aY p0.Classes.length (hM KL.encI p0.Classes)) (cP:Sl U 1 aW aZ p1.Classes.length (hM KL.encI p1.Classes)) (cQ:SlR U wDT aX a7 p1.Times) (fH:Sl U 1 aw ax p2.length (hM KL.encI p2)) (fI:Sl U 1 ao ap p3.length (hM KL.encI p3)) {r:Int × Int} (hm:wEz p0 p1 p2 p3=some r):Gv Tryz.prog 44 [.agg #[.slice az p0.Classes.length aY,jV p0.Each,jV p0.Laps,jV p0.Spare,jV p0.Loop,jV p0.Unused],.agg #[.slice aW p1.Classes.length aZ,.slice aX p1.Times.length a7],.slice aw p2.length ax,.slice ao p3.length ap] w (wBU w [] U (fun U_ L_ v=>v=.tuple #[jV r.1,jV r.2]/\L_=[])):=by
 unfold wEz at hm
 refine Gv.of Tryz.func44 Z Tryz.ntmps44 Tryz.results44 Z (sR gCo Z ?_)
 let B0:List Value:=[.slice az p0.Classes.length aY,jV p0.Each,jV p0.Laps,jV p0.Spare,jV p0.Loop,jV p0.Unused]
 refine ZS (cs:=B0) rfl rfl rfl rfl rfl rfl (by rfl) hS ?_
 intro W1 b2 fz
 let B1:List Value:=[.slice aW p1.Classes.length aZ,.slice aX p1.Times.length a7]
 refine ZS (cs:=B1) rfl rfl rfl rfl rfl rfl (by rfl) fz ?_
 intro W5 b6 bO
 refine oA Z Z (oA Z Z (eN (sR gCp Z (oL Z (bO.ldBA (j:=1) Z Z Z Zv ZG (vs:=B0) Z Z) (oL Z (bO.ldBA (j:=0) Z Z Z yw yM (vs:=B1) Z Z) (bnK hm fun x9 dO fQ=>zL 0 Z Z Z Z (zK Z Z Tryz.call69 (zB Z (zB Z zM)) Z) bO (fun hs=>wDy p0 az aY p1 aW aZ aX a7 W5 U hs cO cP cQ dO) (.inr Z) ?_))))))
 rintro a8 gJ ip cc bq fj ⟨rfl,rfl⟩
 have ba:sW w U a8 [.blk b6 118 B1,.blk b2 25 B0] cc:=fj
 refine oA Z Z (eN (sR fL1 Z (oA Z Z (eN (zG (zT (sR fL3 Z (oM Z Z (oR Z (ZW Z Z Z) (oA Z Z (eN (ifc fQ ?_ ?_))))))))))))
 intro bz fV
 refine zm (zw (fun h=>h bz.out)) (sR fL15 Z (oM Z Z (oR Z (za Z Z zA) (oR Z (zJ Z Z zy Z zS) (oL Z (ba.ldB (j:=1) Z Z Z zc (v:=.slice az p0.Classes.length aY) Z) (oR Z (za Z Z zA) (oR Z (ZW Z Z Z) (oM Z Z (ifc fV ?_ ?_)))))))))
 intro af gf
 refine zj Z Z Z (zQ Z Z (zw (fun h=>h af.out))) Z Z (zh Z Z Z (zQ Z Z (zw (fun h=>h af.out))) (fun _=>za Z Z zA) (zh Z Z Z (zQ Z Z (zw (fun h=>h af.out))) (fun _=>zJ Z Z Zr Z zS) (ZO Z Z Z (zQ Z Z (zw (fun h=>h af.out))) (ba.ldB (j:=0) Z Z Z zc (v:=.slice aW p1.Classes.length aZ) Z) Z (zh Z Z Z (zQ Z Z (zw (fun h=>h af.out))) (fun _=>za Z Z zA) (zh Z Z Z (zQ Z Z (zw (fun h=>h af.out))) (fun _=>ZW Z Z Z) (oR Z (zZ Z (zw (fun h=>h af.out)) Z) (oA Z Z (eN (ifc gf ?_ ?_)))))))))
 intro bB gg
 refine zm (zw (fun h=>h bB.out)) (sR (.fl 0 (.fl 1 (.fx 2 (wLf (.fx 7 (wJf (.nil)) .stop)) .stop))) Z (oM Z Z (oM Z Z ?_)))
 have bJ:=fH.le bq
 have ff:FnOK Tryz.prog a8 (.func (.func 71) #[] #[]) wJg wKY wBv:=⟨71,[],[],rfl,Tryz.call71,fun U1 w1 x y vs le hs ha hm=>by obtain rfl:=ha;exact wFd x w1 U1 hs  hm⟩
 refine bnK gg fun iB eV gw=>zL 0 Z Z Z Z (zK Z Z Tryz.call72 (zB Z (zB Z zM)) Z) ba (fun hs=>wCl p2 aw ax wBv (.func (.func 71) #[] #[]) cc a8 hs bJ ff eV) (.inr Z) ?_
 rintro bs gP iu ch bg fA ⟨rfl,rfl⟩
 have cL:sW w U bs [.blk b6 118 B1,.blk b2 25 B0] ch:=fA
 refine oR Z (ZN Z Z) (oM Z Z (ifc gw ?_ ?_))
 intro an gx
 refine zj Z Z Z (zQ Z Z (nC an.out)) Z Z (zj Z Z Z (zQ Z Z (nC an.out)) Z Z ?_)
 have eW:=fI.le bq
 have cK:=eW.le bg
 have fg:FnOK Tryz.prog bs (.func (.func 71) #[] #[]) wJg wKY wBv:=⟨71,[],[],rfl,Tryz.call71,fun U1 w1 x y vs le hs ha hm=>by obtain rfl:=ha;exact wFd x w1 U1 hs  hm⟩
 refine bnK gx fun iD eX gy=>zL 0 Z Z Z (zQ Z Z (nC an.out)) (zK Z Z Tryz.call72 (zB Z (zB Z zM)) Z) cL (fun hs=>wCl p3 ao ap wBv (.func (.func 71) #[] #[]) ch bs hs cK fg eX) (.inr Z) ?_
 rintro bt gQ iv ci bh fB ⟨rfl,rfl⟩
 have cM:sW w U bt [.blk b6 118 B1,.blk b2 25 B0] ci:=fB
 refine zh Z Z Z (zQ Z Z (nC an.out)) (fun _=>ZN Z Z) (oR Z (zZ Z (nC an.out) Z) (oA Z Z (eN (ifc gy ?_ ?_))))
 intro bC gz
 refine zm (nC bC.out) (sR (.fl 0 gCj) Z (oM Z Z ?_))
 have bK:=cK.le bh
 have fh:FnOK Tryz.prog bt (.func (.func 73) #[] #[]) wJg wKY wDL:=⟨73,[],[],rfl,Tryz.call73,fun U1 w1 x y vs le hs ha hm=>by obtain rfl:=ha;exact wHb x w1 U1 hs  hm⟩
 refine bnK gz fun iE eY gA=>zL 0 Z Z Z Z (zK Z Z Tryz.call72 (zB Z (zB Z zM)) Z) cM (fun hs=>wCl p3 ao ap wDL (.func (.func 73) #[] #[]) ci bt hs bK fh eY) (.inr Z) ?_
 rintro bm gS iw di ay fC ⟨rfl,rfl⟩
 have bw:sW w U bm [.blk b6 118 B1,.blk b2 25 B0] di:=fC
 refine oR Z (ZN Z Z) (oA Z Z (eN (ifc gA ?_ ?_)))
 intro bD bW
 refine zm (nC bD.out) (ZV (zb (zI (zG (ya fun bx bp=>?_)))))
 have dJ:bx 2=.slice aw p2.length ax:=(bp 2).trans rfl
 have cz:bx 3=.slice ao p3.length ap:=(bp 3).trans rfl
 have cA:bx 4=.pointer (some ⟨b2,0,none⟩):=(bp 4).trans rfl
 have cC:bx 5=.pointer (some ⟨b6,0,none⟩):=(bp 5).trans rfl
 clear bp
 refine rR (wDE gCc) Z (oL Z (bw.ldBA (j:=0) Z Z cC yw yM (vs:=B1) Z Z) (oL Z (bw.ldBA (j:=1) Z Z cA Zv ZG (vs:=B0) Z Z) ?_))
 let B2:List Value:=[.slice aW p1.Classes.length aZ,.slice aX p1.Times.length a7,.slice az p0.Classes.length aY,jV p0.Each,jV p0.Laps,jV p0.Spare,jV p0.Loop,jV p0.Unused]
 let B3:List Value:=[.slice none 0 0,.slice none 0 0,.slice none 0 0,jV 0,jV 0,jV 0,jV 0,jV 0]
 refine oR Z (ZH (pv:=[(0,.agg B1.toArray),(1,.agg B0.toArray)]) (z:=B3) (cs:=B2) Z (wAC Z (wAC Z wAM)) Tryz.zeroValue158 wHu Z Z) (zz (cs:=B3) Z Z Z Z Z Tryz.zeroValue158 Z bw ?_)
 intro gV av fD
 refine zu (j:=0) (vs:=B2) Z Z Z Z fD Z Z Z Z yk (zC Z) Z Z Z ?_
 intro dm fE
 have fG:sW w U bm [.blk av 158 B2,.blk b6 118 B1,.blk b2 25 B0] dm:=fE
 refine eN (zG (sR fL3 Z (oM Z cz (oR Z (za Z Z zA) (oM Z Z (eN (zT ?_)))))))
 have q:=wBe bW
 obtain ⟨io,bQ⟩:=q
 have q:=wBd bQ
 obtain ⟨bU,fO⟩:=q
 replace bU:=zF bU
 refine yA (fun au _ σ_ w_=>∃ (U_:PHeap),σ_ 59=jV (↑au:Int)/\σ_ 2=.slice aw p2.length ax/\σ_ 3=.slice ao p3.length ap/\σ_ 4=.pointer (some ⟨b2,0,none⟩)/\σ_ 5=.pointer (some ⟨b6,0,none⟩)/\σ_ 12=.pointer (some ⟨av,0,none⟩)/\σ_ 57=.slice ao p3.length ap/\σ_ 58=jV (↑p3.length:Int)/\PHeap.Le bm U_/\sW w U U_ [.blk av 158 B2,.blk b6 118 B1,.blk b2 25 B0] w_) fO ?_ ?_ ?_
 exact ⟨bm,Z,dJ,cz,cA,cC,Z,Z,Z,(zH _),fG⟩
 rintro au ⟨⟩ iH iL gW bS ⟨ca,bv,cD,dK,dL,du,dv,co,cp,bi,cN⟩ cW fM
 try dsimp only at cW
 have cj:Hid ((↑au:Int) < (↑p3.length:Int)):=zF (wAo bS)
 replace bS:=zF bS
 have fP:Hid (w64 ((↑au:Int) + 1)=(↑(au + 1):Int)):=zF (by have h1:=bU.out;have h2:=cj.out;rw [wAT] <;> omega)
 refine sR fL1 Z (oR Z (zU Z bv cp) (eN (zG (cT Z cj (kN (zG (zT (sR fL5 Z (oM Z bv (bnK cW fun c6 cE bV=>?_))))))))))
 have dP:=bK.le ay
 have dQ:=dP.le bi
 have q:=dQ.el (fun _=>rfl) (wAR cE)
 obtain ⟨gX,ij,eZ,fc⟩:=q
 refine oR Z (zo Z co eZ bv zA zD (wAj cE)) (oL Z (cN.ldC (f:=0) fc (v:=jV c6) Z Z zP Z) (oA Z Z (oA Z Z (eN (sR fL3 Z (oM Z cD (oR Z (za Z Z zA) (oM Z Z (eN (zT ?_))))))))))
 have q:=wBe bV
 obtain ⟨im,bP⟩:=q
 have q:=wBd bP
 obtain ⟨bT,fN⟩:=q
 replace bT:=zF bT
 refine yA (fun be _ σ_ w_=>∃ (U_:PHeap),σ_ 66=jV (↑be:Int)/\σ_ 2=.slice aw p2.length ax/\σ_ 3=.slice ao p3.length ap/\σ_ 4=.pointer (some ⟨b2,0,none⟩)/\σ_ 5=.pointer (some ⟨b6,0,none⟩)/\σ_ 12=.pointer (some ⟨av,0,none⟩)/\σ_ 13=jV (↑au:Int)/\σ_ 14=jV c6/\σ_ 57=.slice ao p3.length ap/\σ_ 58=jV (↑p3.length:Int)/\σ_ 59=jV (↑au:Int)/\σ_ 64=.slice aw p2.length ax/\σ_ 65=jV (↑p2.length:Int)/\PHeap.Le ca U_/\sW w U U_ [.blk av 158 B2,.blk b6 118 B1,.blk b2 25 B0] w_) fN ?_ ?_ ?_
 exact ⟨ca,Z,cD,dK,dL,du,dv,Z,Z,co,cp,bv,Z,Z,(zH _),cN⟩
 rintro be ⟨⟩ iG iI dd bR ⟨c9,bn,cq,cr,ct,bE,bF,bu,bG,cu,cw,cy,bH,bI,bf,bM⟩ cV fJ
 try dsimp only at cV
 have cm:Hid ((↑be:Int) < (↑p2.length:Int)):=zF (wAo bR)
 replace bR:=zF bR
 have cR:Hid (w64 ((↑be:Int) + 1)=(↑(be + 1):Int)):=zF (by have h1:=bT.out;have h2:=cm.out;rw [wAT] <;> omega)
 refine sR fL1 Z (oR Z (zU Z bn bI) (eN (zG (cT Z cm (kN (zG (zT (sR fL5 Z (oM Z bn (bnK cV fun gH cG fR=>?_))))))))))
 have dR:=bJ.le bg
 have dS:=dR.le bh
 have dT:=dS.le ay
 have dU:=dT.le bi
 have dV:=dU.le bf
 have q:=dV.el (fun _=>rfl) (wAR cG)
 obtain ⟨gY,ik,e8,fd⟩:=q
 refine oR Z (zo Z bH e8 bn zA zD (wAj cG)) (oL Z (bM.ldC (f:=0) fd (v:=jV gH) Z Z zP Z) (oA Z Z (oA Z Z (eN (sR (wDE (.fx 3 (wNe (.nil)) .stop)) Z (oL Z (bM.ldBA (j:=0) Z Z bF Tryz.isAgg158 yk (vs:=B2) Z Z) (oM Z bu (oM Z Z ?_))))))))
 have dW:=cP.le bq
 have dX:=dW.le bg
 have dY:=dX.le bh
 have dZ:=dY.le ay
 have d7:=dZ.le bi
 have d8:=d7.le bf
 have d9:=cQ.le bq
 have ea:=d9.le bg
 have eb:=ea.le bh
 have ee:=eb.le ay
 have eh:=ee.le bi
 have cH:=eh.le bf
 have ep:=cO.le bq
 have ew:=ep.le bg
 have ey:=ew.le bh
 have eB:=ey.le ay
 have eC:=eB.le bi
 have eD:=eC.le bf
 refine bnK fR fun iz eG fS=>zL 0 Z Z Z Z (zK Z Z Tryz.call74 (zB Z (zB Z (zB Z zM))) Z) bM (fun hs=>wDz (⟨p1,p0⟩:wAl) aW aZ aX a7 az aY (↑au:Int) (↑be:Int) dd c9 hs d8 cH eD eG) (.inr Z) ?_
 rintro bl gK iq de bX fk ⟨rfl,rfl⟩
 have bb:sW w U bl [.blk av 158 B2,.blk b6 118 B1,.blk b2 25 B0] de:=fk
 refine oM Z Z (ifc fS ?_ ?_)
 intro aa fT
 refine zj Z Z Z (zQ Z Z (congrArg nD aa.out)) Z Z (zj Z Z Z (zQ Z Z (congrArg nD aa.out)) Z bG (zh Z Z Z (zQ Z Z (congrArg nD aa.out)) (fun _=>Zx Z Z Z) (zh Z Z Z (zQ Z Z (congrArg nD aa.out)) (fun _=>zJ Z bE Zr Z Zk) (ZO Z Z Z (zQ Z Z (congrArg nD aa.out)) (bb.ldB (j:=1) Z Z Z Zy (v:=.slice aX p1.Times.length a7) Z) Z (zj Z Z Z (zQ Z Z (congrArg nD aa.out)) Z bu (bnK fT fun c7 cI fU=>?_))))))
 have eH:=cH.le bX
 have q:=eH.el (wAR cI)
 obtain ⟨dn,gE,iy,e9,bL,gB⟩:=q
 obtain ⟨cY,cZ,rfl,eI⟩:=gB
 replace bL:Cl bl dn (gE + au * 1) [.slice cY c7.length cZ]:=bL
 refine zh Z Z Z (zQ Z Z (congrArg nD aa.out)) (fun _=>zo Z Z e9 Z zq zS (wAj cI)) (ZO Z Z Z (zQ Z Z (congrArg nD aa.out)) (bb.ldC (f:=0) bL (v:=.slice cY c7.length cZ) Z Z zc Z) Z (zj Z Z Z (zQ Z Z (congrArg nD aa.out)) Z Z (bnK fU fun gI cJ fW=>?_)))
 have q:=eI.el (fun _=>rfl) (wAR cJ)
 obtain ⟨gZ,il,fb,fe⟩:=q
 refine zh Z Z Z (zQ Z Z (congrArg nD aa.out)) (fun _=>zo Z Z fb Z zA zD (wAj cJ)) (ZO Z Z Z (zQ Z Z (congrArg nD aa.out)) (bb.ldC (f:=0) fe (v:=jV gI) Z Z zP Z) Z (zh Z Z Z (zQ Z Z (congrArg nD aa.out)) (fun _=>yN Z Z Z) (oR Z (zV Z (congrArg nD aa.out) Z) (eN (ifc fW ?_ ?_)))))
 intro bA fY
 refine cT Z bA (sR fL2 Z (oA Z Z (oA Z Z (eN (zO (zf (zR ?_)))))))
 have q:=wAf fY
 obtain ⟨gF,fZ,dr⟩:=q
 have q:=wCI bV bP (fJ gF dr)
 obtain rfl:=q
 refine zR (zf (zf (zR ?_)))
 have q:=wAf fZ
 obtain ⟨gG,gb,dt⟩:=q
 have q:=wCI bW bQ (fM gG dt)
 obtain rfl:=q
 refine zR (zf (zR ?_))
 cases gb
 exact ⟨rfl,_,(wFc rfl rfl),bl,_,(bb.pick [] _ (by decide) rfl),rfl,rfl⟩
 intro bA gc
 refine cF Z bA (ZV (zb (zI (rR fL2 Z (oR Z (zn (zX Z bn Z) (congrArg (jV) cR.out)) (oM Z Z (zg ?_)))))))
 have q:=nB gc
 obtain rfl:=q
 exact zI ⟨Z,_,Z,⟨bl,Z,cq,cr,ct,bE,bF,bu,bG,cu,cw,cy,bH,bI,(bf.trans bX),bb⟩⟩
 intro aa ge
 refine zd Z Z Z (zN Z Z (congrArg nD (nE.2 aa.out)) Z) (zd Z Z Z (zN Z Z (congrArg nD (nE.2 aa.out)) Z) (zd Z Z Z (zN Z Z (congrArg nD (nE.2 aa.out)) Z) (zd Z Z Z (zN Z Z (congrArg nD (nE.2 aa.out)) Z) (zd Z Z Z (zN Z Z (congrArg nD (nE.2 aa.out)) Z) (zd Z Z Z (zN Z Z (congrArg nD (nE.2 aa.out)) Z) (zd Z Z Z (zN Z Z (congrArg nD (nE.2 aa.out)) Z) (zd Z Z Z (zN Z Z (congrArg nD (nE.2 aa.out)) Z) (zd Z Z Z (zN Z Z (congrArg nD (nE.2 aa.out)) Z) (zd Z Z Z (zN Z Z (congrArg nD (nE.2 aa.out)) Z) (zd Z Z Z (zN Z Z (congrArg nD (nE.2 aa.out)) Z) (zd Z Z Z (zN Z Z (congrArg nD (nE.2 aa.out)) Z) (oR Z (zZ Z (congrArg nD (nE.2 aa.out)) Z) (eN (zm Z (ZV (zb (zI (rR fL2 Z (oR Z (zn (zX Z bn Z) (congrArg (jV) cR.out)) (oM Z Z (zg ?_)))))))))))))))))))))
 have q:=nB ge
 obtain rfl:=q
 exact zI ⟨Z,_,Z,⟨bl,Z,cq,cr,ct,bE,bF,bu,bG,cu,cw,cy,bH,bI,(bf.trans bX),bb⟩⟩
 rintro ⟨⟩ iJ gU ⟨da,dM,dw,dx,dy,dz,dA,g8,g9,dB,dC,dD,ib,dE,gC,fm⟩ fK
 have cS:=wCm bV bP fK
 try dsimp only at cS
 have dp:Hid (¬ ((↑(((↑p2.length:Int):Int) - 0).toNat:Int) < (↑p2.length:Int))):=zF (wAa)
 refine sR fL1 Z (oR Z (zU Z dM dE) (eN (zG (cF Z dp (ZI (zY (zY (ZD (zb (zI (rR fL2 Z (oR Z (zn (zX Z dD Z) (congrArg (jV) fP.out)) (oM Z Z (zg ?_))))))))))))))
 have q:=nB cS
 obtain rfl:=q
 exact zI ⟨Z,_,Z,⟨da,Z,dw,dx,dy,dz,dA,dB,dC,(bi.trans gC),fm⟩⟩
 rintro ⟨⟩ iK cd ⟨db,dN,dF,dG,dH,ic,ie,ig,dI,cX,fq⟩ fL
 have cU:=wCm bW bQ fL
 try dsimp only at cU
 have dq:Hid (¬ ((↑(((↑p3.length:Int):Int) - 0).toNat:Int) < (↑p3.length:Int))):=zF (wAa)
 refine sR fL1 rfl (zh rfl rfl rfl rfl (fun _=>zU rfl dN dI) (eN (zG (cF Z dq (ZI (zY (zY (ZD (zI (zG (ZY ZP [3,2,3,1,3,2,3,3,3,3] (.fl 0 (wMf (.fx 1 (.fx 5 (wPO (.nil)) .stop) .stop))) (by kernel_rfl) ?_)))))))))))
 have bN:=fq.drew
 generalize hw_W255:({ cd with drawn:=cd.drawn + 1 }:World)=df at bN ⊢
 refine oM Z dF (oR Z (zJ Z dH zy Z zD) (oL Z (bN.ldB (j:=2) Z Z Z zP (v:=jV p0.Each) Z) (oM Z dG ?_)))
 have eJ:=bJ.le bg
 have eK:=eJ.le bh
 have eM:=eK.le ay
 have eP:=eM.le cX
 refine bnK cU fun iA eQ gh=>zL 0 Z Z Z Z (zK Z Z Tryz.call75 (zB Z zM) Z) bN (fun hs=>wGZ p2 aw ax df db hs eP eQ) (.inr Z) ?_
 rintro bZ gM ir cg gD ft ⟨rfl,rfl⟩
 have fu:sW w U bZ [.blk av 158 B2,.blk b6 118 B1,.blk b2 25 B0] cg:=ft
 have eR:=bK.le ay
 have eS:=eR.le cX
 have eT:=eS.le gD
 refine bnK gh fun iC eU gi=>zL 0 Z Z Z Z (zK Z Z Tryz.call75 (zB Z zM) Z) fu (fun hs=>wGZ p3 ao ap cg bZ hs eT eU) (.inr Z) ?_
 rintro b4 gO it dg ii fw ⟨rfl,rfl⟩
 have fy:sW w U b4 [.blk av 158 B2,.blk b6 118 B1,.blk b2 25 B0] dg:=fw
 refine oR Z (Runs.mulw Z Z Z) (oR Z (Zx Z Z Z) (oA Z Z (oA Z Z (eN (zO ?_)))))
 cases gi
 exact ⟨rfl,_,(wFc rfl rfl),b4,_,(fy.pick [] _ (by decide) rfl),rfl,rfl⟩
 intro bD gj
 refine ZF (nF (bD.out)) (sR fL2 Z (oA Z Z (oA Z Z (eN (zO (zf (zR ?_)))))))
 cases gj
 exact ⟨rfl,_,(wFc rfl rfl),bm,_,(bw.pick [] _ (by decide) rfl),rfl,rfl⟩
 intro bC gm
 refine ZF (nF (bC.out)) (sR fL2 Z (oA Z Z (oA Z Z (eN (zO (zf (zR ?_)))))))
 cases gm
 exact ⟨rfl,_,(wFc rfl rfl),bt,_,(cM.pick [] _ (by decide) rfl),rfl,rfl⟩
 intro an gq
 refine zd Z Z Z (zN Z Z (nF (an.out)) Z) (zd Z Z Z (zN Z Z (nF (an.out)) Z) (ZA Z Z Z (zN Z Z (nF (an.out)) Z) (zd Z Z Z (zN Z Z (nF (an.out)) Z) (oR Z (zV Z (nF (an.out)) Z) (oA Z Z (eN (ZF Z (sR fL2 Z (oA Z Z (oA Z Z (eN (zO (zf (zR ?_))))))))))))))
 cases gq
 exact ⟨rfl,_,(wFc rfl rfl),bs,_,(cL.pick [] _ (by decide) rfl),rfl,rfl⟩
 intro bB gr
 refine cT Z bB (sR fL2 Z (oA Z Z (oA Z Z (eN (zO (zf (zR ?_)))))))
 cases gr
 exact ⟨rfl,_,(wFc rfl rfl),a8,_,(ba.pick [] _ (by decide) rfl),rfl,rfl⟩
 intro af gu
 refine oT Z af (oT Z af (oT Z af (oT Z af (oT Z af (oT Z af (oR Z (zV Z (Zj af.out) Z) (oA Z Z (eN (ZF Z (sR fL2 Z (oA Z Z (oA Z Z (eN (zO (zf (zR ?_))))))))))))))))
 cases gu
 exact ⟨rfl,_,(wFc rfl rfl),a8,_,(ba.pick [] _ (by decide) rfl),rfl,rfl⟩
 intro bz gv
 refine cT Z bz (sR fL3 Z (oM Z Z (oA Z Z (oA Z Z (eN (zO (zf (zR ?_))))))))
 cases gv
 exact ⟨rfl,_,(wFc rfl rfl),a8,_,(ba.pick [] _ (by decide) rfl),rfl,rfl⟩
theorem wJO (p0:wAJ) (aj:Option Addr) (am:Nat) (p1:wBV) (ag:Option Addr) (ah:Nat) (ak:Option Addr) (an:Nat) (p2:Int) (w:World) (U:PHeap) (hS:St0 w U []) (bz:Sl U 1 aj am p0.Classes.length (hM KL.encI p0.Classes)) (bA:Sl U 1 ag ah p1.Classes.length (hM KL.encI p1.Classes)) (bB:SlR U wDT ak an p1.Times) {r:Int × Int} (hm:wFm p0 p1 p2=some r):Gv Tryz.prog 45 [.agg #[.slice aj p0.Classes.length am,jV p0.Each,jV p0.Laps,jV p0.Spare,jV p0.Loop,jV p0.Unused],.agg #[.slice ag p1.Classes.length ah,.slice ak p1.Times.length an],jV p2] w (wBU w [] U (fun U_ L_ v=>v=.tuple #[jV r.1,jV r.2]/\L_=[])):=by
 unfold wFm at hm
 refine Gv.of Tryz.func45 Z Tryz.ntmps45 Tryz.results45 Z (sR gCo Z ?_)
 let B0:List Value:=[.slice aj p0.Classes.length am,jV p0.Each,jV p0.Laps,jV p0.Spare,jV p0.Loop,jV p0.Unused]
 refine ZS (cs:=B0) rfl rfl rfl rfl rfl rfl (by rfl) hS ?_
 intro W1 b2 b4
 let B1:List Value:=[.slice ag p1.Classes.length ah,.slice ak p1.Times.length an]
 refine ZS (cs:=B1) rfl rfl rfl rfl rfl rfl (by rfl) b4 ?_
 intro W5 b6 ba
 refine oA Z Z (oA Z Z (eN (sR gCp Z (oL Z (ba.ldBA (j:=1) Z Z Z Zv ZG (vs:=B0) Z Z) (oL Z (ba.ldBA (j:=0) Z Z Z yw yM (vs:=B1) Z Z) (bnK hm fun x9 bM ch=>zL 0 Z Z Z Z (zK Z Z Tryz.call69 (zB Z (zB Z zM)) Z) ba (fun hs=>wDy p0 aj am p1 ag ah ak an W5 U hs bz bA bB bM) (.inr Z) ?_))))))
 rintro az ct cH bn be bY ⟨rfl,rfl⟩
 have a8:sW w U az [.blk b6 118 B1,.blk b2 25 B0] bn:=bY
 refine oA Z Z (eN (zG (zT (sR fL3 Z (oM Z Z (oR Z (ZW Z Z Z) (oA Z Z (eN (ifc ch ?_ ?_)))))))))
 intro aY ci
 refine zm (zw (fun h=>h aY.out)) (sR (wHS (.fx 5 (.fl 6 (.fl 7 .nil)) .stop)) Z (oM Z Z (oR Z (zJ Z Z Zr Z zS) (oL Z (a8.ldB (j:=0) Z Z Z zc (v:=.slice ag p1.Classes.length ah) Z) (oR Z (za Z Z zA) (oR Z (Zx Z Z Z) (bnK ci fun cL bN cj=>zL 0 Z Z Z Z (zK Z Z yL (zB Z (zB Z (zB Z zM))) Z) a8 (fun hs=>wCR p2 0 (w64 ((↑p1.Classes.length:Int) - 1)) bn az hs bN) (.inr Z) ?_)))))))
 rintro au cu cI bH bf bZ ⟨rfl,rfl⟩
 have av:sW w U au [.blk b6 118 B1,.blk b2 25 B0] bH:=bZ
 refine oR Z (ZN Z Z) (oA Z Z (eN (ifc cj ?_ ?_)))
 intro aZ cm
 refine zm (nC aZ.out) (ZV (zb (zI (sR (wDE gCc) Z (oL Z (av.ldBA (j:=0) Z Z Z yw yM (vs:=B1) Z Z) (oL Z (av.ldBA (j:=1) Z Z Z Zv ZG (vs:=B0) Z Z) ?_))))))
 let B2:List Value:=[.slice ag p1.Classes.length ah,.slice ak p1.Times.length an,.slice aj p0.Classes.length am,jV p0.Each,jV p0.Laps,jV p0.Spare,jV p0.Loop,jV p0.Unused]
 let B3:List Value:=[.slice none 0 0,.slice none 0 0,.slice none 0 0,jV 0,jV 0,jV 0,jV 0,jV 0]
 refine oR Z (ZH (pv:=[(0,.agg B1.toArray),(1,.agg B0.toArray)]) (z:=B3) (cs:=B2) Z (wAC Z (wAC Z wAM)) Tryz.zeroValue158 wHu Z Z) (zz (cs:=B3) Z Z Z Z Z Tryz.zeroValue158 Z av ?_)
 intro cA aX ca
 refine zu (j:=0) (vs:=B2) Z Z Z Z ca Z Z Z Z yk (zC Z) Z Z Z ?_
 intro bp cc
 have bw:sW w U au [.blk aX 158 B2,.blk b6 118 B1,.blk b2 25 B0] bp:=cc
 refine eN (sR (.fl 0 (.fx 1 (wFz (.nil)) .stop)) Z (oL Z (bw.ldBA (j:=0) Z Z Z Tryz.isAgg158 yk (vs:=B2) Z Z) ?_))
 have bO:=bA.le be
 have bt:=bO.le bf
 have bP:=bB.le be
 have bu:=bP.le bf
 have bQ:=bz.le be
 have bv:=bQ.le bf
 have q:=bnd cm
 obtain ⟨⟨bE,bF⟩,bR,bC⟩:=q
 try dsimp only at bC
 refine zL 0 Z Z Z Z (zK Z Z Tryz.call70 (zB Z (zB Z zM)) Z) bw (fun hs=>wDp (⟨p1,p0⟩:wAl) ag ah ak an aj am (-1) bp au hs bt bu bv bR) (.inr Z) ?_
 rintro bm cw cJ bq bg cd ⟨bi,br,rfl,rfl,cE⟩
 let B4:Res:=.row bi br 3 1 (hM KL.encI bE)
 have bx:sW w U bm [B4,.blk aX 158 B2,.blk b6 118 B1,.blk b2 25 B0] bq:=cd
 refine oM Z Z (oR Z (zx Z Z (v:=.slice bi bE.length br) Z) (oR Z (zx Z Z (v:=jV bF) Z) (oA Z Z (oA Z Z (eN (sR (.fl 0 (.fl 1 (.fx 2 (wOL (.nil)) .stop))) Z (oL Z (bx.ldBA (j:=1) Z Z Z Tryz.isAgg158 yk (vs:=B2) Z Z) (oM Z Z ?_))))))))
 have bS:=bt.le bg
 have bT:=bu.le bg
 have bU:=bv.le bg
 have q:=bnd bC
 obtain ⟨⟨bh,bG⟩,bV,bD⟩:=q
 try dsimp only at bD
 refine zL 0 Z Z Z Z (zK Z Z Tryz.call70 (zB Z (zB Z zM)) Z) bx (fun hs=>wDp (⟨p1,p0⟩:wAl) ag ah ak an aj am p2 bq bm hs bS bT bU bV) (.inr Z) ?_
 rintro aW cy cK bJ cG cg ⟨ay,bs,rfl,rfl,bW⟩
 have bb:sW w U aW [.row ay bs 3 1 (hM KL.encI bh),B4,.blk aX 158 B2,.blk b6 118 B1,.blk b2 25 B0] bJ:=cg
 refine oM Z Z (oR Z (zx Z Z (v:=.slice ay bh.length bs) Z) (oR Z (zx Z Z (v:=jV bG) Z) (oA Z Z (oA Z Z (eN (zG (sR fL2 Z (oM Z Z ?_))))))))
 have bX:ay.isNone=decide (bh=[]):=wJq (j:=0) bb rfl (fun _=>rfl) (by decide) bW
 refine oR Z (Runs.eqNilR Z Z Z zA bX) (eN (ifc bD ?_ ?_))
 intro a7 co
 refine cT Z a7 (sR fL2 Z (oA Z Z (oA Z Z (eN (zO (zR ?_))))))
 cases co
 exact ⟨rfl,_,(wFc rfl rfl),aW,_,(bb.pick [] _ (by decide) rfl),rfl,rfl⟩
 intro a7 cp
 refine cF Z a7 (kN (zG (ya fun ax aq=>?_)))
 have cC:ax 6=jV 0:=(aq 6).trans rfl
 have cD:ax 7=jV 0:=(aq 7).trans rfl
 have bK:ax 11=jV bF:=(aq 11).trans rfl
 have bL:ax 13=jV bG:=(aq 13).trans rfl
 clear aq
 refine rR fL5 Z (oM Z bL (oM Z bK (oR Z (Zx Z Z Z) (oA Z Z (oA Z Z (eN (zO ?_)))))))
 cases cp
 exact ⟨rfl,_,(wFc rfl rfl),aW,_,(bb.pick [] _ (by decide) rfl),rfl,rfl⟩
 intro aZ cq
 refine ZF (nF (aZ.out)) (sR fL2 Z (oA Z Z (oA Z Z (eN (zO (zf (zR ?_)))))))
 cases cq
 exact ⟨rfl,_,(wFc rfl rfl),au,_,(av.pick [] _ (by decide) rfl),rfl,rfl⟩
 intro aY cr
 refine cT Z aY (sR fL3 Z (oM Z Z (oA Z Z (oA Z Z (eN (zO (zf (zR ?_))))))))
 cases cr
 exact ⟨rfl,_,(wFc rfl rfl),az,_,(a8.pick [] _ (by decide) rfl),rfl,rfl⟩
end Go.Proofs.YtnbcoenjobdplaaGreat
