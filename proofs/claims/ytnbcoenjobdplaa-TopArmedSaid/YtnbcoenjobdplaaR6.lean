import Derived.Test.YtnbcoenjobdplaaR5
import Derived.Test.YtnbcoenjobdplaaR4
set_option linter.all false
open List renaming flatMap->hD
open Option.some renaming inj->hM
open Go.Value renaming bool->nA
open Bool renaming eq_false_iff->nB
open Option renaming map->nD
namespace Go.Proofs.Ytnbcoenjobdplaa
open Go.KL
def gBi:Sch:=.fx 0 (.fl 1 .nil) .stop
def gBj:Sch:=.fx 1 (.fl 2 .nil) .stop
def gBk:Sch:=.fl 1 (.fx 2 (.fl 3 .nil) .stop)
def gBl:Sch:=.fl 0 gBj
def gBm:Sch:=.fl 0 (.fl 1 (.fx 2 (.fx 3 .nil .stop) .stop))
def gBn:Sch:=.fl 0 (.fx 1 (.fl 2 (.fl 3 .nil)) .stop)
set_option maxHeartbeats 4000000
theorem wEC (p0:wAA) (p1:Int) (ae:Nat) (w:World) (U:PHeap) (hS:St0 w U []) (af:Cl U ae 0 [jV p1]) {r:Bool} (hm:wBH p0 p1=some r):Gv Try.prog 31 [.agg #[jV p0.Bib,jV p0.Time,jV p0.Gate],.pointer (some ⟨ae,0,none⟩)] w (wBm w [] U (fun U_ L_ v=>v=.bool r/\L_=[])):=by
 unfold wBH at hm
 refine Gv.of Try.func31 rfl Try.ntmps31 Try.results31 rfl (sR gBi rfl (zr (cs:=[jV p0.Bib,jV p0.Time,jV p0.Gate]) rfl rfl rfl rfl rfl rfl (by rfl) hS ?_))
 intro W1 b2 ab
 refine oA Z Z (eN (sR fL5 Z (oR Z (zN Z Z ZM Z zB) (oL Z (ab.ldB (j:=0) Z Z Z zD (v:=jV p0.Bib) Z) (oL Z (ab.ldC (f:=0) af (v:=jV p1) Z Z zD Z) (oR Z (Runs.eql Z Z Z) (oA Z Z (eN (zJ ?_)))))))))
 first | (obtain rfl:=hM hm) | cases hm
 exact ⟨rfl,_,(zY rfl),U,_,(ab.pick [] _ (by decide) rfl),rfl,rfl⟩
theorem wAw (p0:List wAA) (am:Option Addr) (an:Nat) (p1:(wAA->Option Bool)) (ao:Value) (w:World) (U:PHeap) (hS:St0 w U []) (aV:Sl U 3 am an p0.length (hD wAC p0)) (aW:FnOK Try.prog U ao wKy wKz p1) {r:Int} (hm:wAH p0 p1=some r):Gv Try.prog 30 [.slice am p0.length an,ao] w (wBm w [] U (fun U_ L_ v=>v=jV r/\L_=[])):=by
 unfold wAH at hm
 refine Gv.of Try.func30 Z Try.ntmps30 Try.results30 Z (sR fL1 Z (oA Z Z (eN (zC (sR fL3 Z (oM Z Z (oR Z (zh Z Z zg) (oM Z Z (eN (zT ?_))))))))))
 have q:=wCo hm
 obtain ⟨r3,ah⟩:=q
 have q:=wCn ah
 obtain ⟨aj,aZ⟩:=q
 replace aj:=zH aj
 refine CK.forN (fun k2 _ J_ w_=>∃ (U_:PHeap),J_ 8=jV (↑k2:Int)/\J_ 0=.slice am p0.length an/\J_ 1=ao/\J_ 7=jV (↑p0.length:Int)/\PHeap.Le U U_/\sW w U U_ [] w_) aZ ?_ ?_ ?_
 exact ⟨U,Z,Z,Z,Z,(zO _),hS⟩
 rintro k2 ⟨⟩ bt J7 W8 ai ⟨bi,ag,aq,au,av,ak,ax⟩ aG aX
 try dsimp only at aG
 have ap:Hid ((↑k2:Int) < (↑p0.length:Int)):=zH (wBg ai)
 replace ai:=zH ai
 have a6:Hid (w64 ((↑k2:Int) + 1)=(↑(k2 + 1):Int)):=zH (by have h1:=aj.out;have h2:=ap.out;rw [wAR] <;> omega)
 refine sR fL1 Z (oR Z (zR Z ag av) (eN (zC (cT Z ap (kN (zC (zT (sR fL2 Z (oM Z ag (oA Z Z (eN (sR (wEp (.fx 5 .nil .stop)) Z (oM Z au (oM Z aq (oM Z Z (bnK aG fun ac aw a7=>?_))))))))))))))))
 have aO:=aV.le ak
 have q:=aO.el (fun _=>rfl) (wAl aw)
 obtain ⟨bl,bp,aR,aS⟩:=q
 refine oR Z (ZR Z Z aR Z zg zp (wCa aw)) (oL Z (ax.ldCA (f:=0) aS Z Z Zj zp (us:=[jV ac.Bib,jV ac.Time,jV ac.Gate]) Z Z) (bnK a7 fun bs aP a8=>?_))
 have aQ:=aW.le ak
 refine Ze (a:=ac) Z Z Z Z Z Z (zA Z zL) ax aQ Z aP ?_
 rintro ae bh br aJ bd aT ⟨rfl,rfl⟩
 have ay:sW w U ae [] aJ:=aT
 refine eN (ifc a8 ?_ ?_)
 intro af ba
 refine zf (congrArg nA af.out) (sR fL2 Z (oM Z Z (oA Z Z (eN (zJ (zc (zM ?_)))))))
 have q:=wBZ ba
 obtain ⟨be,bb,aL⟩:=q
 have q:=wCp hm ah (aX be aL)
 obtain rfl:=q
 refine zM (zc (zM ?_))
 cases bb
 exact ⟨Z,_,(zY Z),ae,_,ay,Z,Z⟩
 intro af bc
 refine zb (congrArg nA (nB.2 af.out)) (ZC (zV (zG (rR fL2 Z (oR Z (zj (zS Z ag Z) (congrArg (jV) a6.out)) (oM Z Z (zk ?_)))))))
 have q:=hM bc
 obtain rfl:=q
 exact zG ⟨Z,_,Z,⟨ae,Z,aq,au,av,(ak.trans bd),ay⟩⟩
 rintro ⟨⟩ bf bj ⟨aI,aN,bm,bn,aM,bo,aU⟩ aY
 have az:=wDU hm ah aY
 try dsimp only at az
 have aK:Hid (¬ ((↑(((↑p0.length:Int):Int) - 0).toNat:Int) < (↑p0.length:Int))):=zH (wBB)
 refine sR fL1 Z (oR Z (zR Z aN aM) (eN (zC (cF Z aK (ZK (ze (ze (ZB (zG (sR fL1 Z (oA Z Z (eN (zJ ?_)))))))))))))
 cases az
 exact ⟨Z,_,(zY Z),aI,_,aU,Z,Z⟩
theorem wCG (p0:List wAA) (ac:Option Addr) (ak:Nat) (w:World) (U:PHeap) (hS:St0 w U []) (aj:Sl U 3 ac ak p0.length (hD wAC p0)) {r:(List wAA)} (hm:wAU p0=some r):Gv Try.prog 33 [.slice ac p0.length ak] w (wBm w [] U (fun U_ L_ v=>∃ (A0:Option Addr) (c0:Nat),v=.slice A0 r.length c0/\L_=[.row A0 c0 47 3 (hD wAC r)])):=by
 unfold wAU at hm
 refine Gv.of Try.func33 Z Try.ntmps33 Try.results33 Z (sR fL1 Z (oA Z Z (eN (zC (sR fL2 Z (oM Z Z (oR Z (Runs.eqNil Z Z Z zg) (eN ?_))))))))
 by_cases c1:ac.isNone=true
 replace c1:=zH c1
 have aG:p0=[]:=List.eq_nil_of_length_eq_zero (Sl.nilA (Option.isNone_iff_eq_none.1 c1.out ▸ aj))
 have az:(some [])=some r:=by simpa [aG,app] using hm
 refine zf (congrArg nA c1.out) (sR fL1 Z (oA Z Z (eN (zJ (zM ?_)))))
 have aw:=hS.nilrow 47 3
 cases az
 exact ⟨Z,_,(zY Z),U,_,aw,none,0,Z,Z⟩
 replace c1:=zH c1
 refine zb (congrArg nA (nB.2 c1.out)) (kN (sR (.fx 0 gBk .stop) Z (OKS.buildSlice0 3 Z Z Z Z Z zg zp hS ?_)))
 intro W6 b7 ax
 have ai:sW w U U [.row (some ⟨b7,0,none⟩) 0 47 3 (hD wAC ([]:List wAA))] W6:=ax
 refine oM Z Z (bnK hm fun am aq ay=>OKS.append0 (j:=0) (enc:=wAC) (ys:=p0) (zs:=am) Z Z Z Z Z Try.underlying39 wKC Z Z Z Z Z Z ai Z Z Z (ai.srcS aj) (fun _=>Z) aq ?_)
 intro af ah an au
 have av:sW w U U [.row af ah 47 3 (hD wAC am)] an:=au
 refine oA Z Z (eN (zJ ?_))
 have hE:=hM ay;first | subst r | cases hE
 exact ⟨Z,_,(zY Z),U,_,av,af,ah,Z,Z⟩
theorem wCD (p0:List wAA) (ab:Option Addr) (ac:Nat) (p1:Int) (p2:Int) (w:World) (U:PHeap) (hS:St ⟨w,[.row ab ac 47 3 (hD wAC p0)],U⟩ U [.row ab ac 47 3 (hD wAC p0)] w) {r:List wAA} (hm:wAX p0 p1 p2=some r):Gv Try.prog 32 [.slice ab p0.length ac,.int .i64 p1,.int .i64 p2] w (wBm w [.row ab ac 47 3 (hD wAC p0)] U (fun U_ L_ v=>∃ (A0:Option Addr) (c0:Nat),v=.slice A0 r.length c0/\L_=[.row A0 c0 47 3 (hD wAC r)])) :=
 wFW (z:=.int .i64 0) (fun _=>rfl) (by omega) (fun _=>rfl) rfl (fun b c n i j cs w h1 h2 h3 h4 h5 h6 h7 h8=>Go.Proofs.delCalls32 b c n i j cs w h1 h2 h3 h4 h5 h6 h7 h8) hS hm
theorem wEn (p0:List wAA) (af:Option Addr) (ag:Nat) (p1:Int) (w:World) (U:PHeap) (hS:St0 w U []) (bg:Sl U 3 af ag p0.length (hD wAC p0)) {r:(List wAA) × Int} (hm:wBX p0 p1=some r):Gv Try.prog 12 [.slice af p0.length ag,jV p1] w (wBm w [] U (fun U_ L_ v=>∃ (A0:Option Addr) (c0:Nat),v=.tuple #[.slice A0 r.1.length c0,jV r.2]/\L_=[.row A0 c0 47 3 (hD wAC r.1)])):=by
 unfold wBX at hm
 refine Gv.of Try.func12 rfl Try.ntmps12 Try.results12 rfl (sR (.fx 0 (.fl 1 (.fl 2 .nil)) .stop) rfl (zr (cs:=[jV p1]) rfl rfl rfl rfl rfl rfl (by rfl) hS ?_))
 intro W1 b2 aZ
 have q:=aZ.freeze (k:=0) rfl
 obtain ⟨U5,bq,ae,be⟩:=q
 replace ae:=Cl.of ae
 have bf:sW w U U5 [] W1:=be
 replace ae:Cl U5 b2 0 [jV p1]:=ae
 refine oA Z Z (oA Z Z (eN (zC (sR gBl Z (oM Z Z ?_)))))
 have aI:=bg.le bq
 refine bnK hm fun bE aR bh=>zK 0 Z Z Z Z (zI Z Z Try.call29 (zA Z zL) Z) bf (fun hs=>wDJ p0 af ag W1 U5 hs aI aR) (.inr Z) ?_
 rintro ah bt bA aw aM aY ⟨rfl,rfl⟩
 have aK:sW w U ah [] aw:=aY
 refine oA Z Z (eN (sR fL2 Z (oM Z Z (oR Z (ZV Z Z Z) (eN (ifc bh ?_ ?_))))))
 intro ak bi
 refine zb (ZD (fun h=>h ak.out)) (kN (sR (.fl 0 gBk) Z (oM Z Z (oR Z (Zl Z zL (zA Z zL)) ?_))))
 have aJ:=aI.le aM
 have aS:=ae.le aM
 have aX:FnOK Try.prog ah (.func (.func 31) #[] #[.pointer (some ⟨b2,0,none⟩)]) wKy wKz (fun x=>wBH x p1):=⟨31,[],[.pointer (some ⟨b2,0,none⟩)],rfl,Try.call31,fun U1 w1 x y vs le hs ha hm=>by obtain rfl:=ha;exact wEC x p1 b2 w1 U1 hs (aS.le le) hm⟩
 refine bnK bi fun aN aT bj=>zK 0 Z Z Z Z (zI Z Z Try.call30 (zA Z (zA Z zL)) Z) aK (fun hs=>wAw p0 af ag (fun x=>wBH x p1) (.func (.func 31) #[] #[.pointer (some ⟨b2,0,none⟩)]) aw ah hs aJ aX aT) (.inr Z) ?_
 rintro ai bu bB ax bp a6 ⟨rfl,rfl⟩
 have aL:sW w U ai [] ax:=a6
 refine oA Z Z (eN (zC (sR fL2 Z (oM Z Z (oR Z (zR Z Z Z) (eN (ifc bj ?_ ?_)))))))
 intro am bk
 refine cT Z am (sR fL2 Z (oA Z Z (oA Z Z (eN (zJ (zM ?_))))))
 have a7:=aL.nilrow 47 3
 cases bk
 exact ⟨Z,_,(wFd Z Z),ai,_,a7,none,0,Z,Z⟩
 intro am bl
 refine cF Z am (kN (sR (.fl 0 (.fx 1 (fC2_4 (.fx 5 (.fl 6 (.fl 7 .nil)) .stop)) .stop)) Z (oM Z Z ?_)))
 have aU:=aJ.le bp
 refine bnK bl fun aO aV bm=>zK 0 Z Z Z Z (zI Z Z Try.call33 (zA Z zL) Z) aL (fun hs=>wCG p0 af ag ax ai hs aU aV) (.inr Z) ?_
 rintro aq bv bC ay bx a8 ⟨ao,aG,rfl,rfl⟩
 have ba:sW w U aq [.row ao aG 47 3 (hD wAC aO)] ay:=a8
 refine oM Z Z (oM Z Z (oR Z (zS Z Z Z) (bnK bm fun bs aW bn=>zK 1 Z Z Z Z (zI Z Z Try.call32 (zA Z (zA Z (zA Z zL))) Z) ba (fun hs=>wCD aO ao aG aN (w64 (aN + 1)) ay aq hs aW) (.inl Z) ?_)))
 rintro au bw bD aQ bz bb ⟨ap,aH,rfl,rfl⟩
 have bc:sW w U au [.row ap aH 47 3 (hD wAC bs)] aQ:=bb
 refine oA Z Z (oA Z Z (eN (zJ ?_)))
 cases bn
 exact ⟨Z,_,(wFd Z Z),au,_,bc,ap,aH,Z,Z⟩
 intro ak bo
 refine cT Z ak (sR fL3 Z (oM Z Z (oA Z Z (oA Z Z (eN (zJ (zM ?_)))))))
 have bd:=aK.nilrow 47 3
 cases bo
 exact ⟨Z,_,(wFd Z Z),ah,_,bd,none,0,Z,Z⟩
theorem wFp (p0:List wAA) (ah:Option Addr) (ai:Nat) (p1:Int) (w:World) (U:PHeap) (hS:St0 w U []) (av:Sl U 3 ah ai p0.length (hD wAC p0)) {r:Int} (hm:wCP p0 p1=some r):Gv Try.prog 34 [.slice ah p0.length ai,jV p1] w (wBm w [] U (fun U_ L_ v=>v=jV r/\L_=[])):=by
 unfold wCP at hm
 refine Gv.of Try.func34 Z Try.ntmps34 Try.results34 Z (sR fL1 Z (oA Z Z (eN (sR gBl Z (oM Z Z (bnK hm fun x1 h2 aH=>zK 0 Z Z Z Z (zI Z Z Try.call29 (zA Z zL) Z) hS (fun hs=>wDJ p0 ah ai w U hs av h2) (.inr Z) ?_))))))
 rintro U4 L5 v6 W7 aL au ⟨rfl,rfl⟩
 have ak:sW w U U4 [] W7:=au
 refine oA Z Z (eN (zC (sR (wGF (.fx 4 (.fl 5 (.fl 6 .nil)) .stop)) Z (oM Z Z (oR Z (Runs.eql Z Z Z) (oM Z Z (ifc aH ?_ ?_)))))))
 intro aa aw
 refine zQ Z Z Z (wT Z aa) Z Z (bnK aw fun aP ao ax=>zK 0 Z Z Z (wT Z aa) (zI Z Z Try.call22 (zA Z (zA Z (zA Z zL))) Z) ak (fun hs=>wCK p1 1 6000 W7 U4 hs ao) (.inr Z) ?_)
 rintro ac aI aM an aK aq ⟨rfl,rfl⟩
 have am:sW w U ac [] an:=aq
 refine rU Z (wT Z aa) (zy Z Z) (oR Z (zW Z (ZX aa.out) Z) (eN (ifc ax ?_ ?_)))
 intro af ay
 refine zb (nC af.out) (kN (sR fL2 Z (oM Z Z (oA Z Z (eN (zJ ?_))))))
 have hE:=hM ay;first | subst r | cases hE
 exact ⟨Z,_,(zY Z),ac,_,am,Z,Z⟩
 intro af az
 refine zf (nF (af.out)) (rR fL1 Z (oA Z Z (eN (sR fL2 Z (oM Z Z (oA Z Z (eN (zJ ?_))))))))
 cases az
 exact ⟨Z,_,(zY Z),ac,_,am,Z,Z⟩
 intro aa aG
 refine oF Z aa (ZZ Z Z Z (zd Z Z (ZD aa.out) Z) (oF Z aa (oR Z (zZ Z (ZD aa.out) Z) (eN (zb Z (kN (sR fL2 Z (oM Z Z (oA Z Z (eN (zJ ?_)))))))))))
 have hE:=hM aG;first | subst r | cases hE
 exact ⟨Z,_,(zY Z),U4,_,ak,Z,Z⟩
theorem wER (p0:Int) (p1:wAA) (p2:wAA) (w:World) (U:PHeap) (hS:St0 w U [])  {r:Bool} (hm:wAf p0 p1 p2=some r):Gv Try.prog 57 [jV p0,.agg #[jV p1.Bib,jV p1.Time,jV p1.Gate],.agg #[jV p2.Bib,jV p2.Time,jV p2.Gate]] w (wBm w [] U (fun U_ L_ v=>v=.bool r/\L_=[])):=by
 unfold wAf at hm
 refine Gv.of Try.func57 rfl Try.ntmps57 Try.results57 rfl (sR (.fx 0 gBj .stop) rfl (zr (cs:=[jV p1.Bib,jV p1.Time,jV p1.Gate]) rfl rfl rfl rfl rfl rfl (by rfl) hS ?_))
 intro W1 b2 af
 refine zr (cs:=[jV p2.Bib,jV p2.Time,jV p2.Gate]) rfl rfl rfl rfl rfl rfl (by rfl) af ?_
 intro W5 b6 ac
 refine oA Z Z (eN (sR fL14 Z (oR Z (zN Z Z ZM Z zB) (oL Z (ac.ldB (j:=1) Z Z Z zD (v:=jV p1.Time) Z) (oR Z (zN Z Z ZM Z zB) (oL Z (ac.ldB (j:=0) Z Z Z zD (v:=jV p2.Time) Z) (oR Z (ZN Z Z Z) (oR Z (zN Z Z ZM Z zB) (oL Z (ac.ldB (j:=0) Z Z Z zD (v:=jV p2.Time) Z) (oR Z (zN Z Z ZM Z zB) (oL Z (ac.ldB (j:=1) Z Z Z zD (v:=jV p1.Time) Z) (oR Z (ZN Z Z Z) (oR Z (Runs.max Z Z Z) (oM Z Z (oR Z (zR Z Z Z) (oA Z Z (eN (zJ ?_))))))))))))))))))
 first | (obtain rfl:=hM hm) | cases hm
 exact ⟨rfl,_,(zY rfl),U,_,(ac.pick [] _ (by decide) rfl),rfl,rfl⟩
theorem wFK (p0:wAA) (p1:((wAA × wAA)->Option Bool)) (ai:Nat) (af:Value) (p2:wAA) (aj:Nat) (w:World) (U:PHeap) (hS:St0 w U []) (aq:Cl U ai 0 [af]) (au:FnOK Try.prog U af wLA wLB p1) (av:Cl U aj 0 [jV p2.Bib,jV p2.Time,jV p2.Gate]) {r:Bool} (hm:wBQ p0 p1 p2=some r):Gv Try.prog 58 [.agg #[jV p0.Bib,jV p0.Time,jV p0.Gate],.pointer (some ⟨ai,0,none⟩),.pointer (some ⟨aj,0,none⟩)] w (wBm w [] U (fun U_ L_ v=>v=.bool r/\L_=[])):=by
 unfold wBQ at hm
 refine Gv.of Try.func58 Z Try.ntmps58 Try.results58 Z (sR gBi Z ?_)
 let B0:List Value:=[jV p0.Bib,jV p0.Time,jV p0.Gate]
 refine zr (cs:=B0) rfl rfl rfl rfl rfl rfl (by rfl) hS ?_
 intro W1 b2 ac
 refine oA Z Z (eN (sR (wGZ (.fx 3 (.fl 4 .nil) .stop)) Z (oL Z (ac.ldC (f:=0) aq (v:=af) Z Z Try.isAgg110 Z) (oL Z (ac.ldBA (j:=0) Z Z Z Zj zp (vs:=B0) Z Z) (oL Z (ac.ldCA (f:=0) av Z Z Zj zp (us:=[jV p2.Bib,jV p2.Time,jV p2.Gate]) Z Z) (bnK hm fun x5 h6 aw=>Ze (a:=(p0,p2)) Z Z Z Z Z Z (zA Z (zA Z zL)) ac au Z h6 ?_))))))
 rintro U8 L9 aG ak az ao ⟨rfl,rfl⟩
 have ap:sW w U U8 [.blk b2 47 B0] ak:=ao
 refine oA Z Z (eN (zJ ?_))
 have hE:=hM aw;first | subst r | cases hE
 exact ⟨rfl,_,(zY rfl),U8,_,(ap.pick [] _ (by decide) rfl),rfl,rfl⟩
theorem wFq (p0:List wAA) (aa:Option Addr) (ab:Nat) (p1:Int) (w:World) (U:PHeap) (hS:St0 w U []) (bT:Sl U 3 aa ab p0.length (hD wAC p0)) {r:(List wAA)} (hm:wCQ p0 p1=some r):Gv Try.prog 35 [.slice aa p0.length ab,jV p1] w (wBm w [] U (fun U_ L_ v=>∃ (A0:Option Addr) (c0:Nat),v=.slice A0 r.length c0/\L_=[]/\Sl U_ 3 A0 c0 r.length (hD wAC r))):=by
 unfold wCQ at hm
 refine Gv.of Try.func35 Z Try.ntmps35 Try.results35 Z (sR fL1 Z (oA Z Z (eN (sR gBm Z (oM Z Z (oR Z (Zl Z (zA Z zL) zL) (ZA (cs:=[.nilFunc]) Z Z Z Z Z Try.zeroValue110 Z hS ?_)))))))
 intro W1 b2 bK
 let B0:List Value:=[.func (.func 57) #[jV p1] #[]]
 refine zt (j:=0) (vs:=B0) Z Z Z Z bK Z Z Z Z Try.sizeOf110 (zE Z) Z Z Z ?_
 intro W5 bL
 have bP:sW w U U [.blk b2 110 B0] W5:=bL
 refine eN (sR fL1 Z (oA Z Z (eN (zC (sR fL3 Z (oM Z Z (oR Z (zh Z Z zg) (oM Z Z (eN (zT ?_))))))))))
 have q:=bP.freeze (k:=0) rfl
 obtain ⟨U9,co,ao,bH⟩:=q
 replace ao:=Cl.of ao
 have bI:sW w U U9 [] W5:=bH
 replace ao:Cl U9 b2 0 B0:=ao
 refine bnK hm fun cI b5 cd=>?_
 have q:=wBY b5
 obtain ⟨aS,b8⟩:=q
 replace aS:=zH aS
 refine CK.forN' (fun ah az J_ w_=>∃ (U_:PHeap) (au:Option Addr) (aw:Nat),J_ 14=jV (↑ah:Int)/\J_ 0=.slice aa p0.length ab/\J_ 5=.pointer (some ⟨b2,0,none⟩)/\J_ 6=.slice au az.length aw/\J_ 12=.slice aa p0.length ab/\J_ 13=jV (↑p0.length:Int)/\PHeap.Le U9 U_/\sW w U U_ [] w_/\Sl U_ 3 au aw az.length (hD wAC az)) b8 ?_ ?_ ?_
 exact ⟨U9,none,0,rfl,rfl,rfl,rfl,rfl,rfl,(zO _),bI,(by first | exact Sl.nil _ _ _ _ | exact SlR.nil)⟩
 rintro ah az cH cr cx aR ⟨bh,au,aw,an,ax,aO,a6,aP,aQ,aG,ba,bv⟩ cn
 have aZ:Hid ((↑ah:Int) < (↑p0.length:Int)):=zH (wBg aR)
 replace aR:=zH aR
 have aq:Hid (w64 ((↑ah:Int) + 1)=(↑(ah + 1):Int)):=zH (by have h1:=aS.out;have h2:=aZ.out;rw [wAR] <;> omega)
 refine sR fL1 Z (oR Z (zR Z an aQ) (eN (zC (cT Z aZ (kN (zC (zT (sR (wGZ (.fx 3 (.fl 4 (.fx 5 .nil .stop)) .stop)) Z (oM Z an (bnK cn fun af a8 cg=>?_))))))))))
 have bw:=bT.le co
 have ay:=bw.le aG
 have q:=ay.el (fun _=>rfl) (wAl a8)
 obtain ⟨cz,cE,bD,bE⟩:=q
 refine oR Z (ZR Z aP bD an zg zp (wCa a8)) (oL Z (ba.ldCA (f:=0) bE Z Z Zj zp (us:=[jV af.Bib,jV af.Time,jV af.Gate]) Z Z) (ZA (cs:=[jV 0,jV 0,jV 0]) Z Z Z Z Z Try.zeroValue47 Z ba ?_))
 intro cy aj bM
 refine oA Z Z ?_
 let B1:List Value:=[jV af.Bib,jV af.Time,jV af.Gate]
 refine zt (j:=0) (vs:=B1) Z Z Z Z bM Z Z Z Z zp (zE Z) Z Z Z ?_
 intro aM bN
 have bO:sW w U bh [.blk aj 47 B1] aM:=bN
 refine eN (sR (wEp (.fx 5 (.fl 6 .nil) .stop)) Z (oM Z ax (oM Z Z (oR Z (zj (zS Z Z Z) (congrArg (jV) aq.out)) (bnK cg fun bc bx ch=>?_)))))
 have q:=Sl.cutM (sz:=3) (f:=wAC) ay (fun _=>rfl) bx
 obtain ⟨aU,bV,bX,bZ,cm⟩:=q
 refine zU (v:=.slice (if ab=(0:Int).toNat then aa else nD (·.add ((0:Int).toNat * 3)) aa) bc.length (ab - (0:Int).toNat)) rfl rfl rfl rfl (fun _=>zj (Runs.slc (sz:=3) (a:=0) (b:=(↑(ah + 1):Int)) rfl rfl (.inr ⟨rfl,rfl⟩) (.inl ⟨_,rfl,rfl⟩) zg zp bV bX bZ (ay).cap) (by rw [cm])) ?_
 generalize hA_A72:(if ab=(0:Int).toNat then aa else nD (·.add ((0:Int).toNat * 3)) aa)=bf at aU ⊢
 generalize hc_c73:ab - (0:Int).toNat=bm at aU ⊢
 have q:=bO.freeze (k:=0) rfl
 obtain ⟨am,ak,ap,bQ⟩:=q
 replace ap:=Cl.of ap
 have bR:sW w U am [] aM:=bQ
 replace ap:Cl am aj 0 B1:=ap
 refine oR Z (Zl Z zL (zA aO (zA Z zL))) ?_
 have bz:=aU.le ak
 have bA:=ao.le aG
 have bB:=bA.le ak
 have bF:FnOK Try.prog am (.func (.func 57) #[jV p1] #[]) wLA wLB (fun x=>wAf p1 x.1 x.2):=⟨57,[jV p1],[],rfl,Try.call57,fun U1 w1 x y vs le hs ha hm=>by obtain rfl:=ha;exact wER p1 x.1 x.2 w1 U1 hs  hm⟩
 have bG:FnOK Try.prog am (.func (.func 58) #[] #[.pointer (some ⟨b2,0,none⟩),.pointer (some ⟨aj,0,none⟩)]) wKy wKz (fun x=>wBQ x (fun x=>wAf p1 x.1 x.2) af):=⟨58,[],[.pointer (some ⟨b2,0,none⟩),.pointer (some ⟨aj,0,none⟩)],rfl,Try.call58,fun U1 w1 x y vs le hs ha hm=>by obtain rfl:=ha;exact wFK x (fun x=>wAf p1 x.1 x.2) b2 (.func (.func 57) #[jV p1] #[]) af aj w1 U1 hs (bB.le le) (bF.le le) (ap.le le) hm⟩
 refine bnK ch fun ai bC ci=>zK 0 Z Z Z Z (zI Z Z Try.call30 (zA Z (zA Z zL)) Z) bR (fun hs=>wAw bc bf bm (fun x=>wBQ x (fun x=>wAf p1 x.1 x.2) af) (.func (.func 58) #[] #[.pointer (some ⟨b2,0,none⟩),.pointer (some ⟨aj,0,none⟩)]) aM am hs bz bG bC) (.inr Z) ?_
 rintro aL ct cG bi aH bS ⟨rfl,rfl⟩
 have bb:sW w U aL [] bi:=bS
 refine oA Z Z (eN (sR fL7 Z (oM Z Z (oR Z (zj (zS Z Z Z) (congrArg (jV) aq.out)) (oM Z Z (oR Z (ZN Z Z Z) (oM Z a6 (oR Z (zh Z Z zg) (oR Z (Zh Z Z Z) (eN (ifc ci ?_ ?_)))))))))))
 intro aN b9
 refine cT Z aN (rR fL6 Z (oM Z ax (oM Z Z (oM Z Z (oR Z (zj (zS Z Z Z) (congrArg (jV) aq.out)) (bnK b9 fun cp bq ca=>?_))))))
 have br:=ay.le ak
 have a7:=br.le aH
 have q:=Sl.cutM (sz:=3) (f:=wAC) a7 (fun _=>rfl) bq
 obtain ⟨aT,bU,bW,bY,cj⟩:=q
 refine zU (v:=.slice (if ab=(ai:Int).toNat then aa else nD (·.add ((ai:Int).toNat * 3)) aa) cp.length (ab - (ai:Int).toNat)) rfl rfl rfl rfl (fun _=>zj (Runs.slc (sz:=3) (a:=ai) (b:=(↑(ah + 1):Int)) rfl rfl (.inl ⟨_,rfl,rfl⟩) (.inl ⟨_,rfl,rfl⟩) zg zp bU bW bY (a7).cap) (by rw [cj])) ?_
 generalize hA_A106:(if ab=(ai:Int).toNat then aa else nD (·.add ((ai:Int).toNat * 3)) aa)=bd at aT ⊢
 generalize hc_c107:ab - (ai:Int).toNat=bj at aT ⊢
 refine oA Z Z (zk (zV (zG (rR fL2 Z (oR Z (zj (zS Z an Z) (congrArg (jV) aq.out)) (oM Z Z (zk ?_)))))))
 cases ca
 exact zG ⟨Z,⟨aL,bd,bj,Z,ax,aO,Z,aP,aQ,((aG.trans ak).trans aH),bb,aT⟩⟩
 intro aN cc
 refine cF Z aN (ZC (zV (zG (rR fL2 Z (oR Z (zj (zS Z an Z) (congrArg (jV) aq.out)) (oM Z Z (zk ?_)))))))
 cases cc
 have bs:=bv.le ak
 have bt:=bs.le aH
 exact zG ⟨Z,⟨aL,au,aw,Z,ax,aO,a6,aP,aQ,((aG.trans ak).trans aH),bb,bt⟩⟩
 rintro cq cw ⟨bg,be,bk,bp,cA,cB,bn,cC,bo,cD,bJ,bu⟩
 have bl:Hid (¬ ((↑(((↑p0.length:Int):Int) - 0).toNat:Int) < (↑p0.length:Int))):=zH (wBB)
 refine sR fL1 Z (oR Z (zR Z bp bo) (eN (zC (cF Z bl (ZK (ze (ze (ZB (zG (sR fL2 Z (oM Z bn (oA Z Z (eN (zJ ?_))))))))))))))
 have hE:=hM cd;first | subst r | cases hE
 exact ⟨Z,_,(zY Z),bg,_,bJ,be,bk,Z,Z,bu⟩
theorem wED (p0:List wAA) (ac:Option Addr) (ae:Nat) (p1:Int) (w:World) (U:PHeap) (hS:St0 w U []) (ak:Sl U 3 ac ae p0.length (hD wAC p0)) {r:Int × Int} (hm:wBD p0 p1=some r):Gv Try.prog 13 [.slice ac p0.length ae,jV p1] w (wBm w [] U (fun U_ L_ v=>v=.tuple #[jV r.1,jV r.2]/\L_=[])):=by
 unfold wBD at hm
 refine Gv.of Try.func13 Z Try.ntmps13 Try.results13 Z (sR fL2 Z (oA Z Z (oA Z Z (eN (zC (sR (.fl 0 gBk) Z (oM Z Z (oM Z Z (bnK hm fun x1 h2 az=>zK 0 Z Z Z Z (zI Z Z Try.call34 (zA Z (zA Z zL)) Z) hS (fun hs=>wFp p0 ac ae p1 w U hs ak h2) (.inr Z) ?_)))))))))
 rintro U4 L5 v6 W7 aG av ⟨rfl,rfl⟩
 have aj:sW w U U4 [] W7:=av
 refine oA Z Z (eN (sR fL2 Z (oM Z Z (oR Z (ZV Z Z Z) (eN (ifc az ?_ ?_))))))
 intro ag aw
 refine zb (ZD (fun h=>h ag.out)) (kN (sR (.fl 0 (.fl 1 (.fx 2 (wKf (.nil)) .stop))) Z (oM Z Z (oM Z Z ?_))))
 have an:=ak.le aG
 refine bnK aw fun aQ ao ax=>zK 0 Z Z Z Z (zI Z Z Try.call35 (zA Z (zA Z zL)) Z) aj (fun hs=>wFq p0 ac ae p1 W7 U4 hs an ao) (.inr Z) ?_
 rintro ah aI aN am aM aq ⟨aH,aK,rfl,rfl,aL⟩
 have au:sW w U ah [] am:=aq
 refine oR Z (zh Z Z zg) (oA Z Z (oA Z Z (eN (zJ ?_))))
 cases ax
 exact ⟨Z,_,(wFd Z Z),ah,_,au,Z,Z⟩
 intro ag ay
 refine cT Z ag (sR fL3 Z (oM Z Z (oA Z Z (oA Z Z (eN (zJ (zM ?_)))))))
 cases ay
 exact ⟨Z,_,(wFd Z Z),U4,_,aj,Z,Z⟩
theorem wDW (p0:List Int) (eJ:Option Addr) (eK:Nat) (p1:Int) (p2:Int) (w:World) (U:PHeap) (hS:St0 w U []) (qi:Sl U 1 eJ eK p0.length (hD KL.encB8 p0)) {r:Bool} (hm:wBc p0 p1 p2=some r):Gv Try.prog 3 [.slice eJ p0.length eK,jV p1,jV p2] w (wBm w [] U (fun U_ L_ v=>v=.bool r/\L_=[])):=by
 unfold wBc at hm
 refine Gv.of Try.func3 Z Try.ntmps3 Try.results3 Z (sR fL1 Z (oA Z Z (eN (sR gBl Z (oM Z Z (bnK hm fun x1 h2 qQ=>zK 0 Z Z Z Z (zI Z Z Try.call4 (zA Z zL) Z) hS (fun hs=>wFC p0 eJ eK w U hs qi h2) (.inr Z) ?_))))))
 rintro U4 L5 v6 W7 tZ qb ⟨aa,eU,fW,rfl,rfl,mg⟩
 have oO:sW w U U4 [.blk aa 53 [.slice eU x1.bytes.length fW,jV x1.next,.int .u32 x1.state]] W7:=qb
 refine oA Z Z (eN (sR fL1 Z (oA Z Z (eN (sR (.fl 0 (.fx 1 (.fl 2 (.fx 3 (.fx 4 .nil .stop) .stop)) .stop)) Z (oM Z Z ?_))))))
 have q:=bnd qQ
 obtain ⟨⟨ag,cR⟩,mn,iz⟩:=q
 try dsimp only at iz
 refine zK 1 Z Z Z Z (zI Z Z Try.call5 (zA Z (zA Z zL)) Z) oO (fun hs=>wAm x1 aa eU fW 5 W7 U4 hs mg mn) (.inl Z) ?_
 rintro co s5 uk jv tS o6 ⟨eZ,f4,rfl,rfl,ms⟩
 let B0:Res:=.blk aa 53 [.slice eZ cR.bytes.length f4,jV cR.next,.int .u32 cR.state]
 have pb:sW w U co [B0] jv:=o6
 let B1:List Value:=[jV ag,jV 3500,.slice none 0 0,.slice none 0 0]
 let B2:List Value:=[jV 0,jV 0,.slice none 0 0,.slice none 0 0]
 refine oR Z (ZS (pv:=[(0,jV ag),(1,jV 3500)]) (z:=B2) (cs:=B1) Z (wAL Z (wAL Z wAg)) Try.zeroValue30 wJZ Z Z) (ZA (cs:=B2) Z Z Z Z Z Try.zeroValue30 Z pb ?_)
 intro tn am pf
 refine zt (j:=0) (vs:=B1) Z Z Z Z pf Z Z Z Z ZL (zE Z) Z Z Z ?_
 intro dq pg
 have ph:sW w U co [.blk am 30 B1,B0] dq:=pg
 refine eN (sR gBl Z (oM Z Z ?_))
 have q:=bnd iz
 obtain ⟨⟨aq,cV⟩,mC,iE⟩:=q
 try dsimp only at iE
 have po:sW w U co [B0,.blk am 30 B1] dq:=ph.pick [1,0] _ (by decide) rfl
 refine zK 1 Z Z Z Z (zI Z Z Try.call6 (zA Z (zA Z (zA Z zL))) Z) po (fun hs=>wBE cR aa eZ f4 (-9) 9 dq co hs ms mC) (.inl Z) ?_
 rintro fB s9 uq fP tV pB ⟨fe,gc,rfl,rfl,mH⟩
 have pF:sW w U fB [.blk aa 53 [.slice fe cV.bytes.length gc,jV cV.next,.int .u32 cV.state],.blk am 30 B1] fP:=pB
 refine oA Z Z (eN (zC (sR gBl Z (oM Z Z ?_))))
 have q:=bnd iE
 obtain ⟨⟨cY,eT⟩,mO,iI⟩:=q
 try dsimp only at iI
 refine zK 1 Z Z Z Z (zI Z Z Try.call6 (zA Z (zA Z (zA Z zL))) Z) pF (fun hs=>wBE cV aa fe gc 1 8 fP fB hs mH mO) (.inl Z) ?_
 rintro dh tg uw jJ tY pV ⟨ff,ge,rfl,rfl,mU⟩
 have pX:sW w U dh [.blk aa 53 [.slice ff eT.bytes.length ge,jV eT.next,.int .u32 eT.state],.blk am 30 B1] jJ:=pV
 refine oM Z Z (eN (zT ?_))
 have q:=bnd iI
 obtain ⟨⟨sC,sD,sE,az,an⟩,qo,iu⟩:=q
 try dsimp only at iu
 have q:=wBY qo
 obtain ⟨eo,qp⟩:=q
 replace eo:=zH eo
 refine CK.forN' (fun ai (bP,eL,eM,bg,bQ) J_ w_=>∃ (U_:PHeap) (b8:Option Addr) (ct:Nat) (bj:Option Addr) (bm:Nat) (b9:Option Addr) (cu:Nat),J_ 45=jV (↑ai:Int)/\J_ 1=jV p1/\J_ 2=jV p2/\J_ 7=.pointer (some ⟨aa,0,none⟩)/\J_ 8=.slice b9 bQ.length cu/\J_ 9=.pointer (some ⟨am,0,none⟩)/\J_ 10=jV aq/\J_ 44=jV cY/\PHeap.Le dh U_/\sW w U U_ [.blk aa 53 [.slice b8 bP.length ct,jV eL,.int .u32 eM],.row bj bm 3 1 (hD KL.encI bg),.blk am 30 [jV ag,jV 3500,.slice none 0 0,.slice bj bg.length bm],.row b9 cu 33 3 (hD wAO bQ)] w_/\Sl U_ 1 b8 ct bP.length (hD KL.encB8 bP)) qp ?_ ?_ ?_
 have oI:=pX.nilrow 3 1
 have oJ:=oI.nilrow 33 3
 exact ⟨dh,ff,ge,none,0,none,0,rfl,rfl,rfl,rfl,rfl,rfl,rfl,rfl,(zO _),(oJ.pick [2,1,3,0] _ (by decide) rfl),mU⟩
 rintro ai ⟨bP,eL,eM,bg,bQ⟩ uA sJ jr ee ⟨jh,b8,ct,bj,bm,b9,cu,dS,k9,la,cz,lb,dH,gq,gt,rS,oK,mh⟩ iO
 try dsimp only at iO
 have fY:Hid ((↑ai:Int) < cY):=zH (wBg ee)
 replace ee:=zH ee
 have ij:Hid (w64 ((↑ai:Int) + 1)=(↑(ai + 1):Int)):=zH (by have h1:=eo.out;have h2:=fY.out;rw [wAR] <;> omega)
 refine sR fL1 Z (oR Z (zR Z dS gt) (eN (zC (cT Z fY (kN (zC (zT (sR fL2 Z (oM Z dS (oA Z Z (eN (sR (wGF (.fx 4 (fC5_7 (.fx 8 (wKJ (.fx 12 (.fx 13 (.fl 14 .nil) .stop) .stop)) .stop)) .stop)) Z (oM Z lb (oM Z Z (oR Z (zj (zS Z Z Z) (congrArg (jV) ij.out)) (oM Z cz ?_))))))))))))))))
 have q:=bnd iO
 obtain ⟨⟨bW,cP⟩,mi,iw⟩:=q
 try dsimp only at iw
 refine zK 1 Z Z Z Z (zI Z Z Try.call5 (zA Z (zA Z zL)) Z) oK (fun hs=>wAm (⟨bP,eL,eM⟩:wAE) aa b8 ct 3 jr jh hs mh mi) (.inl Z) ?_
 rintro fy sZ ui fN rT oP ⟨eV,fZ,rfl,rfl,mj⟩
 let B3:Res:=.blk am 30 [jV ag,jV 3500,.slice none 0 0,.slice bj bg.length bm]
 let B4:Res:=.row bj bm 3 1 (hD KL.encI bg)
 let B5:Res:=.row b9 cu 33 3 (hD wAO bQ)
 have oQ:sW w U fy [.blk aa 53 [.slice eV cP.bytes.length fZ,jV cP.next,.int .u32 cP.state],B4,B3,B5] fN:=oP
 refine oM Z Z (oR Z (Runs.mulw Z Z Z) (oM Z cz ?_))
 have q:=bnd iw
 obtain ⟨⟨bX,cQ⟩,ml,iy⟩:=q
 try dsimp only at iy
 refine zK 1 Z Z Z Z (zI Z Z Try.call5 (zA Z (zA Z zL)) Z) oQ (fun hs=>wAm cP aa eV fZ 10 fN fy hs mj ml) (.inl Z) ?_
 rintro bx s4 uj jt rV oS ⟨eW,f0,rfl,rfl,mm⟩
 let B6:Res:=.blk aa 53 [.slice eW cQ.bytes.length f0,jV cQ.next,.int .u32 cQ.state]
 have oU:sW w U bx [B6,B4,B3,B5] jt:=oS
 refine oR Z (zS Z Z Z) (oR Z (zS Z Z Z) ?_)
 let B7:List Value:=[jV (↑(ai + 1):Int),jV bW,jV (w64 ((w64 ((w64 (10 * (↑ai:Int))) + bX)) + 1))]
 let B8:List Value:=[jV 0,jV 0,jV 0]
 refine oR Z (ZS (pv:=[(0,jV (↑(ai + 1):Int)),(1,jV bW),(2,jV (w64 ((w64 ((w64 (10 * (↑ai:Int))) + bX)) + 1)))]) (z:=B8) (cs:=B7) Z (wAL Z (wAL Z (wAL Z wAg))) Try.zeroValue33 wJa Z Z) (zq (pv:=[(0,.agg B7.toArray)]) (zs:=B8) (cs:=B7) Z Z Z Z Z (wAL Z wAg) zX ZO Try.zeroValue33 Z Z Z Z Z oU ?_)
 intro ju jM oV
 let B9:Res:=.row (some ⟨jM,0,none⟩) 1 33 3 (hD wAO [(⟨(↑(ai + 1):Int),bW,w64 ((w64 ((w64 (10 * (↑ai:Int))) + bX)) + 1)⟩:wAB)])
 have gY:sW w U bx [B9,B6,B4,B3,B5] ju:=oV
 refine bnK iy fun iZ mo qO=>ZJ (j:=4) (enc:=wAO) (xs:=bQ) (ys:=[(⟨(↑(ai + 1):Int),bW,w64 ((w64 ((w64 (10 * (↑ai:Int))) + bX)) + 1)⟩:wAB)]) (zs:=iZ) rfl rfl rfl rfl rfl Try.underlying25 wLC rfl rfl rfl rfl rfl rfl gY rfl rfl rfl (gY.srcR (j:=0) rfl (by decide) (wAD (f:=wAO) (sz:=3) (fun _=>rfl) [(⟨(↑(ai + 1):Int),bW,w64 ((w64 ((w64 (10 * (↑ai:Int))) + bX)) + 1)⟩:wAB)])) (fun _=>rfl) (fun _=>rfl) mo rfl ?_
 intro eX f1 dp oW
 let a8:Res:=.row eX f1 33 3 (hD wAO iZ)
 have oX:sW w U bx [B9,B6,B4,B3,a8] dp:=oW
 refine ZW rfl rfl rfl rfl rfl rfl (eN (ZT ZU [3,1004,3,1005,3,3,3,2,0,3,0,aa] (wGZ (.fl 5 (.fx 3 (.fl 4 (.fl 6 (.fx 7 (.fx 8 (.fl 9 (.fx 10 .nil .stop)) .stop) .stop))) .stop))) (by kernel_rfl) ?_))
 have d8:=oX.drew
 generalize hw_W226:({ dp with drawn:=dp.drawn + 1 }:World)=fO at d8 ⊢
 refine zU rfl rfl rfl rfl (fun _=>zN rfl dH za rfl Zd) (OKS.mt (T:=[aa]) [1] [0,2,3,4] [B9,B4,B3,a8] rfl rfl rfl rfl d8 rfl ⟨⟨1,by decide,_,rfl,rfl⟩,trivial⟩ (by decide) rfl (by decide) (fun _ qg=>(qg.ldB (j:=2) rfl rfl rfl Zm (v:=.slice bj bg.length bm) rfl)) rfl (zQ rfl rfl rfl rfl rfl cz (zQ rfl rfl rfl rfl rfl gq ?_)))
 have q:=bnd qO
 obtain ⟨⟨bY,eO⟩,mp,iA⟩:=q
 try dsimp only at iA
 have oY:sW w U bx [B6,B9,B4,B3,a8] fO:=d8.pick [1,0,2,3,4] _ (by decide) rfl
 refine OKS.callHT 1 rfl rfl rfl rfl (zI rfl rfl Try.call5 (zA rfl (zA rfl zL)) rfl) oY (fun hs=>wAm cQ aa eW f0 40 fO bx hs mm mp) rfl (T:=[aa]) rfl ⟨fun b h=>(by cases h;exact .head _),trivial⟩ ?_
 rintro bz s6 ul jw rW oZ ⟨eY,f2,rfl,rfl,mq⟩
 let cg:Res:=.blk aa 53 [.slice eY eO.bytes.length f2,jV eO.next,.int .u32 eO.state]
 have o3:sW w U bz [cg,B9,B4,B3,a8] jw:=oZ
 refine oR Z (zS Z Z Z) (oR Z (zS Z Z Z) (zq (pv:=[(0,jV (w64 ((w64 (3490 + bY)) + aq)))]) (zs:=[jV 0]) (cs:=[jV (w64 ((w64 (3490 + bY)) + aq))]) Z Z Z Z Z (wAL Z wAg) zF zB zo Z Z Z Z Z o3 ?_))
 intro jx jN o5
 let c8:Res:=.row (some ⟨jN,0,none⟩) 1 3 1 (hD KL.encI [w64 ((w64 (3490 + bY)) + aq)])
 have gZ:sW w U bz [c8,cg,B9,B4,B3,a8] jx:=o5
 refine bnK iA fun cS mr qP=>ZJ (j:=3) (enc:=KL.encI) (xs:=bg) (ys:=[w64 ((w64 (3490 + bY)) + aq)]) (zs:=cS) rfl rfl rfl rfl rfl zn wDF rfl rfl rfl rfl rfl rfl gZ rfl rfl rfl (gZ.srcR (j:=0) rfl (by decide) (wAD (f:=KL.encI) (sz:=1) (fun _=>rfl) [w64 ((w64 (3490 + bY)) + aq)])) (fun _=>rfl) (fun _=>rfl) mr rfl ?_
 intro ca cw jy o7
 let fh:Res:=.row ca cw 3 1 (hD KL.encI cS)
 have o8:sW w U bz [c8,cg,B9,fh,B3,a8] jy:=o7
 refine oR Z (zN Z dH za Z Zd) (zt (j:=4) (vs:=[.slice ca cS.length cw]) Z Z Z Z o8 Z Z Z Z Zd (zE Z) Z Z Z ?_)
 intro jz o9
 have pa:sW w U bz [c8,cg,B9,fh,.blk am 30 [jV ag,jV 3500,.slice none 0 0,.slice ca cS.length cw],a8] jz:=o9
 refine zk (zV (zG (rR fL2 Z (oR Z (zj (zS Z dS Z) (congrArg (jV) ij.out)) (oM Z Z (zk ?_))))))
 cases qP
 exact zG ⟨rfl,⟨bz,eY,f2,ca,cw,eX,f1,rfl,k9,la,cz,rfl,dH,gq,gt,(((rS.trans rT).trans rV).trans rW),(pa.pick [1,3,4,5] _ (by decide) rfl),mq⟩⟩
 rintro sK jA ⟨ji,jd,jR,aN,aR,aT,aZ,l0,lc,lg,gu,lh,lj,lk,ll,tT,pc,mu⟩
 have jS:Hid (¬ ((↑((cY:Int) - 0).toNat:Int) < cY)):=zH (wBB)
 refine sR fL1 Z (oR Z (zR Z l0 ll) (eN (zC (cF Z jS (ZK (ze (ze (ZB (zG (zC (sR gBl Z (oM Z gu ?_))))))))))))
 have q:=bnd iu
 obtain ⟨⟨cU,eP⟩,mw,iB⟩:=q
 try dsimp only at iB
 refine zK 1 Z Z Z Z (zI Z Z Try.call5 (zA Z (zA Z zL)) Z) pc (fun hs=>wAm (⟨sC,sD,sE⟩:wAE) aa jd jR 3 jA ji hs mu mw) (.inl Z) ?_
 rintro dg s7 um jB tU pd ⟨fb,f5,rfl,rfl,my⟩
 let ak:Res:=.row aN aR 3 1 (hD KL.encI az)
 let aU:Res:=.row aT aZ 33 3 (hD wAO an)
 have pe:sW w U dg [.blk aa 53 [.slice fb eP.bytes.length f5,jV eP.next,.int .u32 eP.state],ak,.blk am 30 [jV ag,jV 3500,.slice none 0 0,.slice aN az.length aR],aU] jB:=pd
 refine oM Z Z (eN (zT ?_))
 have q:=bnd iB
 obtain ⟨⟨sF,sG,sH,bi⟩,qq,iC⟩:=q
 try dsimp only at iC
 have q:=wBY qq
 obtain ⟨ep,qr⟩:=q
 replace ep:=zH ep
 refine CK.forN' (fun bK (bR,eQ,eR,bh) J_ w_=>∃ (U_:PHeap) (cc:Option Addr) (cx:Nat) (bk:Option Addr) (bn:Nat),J_ 75=jV (↑bK:Int)/\J_ 1=jV p1/\J_ 2=jV p2/\J_ 7=.pointer (some ⟨aa,0,none⟩)/\J_ 8=.slice aT an.length aZ/\J_ 9=.pointer (some ⟨am,0,none⟩)/\J_ 10=jV aq/\J_ 74=jV cU/\PHeap.Le dg U_/\sW w U U_ [.blk aa 53 [.slice cc bR.length cx,jV eQ,.int .u32 eR],.row bk bn 35 2 (hD wAI bh),ak,.blk am 30 [jV ag,jV 3500,.slice bk bh.length bn,.slice aN az.length aR],aU] w_/\Sl U_ 1 cc cx bR.length (hD KL.encB8 bR)) qr ?_ ?_ ?_
 have pi:=pe.nilrow 35 2
 exact ⟨dg,fb,f5,none,0,rfl,lc,lg,gu,lh,lj,lk,rfl,(zO _),(pi.pick [1,0,2,3,4] _ (by decide) rfl),my⟩
 rintro bK ⟨bR,eQ,eR,bh⟩ uB sL jC ef ⟨jj,cc,cx,bk,bn,gQ,lm,ln,dI,lp,bF,gv,gw,rX,pj,mz⟩ iP
 try dsimp only at iP
 have f9:Hid ((↑bK:Int) < cU):=zH (wBg ef)
 replace ef:=zH ef
 have qy:Hid (w64 ((↑bK:Int) + 1)=(↑(bK + 1):Int)):=zH (by have h1:=ep.out;have h2:=f9.out;rw [wAR] <;> omega)
 refine sR fL1 Z (oR Z (zR Z gQ gw) (eN (zC (cT Z f9 (kN (zC (zT (sR gBn Z (oM Z dI ?_)))))))))
 have q:=bnd iP
 obtain ⟨⟨aL,cW⟩,mA,iD⟩:=q
 try dsimp only at iD
 refine zK 1 Z Z Z Z (zI Z Z Try.call6 (zA Z (zA Z (zA Z zL))) Z) pj (fun hs=>wBE (⟨bR,eQ,eR⟩:wAE) aa cc cx 1 3 jC jj hs mz mA) (.inl Z) ?_
 rintro fz s8 un dr rY pk ⟨fc,ga,rfl,rfl,mD⟩
 let bu:Res:=.blk am 30 [jV ag,jV 3500,.slice bk bh.length bn,.slice aN az.length aR]
 let ch:Res:=.row bk bn 35 2 (hD wAI bh)
 have pm:sW w U fz [.blk aa 53 [.slice fc cW.bytes.length ga,jV cW.next,.int .u32 cW.state],ch,ak,bu,aU] dr:=pk
 refine zU rfl rfl rfl rfl (fun _=>Runs.mulw rfl rfl rfl) (ZW rfl rfl rfl rfl rfl rfl (eN (ZT ZU [3,1004,3,3,3,3,3,3,1,3,3,1,1005,3,3,2,0,3,0,aa] (wLf (.fx 12 (.fl 13 (.fl 14 (.fx 15 (.fx 16 (.fl 17 (.fx 18 .nil .stop)) .stop) .stop))) .stop)) (by kernel_rfl) ?_)))
 have bG:=pm.drew
 generalize hw_W431:({ dr with drawn:=dr.drawn + 1 }:World)=jD at bG ⊢
 refine zU rfl rfl rfl rfl (fun _=>zN rfl bF za rfl Try.sizeOf27) (OKS.mt (T:=[aa]) [0] [1,2,3,4] [ch,ak,bu,aU] rfl rfl rfl rfl bG rfl ⟨⟨0,by decide,_,rfl,rfl⟩,trivial⟩ (by decide) rfl (by decide) (fun _ qh=>(qh.ldB (j:=2) rfl rfl rfl Try.isAgg27 (v:=.slice bk bh.length bn) rfl)) rfl (zQ rfl rfl rfl rfl rfl rfl (zQ rfl rfl rfl rfl rfl rfl (zQ rfl rfl rfl rfl rfl gv (zU rfl rfl rfl rfl (fun _=>zS rfl rfl rfl) (zQ rfl rfl rfl rfl rfl dI (zU rfl rfl rfl rfl (fun _=>zN rfl bF za rfl zB) (zz rfl rfl rfl rfl (bG.ldB (j:=3) rfl rfl rfl zD (v:=jV ag) rfl) rfl (zU rfl rfl rfl rfl (fun _=>Runs.negw rfl rfl) (zU rfl rfl rfl rfl (fun _=>zN rfl bF za rfl zB) (zz rfl rfl rfl rfl (bG.ldB (j:=3) rfl rfl rfl zD (v:=jV ag) rfl) rfl ?_)))))))))))
 have q:=bnd iD
 obtain ⟨⟨bZ,eS⟩,mE,iF⟩:=q
 try dsimp only at iF
 refine OKS.callHT 1 rfl rfl rfl rfl (zI rfl rfl Try.call6 (zA rfl (zA rfl (zA rfl zL))) rfl) bG (fun hs=>wBE cW aa fc ga (w64 (-ag)) ag jD fz hs mD mE) rfl (T:=[aa]) rfl ⟨fun b h=>(by cases h;exact .head _),trivial⟩ ?_
 rintro bA ta uo jE rZ pp ⟨fd,gb,rfl,rfl,mF⟩
 let ci:Res:=.blk aa 53 [.slice fd eS.bytes.length gb,jV eS.next,.int .u32 eS.state]
 have pq:sW w U bA [ci,ch,ak,bu,aU] jE:=pp
 refine oR Z (zS Z Z Z) ?_
 let c9:List Value:=[jV (w64 (1000 * aL)),jV (w64 ((w64 ((w64 (1000 * aL)) + aq)) + bZ))]
 refine oR Z (ZS (pv:=[(0,jV (w64 (1000 * aL))),(1,jV (w64 ((w64 ((w64 (1000 * aL)) + aq)) + bZ)))]) (z:=[jV 0,jV 0]) (cs:=c9) Z (wAL Z (wAL Z wAg)) Try.zeroValue35 wJb Z Z) (zq (pv:=[(0,.agg c9.toArray)]) (zs:=[jV 0,jV 0]) (cs:=c9) Z Z Z Z Z (wAL Z wAg) Zg Zp Try.zeroValue35 Z Z Z Z Z pq ?_)
 intro jF jO pt
 let da:Res:=.row (some ⟨jO,0,none⟩) 1 35 2 (hD wAI [(⟨w64 (1000 * aL),w64 ((w64 ((w64 (1000 * aL)) + aq)) + bZ)⟩:wAF)])
 have g6:sW w U bA [da,ci,ch,ak,bu,aU] jF:=pt
 refine bnK iF fun cX mG qR=>ZJ (j:=2) (enc:=wAI) (xs:=bh) (ys:=[(⟨w64 (1000 * aL),w64 ((w64 ((w64 (1000 * aL)) + aq)) + bZ)⟩:wAF)]) (zs:=cX) rfl rfl rfl rfl rfl Try.underlying27 wLD rfl rfl rfl rfl rfl rfl g6 rfl rfl rfl (g6.srcR (j:=0) rfl (by decide) (wAD (f:=wAI) (sz:=2) (fun _=>rfl) [(⟨w64 (1000 * aL),w64 ((w64 ((w64 (1000 * aL)) + aq)) + bZ)⟩:wAF)])) (fun _=>rfl) (fun _=>rfl) mG rfl ?_
 intro cd cy jG pu
 let fk:Res:=.row cd cy 35 2 (hD wAI cX)
 have py:sW w U bA [da,ci,fk,ak,bu,aU] jG:=pu
 refine oR Z (zN Z bF za Z Try.sizeOf27) (zt (j:=4) (vs:=[.slice cd cX.length cy]) Z Z Z Z py Z Z Z Z Try.sizeOf27 (zE Z) Z Z Z ?_)
 intro jH pz
 have pA:sW w U bA [da,ci,fk,ak,.blk am 30 [jV ag,jV 3500,.slice cd cX.length cy,.slice aN az.length aR],aU] jH:=pz
 refine zk (zV (zG (rR fL2 Z (oR Z (zj (zS Z gQ Z) (congrArg (jV) qy.out)) (oM Z Z (zk ?_))))))
 cases qR
 exact zG ⟨rfl,⟨bA,fd,gb,cd,cy,rfl,lm,ln,dI,lp,bF,gv,gw,((rX.trans rY).trans rZ),(pA.pick [1,2,3,4,5] _ (by decide) rfl),mF⟩⟩
 rintro sM fQ ⟨tk,je,jT,br,bC,l3,lq,ls,tL,dJ,gx,tM,lu,tW,pC,tQ⟩
 have jU:Hid (¬ ((↑((cU:Int) - 0).toNat:Int) < cU)):=zH (wBB)
 refine sR fL1 Z (oR Z (zR Z l3 lu) (eN (zC (cF Z jU (ZK (ze (ze (ZB (zG (sR (.fl 0 (.fx 1 (fC2_8 (.nil)) .stop)) Z (oM Z dJ ?_)))))))))))
 have q:=pC.freezeR (k:=4) (n:=an.length) rfl (wAD (f:=wAO) (sz:=3) (fun _=>rfl) an) (by decide)
 obtain ⟨fC,tX,iM,pD⟩:=q
 let ab:Res:=.blk am 30 [jV ag,jV 3500,.slice br bi.length bC,.slice aN az.length aR]
 let ac:Res:=.blk aa 53 [.slice je sF.length jT,jV sG,.int .u32 sH]
 let bv:Res:=.row br bC 35 2 (hD wAI bi)
 have pE:sW w U fC [ac,bv,ak,ab] fQ:=pD
 have q:=bnd iC
 obtain ⟨⟨b5,sw,i5⟩,mI,iG⟩:=q
 try dsimp only at iG
 refine zK 0 Z Z Z Z (zI Z Z Try.call7 (zA Z zL) Z) pE (fun hs=>wFR an aT aZ fQ fC hs iM mI) (.inr Z) ?_
 rintro fD tc ur fR r5 pG ⟨c4,dw,rfl,rfl⟩
 let fm:Res:=.row c4 dw 3 1 (hD KL.encI b5)
 have pI:sW w U fD [fm,ac,bv,ak,ab] fR:=pG
 refine oM Z Z (oR Z (ZF Z Z (v:=.slice c4 b5.length dw) Z) (oR Z (ZF Z Z (v:=jV sw) Z) (oR Z (ZF Z Z (v:=jV i5) Z) (oA Z Z (oA Z Z (oA Z Z (eN (sR (wGZ (.fx 3 (.fl 4 (.fx 5 (wKI (.nil)) .stop)) .stop)) Z (oM Z dJ (oM Z Z (oM Z lq (bnK iG fun sA mJ qS=>zK 0 Z Z Z Z (zI Z Z Try.call9 (zA Z (zA Z zL)) Z) pI (fun hs=>wDH p1 300 fR fD hs mJ) (.inr Z) ?_))))))))))))
 rintro jk td ut dt r6 pJ ⟨rfl,rfl⟩
 have pK:sW w U jk [fm,ac,bv,ak,ab] dt:=pJ
 refine oR Z (zS Z Z Z) ?_
 have q:=pK.freezeR (k:=0) (n:=b5.length) rfl (wAD (f:=KL.encI) (sz:=1) (fun _=>rfl) b5) (by decide)
 obtain ⟨fE,r7,rK,pM⟩:=q
 have pN:sW w U fE [ac,bv,ak,ab] dt:=pM
 have mK:=iM.le r5
 have mL:=mK.le r6
 have cE:=mL.le r7
 have q:=bnd qS
 obtain ⟨⟨aj,i6⟩,mM,iH⟩:=q
 try dsimp only at iH
 refine zK 0 Z Z Z Z (zI Z Z Try.call8 (zA Z (zA Z (zA Z zL))) Z) pN (fun hs=>wEk an aT aZ b5 c4 dw (w64 (sA + 1)) dt fE hs cE rK mM) (.inr Z) ?_
 rintro jm te uu cr eE pO ⟨aG,aI,rfl,rfl⟩
 let aV:Res:=.row aG aI 47 3 (hD wAC aj)
 have g7:sW w U jm [aV,ac,bv,ak,ab] cr:=pO
 refine oM Z Z (oR Z (ZF Z Z (v:=.slice aG aj.length aI) Z) (oR Z (ZF Z Z (v:=jV i6) Z) (oA Z Z (oA Z Z (eN (sR (.fl 0 (.fx 1 (wJP (.nil)) .stop)) Z ?_))))))
 let fq:List Value:=[jV ag,jV 3500,.slice br bi.length bC,.slice aN az.length aR]
 refine oL Z (g7.ldBA (j:=4) Z Z gx Try.isAgg30 ZL (vs:=fq) Z Z) ?_
 have q:=g7.freezeR (k:=2) (n:=bi.length) rfl (wAD (f:=wAI) (sz:=2) (fun _=>rfl) bi) (by decide)
 obtain ⟨jo,eF,rL,pP⟩:=q
 have pQ:sW w U jo [aV,ac,ak,ab] cr:=pP
 have q:=pQ.freezeR (k:=2) (n:=az.length) rfl (wAD (f:=KL.encI) (sz:=1) (fun _=>rfl) az) (by decide)
 obtain ⟨fG,cM,iN,pR⟩:=q
 have pS:sW w U fG [aV,ac,ab] cr:=pR
 have gR:=rL.le cM
 have q:=bnd iH
 obtain ⟨⟨ap,i7⟩,mP,iJ⟩:=q
 try dsimp only at iJ
 refine zK 0 Z Z Z Z (zI Z Z Try.call10 (zA Z zL) Z) pS (fun hs=>wFT (⟨ag,3500,bi,az⟩:wAM) br bC aN aR cr fG hs gR iN mP) (.inr Z) ?_
 rintro fH tf uv fS bT pT ⟨a7,bb,rfl,rfl⟩
 let aH:Res:=.row a7 bb 3 1 (hD KL.encI ap)
 have g8:sW w U fH [aH,aV,ac,ab] fS:=pT
 refine oM Z Z (oR Z (ZF Z Z (v:=.slice a7 ap.length bb) Z) (oR Z (ZF Z Z (v:=jV i7) Z) (oA Z Z (oA Z Z (eN (sR (.fl 0 (.fx 1 (wJP (.nil)) .stop)) Z (oL Z (g8.ldBA (j:=3) Z Z gx Try.isAgg30 ZL (vs:=fq) Z Z) ?_)))))))
 have mQ:=gR.le bT
 have mS:=iN.le bT
 have q:=bnd iJ
 obtain ⟨⟨ay,i8⟩,mT,iK⟩:=q
 try dsimp only at iK
 refine zK 0 Z Z Z Z (zI Z Z Try.call11 (zA Z zL) Z) g8 (fun hs=>wGP (⟨ag,3500,bi,az⟩:wAM) br bC aN aR fS fH hs mQ mS mT) (.inr Z) ?_
 rintro aY th ux jI eG pU ⟨bs,bD,rfl,rfl⟩
 let bw:Res:=.row bs bD 3 1 (hD KL.encI ay)
 have bo:sW w U aY [bw,aH,aV,ac,ab] jI:=pU
 refine oM Z Z (oR Z (ZF Z Z (v:=.slice bs ay.length bD) Z) (oR Z (ZF Z Z (v:=jV i8) Z) (oA Z Z (oA Z Z (eN (zC (zC (CK.fresh fun aP aJ=>?_))))))))
 have lw:aP 2=jV p2:=(aJ 2).trans ls
 have gy:aP 8=.slice aT an.length aZ:=(aJ 8).trans dJ
 have lx:aP 15=jV i5:=(aJ 15).trans rfl
 have gz:aP 16=.slice aG aj.length aI:=(aJ 16).trans rfl
 have ly:aP 17=jV i6:=(aJ 17).trans rfl
 have gA:aP 18=.slice a7 ap.length bb:=(aJ 18).trans rfl
 have lz:aP 19=jV i7:=(aJ 19).trans rfl
 have lA:aP 20=.slice bs ay.length bD:=(aJ 20).trans rfl
 have lB:aP 21=jV i8:=(aJ 21).trans rfl
 clear aJ
 refine rR fL21 Z (oM Z lx (oR Z (ZV Z Z Z) (oM Z Z (ifc iK ?_ ?_))))
 intro bc qT
 refine zQ Z Z Z (zP Z Z (ZD (fun h=>h bc.out))) Z ly (zU Z Z Z (zP Z Z (ZD (fun h=>h bc.out))) (fun _=>ZV Z Z Z) (oR Z (zZ Z (ZD (fun h=>h bc.out)) Z) (oM Z Z (ifc qT ?_ ?_))))
 intro bd qU
 refine zQ Z Z Z (zP Z Z (ZD (fun h=>h bd.out))) Z lz (zU Z Z Z (zP Z Z (ZD (fun h=>h bd.out))) (fun _=>ZV Z Z Z) (oR Z (zZ Z (ZD (fun h=>h bd.out)) Z) (oM Z Z (ifc qU ?_ ?_))))
 intro be qV
 refine zQ Z Z Z (zP Z Z (ZD (fun h=>h be.out))) Z lB (zU Z Z Z (zP Z Z (ZD (fun h=>h be.out))) (fun _=>ZV Z Z Z) (oR Z (zZ Z (ZD (fun h=>h be.out)) Z) (oM Z Z (ifc qV ?_ ?_))))
 intro ao qW
 refine zQ Z Z Z (zP Z Z (ZD (fun h=>h ao.out))) Z gz (zU Z Z Z (zP Z Z (ZD (fun h=>h ao.out))) (fun _=>zh Z Z zg) (zQ Z Z Z (zP Z Z (ZD (fun h=>h ao.out))) Z gy (zU Z Z Z (zP Z Z (ZD (fun h=>h ao.out))) (fun _=>zh Z Z zX) (zU Z Z Z (zP Z Z (ZD (fun h=>h ao.out))) (fun _=>ZV Z Z Z) (oR Z (zZ Z (ZD (fun h=>h ao.out)) Z) (eN (ifc qW ?_ ?_)))))))
 intro dx cJ
 refine zb (ZD (fun h=>h dx.out)) (kN (sR gBi Z (OKS.makeMap Z Z Z Z Z bo ?_)))
 intro tp ae pW
 have rI:=MpR.nil wIX wJU
 refine oA Z Z (eN (zC (sR fL3 Z (oM Z gA (oR Z (zh Z Z zF) (oM Z Z (eN (zT ?_))))))))
 have q:=wCo cJ
 obtain ⟨ub,cH⟩:=q
 have q:=wCn cH
 obtain ⟨ew,qs⟩:=q
 replace ew:=zH ew
 refine CK.forN (fun bL iR J_ w_=>∃ (U_:PHeap) (dG:Array MapEntry) (gk:Nat),J_ 148=jV (↑bL:Int)/\J_ 2=jV p2/\J_ 8=.slice aT an.length aZ/\J_ 16=.slice aG aj.length aI/\J_ 18=.slice a7 ap.length bb/\J_ 20=.slice bs ay.length bD/\J_ 22=.map (some ae)/\J_ 146=.slice a7 ap.length bb/\J_ 147=jV (↑ap.length:Int)/\PHeap.Le aY U_/\sW w U U_ [.obj ae (.map dG gk),ac,ab,aV,aH,bw] w_/\MpR dG wIX wJU iR) qs ?_ ?_ ?_
 exact ⟨aY,#[],0,rfl,lw,gy,gz,gA,lA,rfl,rfl,rfl,(zO _),(pW.pick [0,4,5,3,2,1] _ (by decide) rfl),rI⟩
 rintro bL iR uC sN tq eh ⟨cp,dG,gk,dT,lC,dK,lD,lE,lF,gB,gC,gD,iU,bp,mV⟩ rN ig
 have gf:Hid ((↑bL:Int) < (↑ap.length:Int)):=zH (wBg eh)
 replace eh:=zH eh
 have qz:Hid (w64 ((↑bL:Int) + 1)=(↑(bL + 1):Int)):=zH (by have h1:=ew.out;have h2:=gf.out;rw [wAR] <;> omega)
 refine sR fL1 Z (oR Z (zR Z dT gD) (eN (zC (cT Z gf (kN (zC (zT (sR fL3 Z (bnK rN fun _ dV qX=>?_)))))))))
 obtain ⟨tB,gW⟩:=bp.rowSome (j:=4) rfl (by rw [wAD (f:=KL.encI) (sz:=1) (fun _=>rfl) ap];have hz:=wBe dV;omega)
 refine oR Z (ZR Z gC gW dT zF zB (wBe dV)) ?_
 have qw:=wCu (xs:=ap) (wBe dV)
 refine zz rfl rfl rfl rfl (bp.ldR (j:=4) rfl gW rfl rfl zD (wBF (sz:=1) (fun _=>rfl) _ _ 0 _ qw (by first | omega | rfl | simp) rfl)) rfl (ZW rfl rfl rfl rfl rfl rfl (eN (zC (sR fL8 rfl (zQ rfl rfl rfl rfl rfl rfl (zU rfl rfl rfl rfl (fun _=>zR rfl rfl rfl) (zQ rfl rfl rfl rfl rfl rfl (ifc qX ?_ ?_))))))))
 intro au qY
 refine oT Z au (oT Z au (oT Z au (oT Z au (oR Z (zW Z (ZX au.out) Z) (eN (zf Z (sR fL1 Z (oA Z Z (eN (zJ (zM (zc (zM ?_)))))))))))))
 have q:=wBZ qY
 obtain ⟨se,qZ,j0⟩:=q
 have q:=wCp cJ cH (ig se j0)
 obtain rfl:=q
 refine zM (zc (zM ?_))
 have hE:=hM qZ;first | subst r | cases hE
 exact ⟨rfl,_,(zY rfl),cp,_,(bp.pick [] _ (by decide) rfl),rfl,rfl⟩
 intro au q5
 refine zQ Z Z Z (wF Z au) Z Z (zQ Z Z Z (wF Z au) Z dK (rU Z (wF Z au) (zh Z Z zX) (rU Z (wF Z au) (Zk Z Z Z) (oR Z (zZ Z (ZD au.out) Z) (eN (ifc q5 ?_ ?_))))))
 intro dy q6
 refine cT Z dy (sR fL1 Z (oA Z Z (eN (zJ (zM (zc (zM ?_)))))))
 have q:=wBZ q6
 obtain ⟨sf,q7,j4⟩:=q
 have q:=wCp cJ cH (ig sf j4)
 obtain rfl:=q
 refine zM (zc (zM ?_))
 have hE:=hM q7;first | subst r | cases hE
 exact ⟨rfl,_,(zY rfl),cp,_,(bp.pick [] _ (by decide) rfl),rfl,rfl⟩
 intro dy q8
 refine cF Z dy (kN (rR (wHv (.fx 6 .nil .stop)) Z (oM Z gB (oM Z dK (oM Z Z (bnK q8 fun i9 dW q9=>?_))))))
 have mW:=cE.le eE
 have mX:=mW.le eF
 have mY:=mX.le cM
 have mZ:=mY.le bT
 have m0:=mZ.le eG
 have m3:=m0.le iU
 have q:=m3.el (fun _=>rfl) (wAl dW)
 obtain ⟨tC,t2,om,ov⟩:=q
 refine zU rfl rfl rfl rfl (fun _=>Zb rfl rfl om rfl zX ZO (wCZ dW) (wCf dW)) (zU rfl rfl rfl rfl (fun _=>zN rfl rfl ZH rfl zB) (zz rfl rfl rfl rfl (bp.ldC (f:=0) ov (v:=jV i9.Bib) rfl rfl zD rfl) rfl (OKS.mapPut (x:=.tmp 160) (y:=.tmp 165) (j:=0) (mk:=wIX) (mv:=wJU) (a:=i9.Bib) (v:=true) rfl rfl rfl (by first | exact .inl rfl | exact .inr rfl) bp rfl rfl rfl rfl (wCg Zf) wFY mV rfl ?_)))
 intro gp gm jK rJ pY
 have pZ:sW w U cp [.obj ae (.map gp gm),ac,ab,aV,aH,bw] jK:=pY
 refine zk (zV (zG (rR fL2 Z (oR Z (zj (zS Z dT Z) (congrArg (jV) qz.out)) (oM Z Z (zk ?_))))))
 have q:=hM q9
 obtain rfl:=q
 exact zG ⟨Z,_,Z,⟨cp,gp,gm,Z,lC,dK,lD,lE,lF,gB,gC,gD,iU,pZ,rJ⟩⟩
 rintro uH sO tr ⟨fI,ax,av,l4,lG,lH,lI,lJ,lK,lL,tN,lM,iV,p4,dX⟩ qk
 have bJ:=wDU cJ cH qk
 have jW:Hid (¬ ((↑(((↑ap.length:Int):Int) - 0).toNat:Int) < (↑ap.length:Int))):=zH (wBB)
 refine sR fL1 Z (oR Z (zR Z l4 lM) (eN (zC (cF Z jW (ZK (ze (ze (ZB (zG (zC (sR fL3 Z (oM Z lK (oR Z (zh Z Z zF) (oM Z Z (eN (zT ?_))))))))))))))))
 have q:=wCo bJ
 obtain ⟨uc,bI⟩:=q
 have q:=wCn bI
 obtain ⟨eA,qt⟩:=q
 replace eA:=zH eA
 refine CK.forN (fun bM _ J_ w_=>∃ (U_:PHeap),J_ 169=jV (↑bM:Int)/\J_ 2=jV p2/\J_ 8=.slice aT an.length aZ/\J_ 16=.slice aG aj.length aI/\J_ 18=.slice a7 ap.length bb/\J_ 22=.map (some ae)/\J_ 167=.slice bs ay.length bD/\J_ 168=jV (↑ay.length:Int)/\PHeap.Le fI U_/\sW w U U_ [.obj ae (.map ax av),ac,ab,aV,aH,bw] w_) qt ?_ ?_ ?_
 exact ⟨fI,Z,lG,lH,lI,lJ,lL,Z,Z,(zO _),p4⟩
 rintro bM ⟨⟩ uD sP tt ej ⟨cq,dU,lN,dL,lO,lP,gE,gF,gG,iW,a6⟩ iQ eb
 try dsimp only at iQ
 have gg:Hid ((↑bM:Int) < (↑ay.length:Int)):=zH (wBg ej)
 replace ej:=zH ej
 have qA:Hid (w64 ((↑bM:Int) + 1)=(↑(bM + 1):Int)):=zH (by have h1:=eA.out;have h2:=gg.out;rw [wAR] <;> omega)
 refine sR fL1 Z (oR Z (zR Z dU gG) (eN (zC (cT Z gg (kN (zC (zT (sR fL3 Z (bnK iQ fun _ dY rc=>?_)))))))))
 obtain ⟨tD,gX⟩:=a6.rowSome (j:=5) rfl (by rw [wAD (f:=KL.encI) (sz:=1) (fun _=>rfl) ay];have hz:=wBe dY;omega)
 refine oR Z (ZR Z gF gX dU zF zB (wBe dY)) ?_
 have qx:=wCu (xs:=ay) (wBe dY)
 refine zz rfl rfl rfl rfl (a6.ldR (j:=5) rfl gX rfl rfl zD (wBF (sz:=1) (fun _=>rfl) _ _ 0 _ qx (by first | omega | rfl | simp) rfl)) rfl (ZW rfl rfl rfl rfl rfl rfl (eN (sR fL17 rfl (zQ rfl rfl rfl rfl rfl rfl (zU rfl rfl rfl rfl (fun _=>zR rfl rfl rfl) (zQ rfl rfl rfl rfl rfl rfl (ifc rc ?_ ?_)))))))
 intro aw rd
 refine oT Z aw (oT Z aw (oT Z aw (oT Z aw (oR Z (zW Z (ZX aw.out) Z) (oM Z Z (oN Z (oN Z (oN Z (oN Z (oN Z (oN Z (oN Z (oR Z (zW Z Z Z) (eN (zf Z (sR fL1 Z (oA Z Z (eN (zJ (zc (zM ?_)))))))))))))))))))))
 have q:=wBZ rd
 obtain ⟨sh,re,j5⟩:=q
 have q:=wCp bJ bI (eb sh j5)
 obtain rfl:=q
 refine zM (zc (zM ?_))
 have hE:=hM re;first | subst r | cases hE
 exact ⟨rfl,_,(zY rfl),cq,_,(a6.pick [] _ (by decide) rfl),rfl,rfl⟩
 intro aw rf
 refine zQ Z Z Z (wF Z aw) Z Z (zQ Z Z Z (wF Z aw) Z dL (rU Z (wF Z aw) (zh Z Z zX) (rU Z (wF Z aw) (Zk Z Z Z) (oR Z (zZ Z (ZD aw.out) Z) (oM Z Z (ifc rf ?_ ?_))))))
 intro af rg
 refine oT Z af (oT Z af (oT Z af (oT Z af (oT Z af (oT Z af (oT Z af (oR Z (zW Z (ZX af.out) Z) (eN (zf Z (sR fL1 Z (oA Z Z (eN (zJ (zc (zM ?_)))))))))))))))
 have q:=wBZ rg
 obtain ⟨sj,rh,j6⟩:=q
 have q:=wCp bJ bI (eb sj j6)
 obtain rfl:=q
 refine zM (zc (zM ?_))
 have hE:=hM rh;first | subst r | cases hE
 exact ⟨rfl,_,(zY rfl),cq,_,(a6.pick [] _ (by decide) rfl),rfl,rfl⟩
 intro af ri
 refine zQ Z Z Z (wF Z af) Z gE (zQ Z Z Z (wF Z af) Z dL (zQ Z Z Z (wF Z af) Z Z (bnK ri fun ja dZ rj=>?_)))
 have m4:=cE.le eE
 have m5:=m4.le eF
 have m6:=m5.le cM
 have m7:=m6.le bT
 have m8:=m7.le eG
 have m9:=m8.le iV
 have n2:=m9.le iW
 have q:=n2.el (fun _=>rfl) (wAl dZ)
 obtain ⟨tE,t6,oo,ow⟩:=q
 refine rU Z (wF Z af) (Zb Z Z oo Z zX ZO (wCZ dZ) (wCf dZ)) (rU Z (wF Z af) (zN Z Z ZH Z zB) (zz Z Z Z (wF Z af) (a6.ldC (f:=0) ow (v:=jV ja.Bib) Z Z zD Z) Z (zz Z Z Z (wF Z af) (a6.lookup1 (j:=0) (mk:=wIX) (mv:=wJU) (a:=ja.Bib) (z:=false) Z Z Z Z (wCg Zf) wFY Try.zeroValue4 dX) Z (oR Z (zZ Z (ZD af.out) Z) (eN (ifc rj ?_ ?_))))))
 intro dz rn
 refine zf (congrArg nA dz.out) (sR fL1 Z (oA Z Z (eN (zJ (zc (zM ?_))))))
 have q:=wBZ rn
 obtain ⟨sl,ro,j7⟩:=q
 have q:=wCp bJ bI (eb sl j7)
 obtain rfl:=q
 refine zM (zc (zM ?_))
 have hE:=hM ro;first | subst r | cases hE
 exact ⟨rfl,_,(zY rfl),cq,_,(a6.pick [] _ (by decide) rfl),rfl,rfl⟩
 intro dz rp
 refine zb (congrArg nA (nB.2 dz.out)) (ZC (zV (zG (rR fL2 Z (oR Z (zj (zS Z dU Z) (congrArg (jV) qA.out)) (oM Z Z (zk ?_)))))))
 have q:=hM rp
 obtain rfl:=q
 exact zG ⟨Z,_,Z,⟨cq,Z,lN,dL,lO,lP,gE,gF,gG,iW,a6⟩⟩
 rintro ⟨⟩ sQ jL ⟨tm,l5,lQ,lR,gH,lS,lT,tO,lU,r9,p5⟩ ql
 have cK:=wDU bJ bI ql
 try dsimp only at cK
 have jX:Hid (¬ ((↑(((↑ay.length:Int):Int) - 0).toNat:Int) < (↑ay.length:Int))):=zH (wBB)
 refine sR fL1 Z (oR Z (zR Z l5 lU) (eN (zC (cF Z jX (ZK (ze (ze (ZB (zG (sR fL2 Z (oM Z gH (oA Z Z (eN (zC (sR fL3 Z (oM Z lR (oR Z (zh Z Z zX) (oM Z Z (eN (zT ?_))))))))))))))))))))
 have q:=p5.freezeR (k:=3) (n:=aj.length) rfl (wAD (f:=wAC) (sz:=3) (fun _=>rfl) aj) (by decide)
 obtain ⟨di,sa,eD,p6⟩:=q
 have p7:sW w U di [.obj ae (.map ax av),ac,ab,aH,bw] jL:=p6
 have q:=wCo cK
 obtain ⟨ud,d9⟩:=q
 have q:=wCn d9
 obtain ⟨eB,qu⟩:=q
 replace eB:=zH eB
 refine CK.forN (fun bN bS J_ w_=>∃ (U_:PHeap) (bt:Option Addr) (bE:Nat),J_ 194=jV (↑bN:Int)/\J_ 2=jV p2/\J_ 16=.slice aG aj.length aI/\J_ 18=.slice a7 ap.length bb/\J_ 22=.map (some ae)/\J_ 27=.slice bt bS.length bE/\J_ 192=.slice aT an.length aZ/\J_ 193=jV (↑an.length:Int)/\PHeap.Le di U_/\sW w U U_ [.obj ae (.map ax av),ac,ab,aH] w_/\Sl U_ 3 bt bE bS.length (hD wAC bS)) qu ?_ ?_ ?_
 exact ⟨di,aG,aI,rfl,lQ,gH,lS,lT,rfl,rfl,rfl,(zO _),(p7.pick [0,1,2,3] _ (by decide) rfl),eD⟩
 rintro bN bS uE sS tu ek ⟨dl,bt,bE,cC,gI,gJ,gK,dM,gL,dN,dO,eH,g9,gS⟩ rO qm
 have gh:Hid ((↑bN:Int) < (↑an.length:Int)):=zH (wBg ek)
 replace ek:=zH ek
 have ik:Hid (w64 ((↑bN:Int) + 1)=(↑(bN + 1):Int)):=zH (by have h1:=eB.out;have h2:=gh.out;rw [wAR] <;> omega)
 refine sR fL1 Z (oR Z (zR Z cC dO) (eN (zC (cT Z gh (kN (zC (zT (sR gBm Z (bnK rO fun aM gT rq=>?_)))))))))
 have n3:=cE.le eE
 have n4:=n3.le eF
 have n5:=n4.le cM
 have n7:=n5.le bT
 have n9:=n7.le eG
 have oa:=n9.le iV
 have od:=oa.le r9
 have oe:=od.le sa
 have og:=oe.le eH
 have q:=og.el (fun _=>rfl) (wAl gT)
 obtain ⟨tF,t7,oq,ox⟩:=q
 refine oR Z (ZR Z dN oq cC zX ZO (wCa gT)) (oL Z (g9.ldCA (f:=0) ox Z Z Try.isAgg33 ZO (us:=[jV aM.Bib,jV aM.Nation,jV aM.Rank]) Z Z) (ZA (cs:=[jV 0,jV 0,jV 0]) Z Z Z Z Z Try.zeroValue33 Z g9 ?_))
 intro tv dv p8
 let cj:List Value:=[jV aM.Bib,jV aM.Nation,jV aM.Rank]
 refine zt (j:=0) (vs:=cj) Z Z Z Z p8 Z Z Z Z ZO (zE Z) Z Z Z ?_
 intro fU p9
 have bH:sW w U dl [.blk dv 33 cj,.obj ae (.map ax av),ac,ab,aH] fU:=p9
 refine eN (sR fL5 Z (oM Z dM (oR Z (zN Z Z ZH Z zB) (oL Z (bH.ldB (j:=0) Z Z Z zD (v:=jV aM.Bib) Z) (oL Z (bH.lookup1 (j:=1) (mk:=wIX) (mv:=wJU) (a:=aM.Bib) (z:=false) Z Z Z Z (wCg Zf) wFY Try.zeroValue4 dX) (oR Z (zy Z Z) (eN (ifc rq ?_ ?_))))))))
 intro dA rt
 refine zb (nC dA.out) (ZC (zV (zG (rR fL2 Z (oR Z (zj (zS Z cC Z) (congrArg (jV) ik.out)) (oM Z Z (zk ?_)))))))
 have q:=hM rt
 obtain rfl:=q
 exact zG ⟨rfl,_,rfl,⟨dl,bt,bE,rfl,gI,gJ,gK,dM,gL,dN,dO,eH,(bH.pick [1,2,3,4] _ (by decide) rfl),gS⟩⟩
 intro dA ru
 refine zf (nF (dA.out)) (sR (wGZ (.fx 3 (fC4_8 (.nil)) .stop)) Z (oM Z gL (oR Z (zN Z Z ZH Z zB) (oL Z (bH.ldB (j:=0) Z Z Z zD (v:=jV aM.Bib) Z) ?_))))
 have q:=bnd ru
 obtain ⟨⟨cZ,sB⟩,oh,iL⟩:=q
 try dsimp only at iL
 refine zK 0 Z Z Z Z (zI Z Z Try.call12 (zA Z (zA Z zL)) Z) bH (fun hs=>wEn bS bt bE aM.Bib fU dl hs gS oh) (.inr Z) ?_
 rintro fJ tj uz fV sb qa ⟨c6,dB,rfl,rfl⟩
 have ib:sW w U fJ [.row c6 dB 47 3 (hD wAC cZ),.blk dv 33 cj,.obj ae (.map ax av),ac,ab,aH] fV:=qa
 refine oM Z Z (oR Z (ZF Z Z (v:=.slice c6 cZ.length dB) Z) (oR Z (ZF Z Z (v:=jV sB) Z) (oA Z Z (oA Z Z (eN (sR fL2 Z (oM Z Z (oR Z (ZV Z Z Z) (eN (ifc iL ?_ ?_))))))))))
 intro dC rv
 refine zb (ZD (fun h=>h dC.out)) (ZC (zV (zG (rR fL2 Z (oR Z (zj (zS Z cC Z) (congrArg (jV) ik.out)) (oM Z Z (zk ?_)))))))
 have q:=ib.freezeR (k:=0) (n:=cZ.length) rfl (wAD (f:=wAC) (sz:=3) (fun _=>rfl) cZ) (by decide)
 obtain ⟨fK,sc,rM,qc⟩:=q
 have qd:sW w U fK [.blk dv 33 cj,.obj ae (.map ax av),ac,ab,aH] fV:=qc
 have q:=hM rv
 obtain rfl:=q
 exact zG ⟨rfl,_,rfl,⟨fK,c6,dB,rfl,gI,gJ,gK,dM,rfl,dN,dO,((eH.trans sb).trans sc),(qd.pick [1,2,3,4] _ (by decide) rfl),rM⟩⟩
 intro dC rx
 refine cT Z dC (sR fL1 Z (oA Z Z (eN (zJ (zc (zM ?_))))))
 have q:=wBZ rx
 obtain ⟨sn,ry,j8⟩:=q
 have q:=wCp cK d9 (qm sn j8)
 obtain rfl:=q
 refine zM (zc (zM ?_))
 have hE:=hM ry;first | subst r | cases hE
 exact ⟨rfl,_,(zY rfl),fJ,_,(ib.pick [] _ (by decide) rfl),rfl,rfl⟩
 rintro jc sT tw ⟨dm,fg,gi,l6,lV,gM,lW,lX,gN,tP,lY,iX,ic,gU⟩ qn
 have rz:=wDU cK d9 qn
 have jY:Hid (¬ ((↑(((↑an.length:Int):Int) - 0).toNat:Int) < (↑an.length:Int))):=zH (wBB)
 refine sR fL1 Z (oR Z (zR Z l6 lY) (eN (zC (cF Z jY (ZK (ze (ze (ZB (zG (zC (sR fL5 Z (oM Z gN (oR Z (zh Z Z zg) (oM Z lW (oR Z (zh Z Z zF) (oR Z (ZV Z Z Z) (eN (ifc rz ?_ ?_))))))))))))))))))
 intro dD cL
 refine zb (ZD (fun h=>h dD.out)) (kN (sR fL1 Z (oA Z Z (eN (zC (sR fL3 Z (oM Z gM (oR Z (zh Z Z zg) (oM Z Z (eN (zT ?_)))))))))))
 have q:=wCo cL
 obtain ⟨ue,cI⟩:=q
 have q:=wCn cI
 obtain ⟨eC,qv⟩:=q
 replace eC:=zH eC
 refine CK.forN (fun bO jb J_ w_=>∃ (U_:PHeap),J_ 220=jV (↑bO:Int)/\J_ 2=jV p2/\J_ 16=.slice aG aj.length aI/\J_ 22=.map (some ae)/\J_ 27=.slice fg jc.length gi/\J_ 30=jV jb/\J_ 218=.slice aG aj.length aI/\J_ 219=jV (↑aj.length:Int)/\PHeap.Le dm U_/\sW w U U_ [.obj ae (.map ax av),ac,ab] w_) qv ?_ ?_ ?_
 exact ⟨dm,rfl,lV,gM,lX,gN,rfl,rfl,rfl,(zO _),(ic.pick [0,1,2] _ (by decide) rfl)⟩
 rintro bO jb uF sU tx en ⟨bB,cD,gO,gP,dP,cA,cB,dQ,dR,cN,ie⟩ rP ii
 have gj:Hid ((↑bO:Int) < (↑aj.length:Int)):=zH (wBg en)
 replace en:=zH en
 have im:Hid (w64 ((↑bO:Int) + 1)=(↑(bO + 1):Int)):=zH (by have h1:=eC.out;have h2:=gj.out;rw [wAR] <;> omega)
 refine sR fL1 Z (oR Z (zR Z cD dR) (eN (zC (cT Z gj (kN (zC (zT (sR gBm Z (bnK rP fun aS gV rA=>?_)))))))))
 have oi:=eD.le iX
 have oj:=oi.le cN
 have q:=oj.el (fun _=>rfl) (wAl gV)
 obtain ⟨tG,t8,ot,oy⟩:=q
 refine oR Z (ZR Z dQ ot cD zg zp (wCa gV)) (oL Z (ie.ldCA (f:=0) oy Z Z Zj zp (us:=[jV aS.Bib,jV aS.Time,jV aS.Gate]) Z Z) (ZA (cs:=[jV 0,jV 0,jV 0]) Z Z Z Z Z Try.zeroValue47 Z ie ?_))
 intro tz jP qe
 let db:List Value:=[jV aS.Bib,jV aS.Time,jV aS.Gate]
 refine zt (j:=0) (vs:=db) Z Z Z Z qe Z Z Z Z zp (zE Z) Z Z Z ?_
 intro du qf
 have cG:sW w U bB [.blk jP 47 db,.obj ae (.map ax av),ac,ab] du:=qf
 refine eN (sR fL4 Z (oM Z dP (oR Z (zN Z Z ZM Z zB) (oL Z (cG.ldB (j:=0) Z Z Z zD (v:=jV aS.Bib) Z) (oL Z (cG.lookup1 (j:=1) (mk:=wIX) (mv:=wJU) (a:=aS.Bib) (z:=false) Z Z Z Z (wCg Zf) wFY Try.zeroValue4 dX) (eN (ifc rA ?_ ?_)))))))
 intro dE rB
 refine zf (congrArg nA dE.out) (zC (zC (ZT ZU [3,3,3,3,3,3,3,3,1,1,3,3] fL12 (by kernel_rfl) ?_)))
 have bq:=cG.drew
 generalize hw_W981:({ du with drawn:=du.drawn + 1 }:World)=tA at bq ⊢
 refine oM Z cB (oM Z cA (oR Z (zh Z Z zg) (oR Z (Zk Z Z Z) (oM Z Z (ifc rB ?_ ?_)))))
 intro ah rC
 refine oT Z ah (oT Z ah (oT Z ah (oT Z ah (oT Z ah (oT Z ah (oR Z (zW Z (ZX ah.out) Z) (eN (zf Z (sR fL1 Z (oA Z Z (eN (zJ (zM (zc (zM ?_)))))))))))))))
 have q:=wBZ rC
 obtain ⟨sq,rD,j9⟩:=q
 have q:=wCp cL cI (ii sq j9)
 obtain rfl:=q
 refine zM (zc (zM ?_))
 have hE:=hM rD;first | subst r | cases hE
 exact ⟨rfl,_,(zY rfl),bB,_,(bq.pick [] _ (by decide) rfl),rfl,rfl⟩
 intro ah rE
 refine zQ Z Z Z (wF Z ah) Z cA (zQ Z Z Z (wF Z ah) Z cB (bnK rE fun c3 d6 rF=>?_))
 have ol:=gU.le cN
 have q:=ol.el (fun _=>rfl) (wAl d6)
 obtain ⟨tH,ua,ou,oz⟩:=q
 refine rU Z (wF Z ah) (Zb Z Z ou Z zg zp (wCZ d6) (wCf d6)) (zz Z Z Z (wF Z ah) (bq.ldCA (f:=0) oz Z Z Zj zp (us:=[jV c3.Bib,jV c3.Time,jV c3.Gate]) Z Z) Z (zz Z Z Z (wF Z ah) (bq.ldBA (j:=0) Z Z Z Zj zp (vs:=db) Z Z) Z (rU Z (wF Z ah) (zj (Runs.neS (enc:=wAC) (a:=c3) (b:=aS) Z Z Z eqT47 eqG47) (congrArg nA (decide_not).symm)) (oR Z (zZ Z (ZD ah.out) Z) (eN (ifc rF ?_ ?_))))))
 intro dF rG
 refine zb (ZD (fun h=>h dF.out)) (kN (rR fL3 Z (oM Z cB (oR Z (zS Z Z Z) (oA Z Z (zk (zV (zG (rR fL2 Z (oR Z (zj (zS Z cD Z) (congrArg (jV) im.out)) (oM Z Z (zk ?_))))))))))))
 have q:=hM rG
 obtain rfl:=q
 exact zG ⟨rfl,_,rfl,⟨bB,rfl,gO,gP,dP,cA,rfl,dQ,dR,cN,(bq.pick [1,2,3] _ (by decide) rfl)⟩⟩
 intro dF rH
 refine cT Z dF (sR fL1 Z (oA Z Z (eN (zJ (zM (zc (zM ?_)))))))
 have q:=wBZ rH
 obtain ⟨sd,qB,jZ⟩:=q
 have q:=wCp cL cI (ii sd jZ)
 obtain rfl:=q
 refine zM (zc (zM ?_))
 have hE:=hM qB;first | subst r | cases hE
 exact ⟨rfl,_,(zY rfl),bB,_,(bq.pick [] _ (by decide) rfl),rfl,rfl⟩
 intro dE qC
 refine zb (congrArg nA (nB.2 dE.out)) (ZC (zV (zG (rR fL2 Z (oR Z (zj (zS Z cD Z) (congrArg (jV) im.out)) (oM Z Z (zk ?_)))))))
 have q:=hM qC
 obtain rfl:=q
 exact zG ⟨rfl,_,rfl,⟨bB,rfl,gO,gP,dP,cA,cB,dQ,dR,cN,(cG.pick [1,2,3] _ (by decide) rfl)⟩⟩
 rintro uG sI jp ⟨jg,lZ,k4,k5,tI,k6,tJ,tK,k8,iS,oB⟩ qj
 have qD:=wDU cL cI qj
 have jQ:Hid (¬ ((↑(((↑aj.length:Int):Int) - 0).toNat:Int) < (↑aj.length:Int))):=zH (wBB)
 refine sR fL1 Z (oR Z (zR Z lZ k8) (eN (zC (cF Z jQ (ZK (ze (ze (ZB (zG (sR gBn Z (oM Z k4 (bnK qD fun iY l7 qE=>zK 0 Z Z Z Z (zI Z Z Try.call9 (zA Z (zA Z zL)) Z) oB (fun hs=>wDH p2 900 jp jg hs l7) (.inr Z) ?_))))))))))))
 rintro fu sV uf fL iT oC ⟨rfl,rfl⟩
 have oD:sW w U fu [.obj ae (.map ax av),ac,ab] fL:=oC
 refine oR Z (zS Z Z Z) (oA Z Z (eN (sR (.fl 0 (.fl 1 (.fx 2 (wLj (.nil)) .stop))) Z (oM Z k5 (oM Z Z ?_)))))
 have l8:=eD.le iX
 have l9:=l8.le iS
 have ma:=l9.le iT
 have q:=bnd qE
 obtain ⟨⟨sr,ss⟩,mb,io⟩:=q
 try dsimp only at io
 refine zK 0 Z Z Z Z (zI Z Z Try.call13 (zA Z (zA Z zL)) Z) oD (fun hs=>wED aj aG aI (w64 (iY + 1)) fL fu hs ma mb) (.inr Z) ?_
 rintro fw sX ug fM rQ oE ⟨rfl,rfl⟩
 have oG:sW w U fw [.obj ae (.map ax av),ac,ab] fM:=oE
 refine oM Z Z (oR Z (ZF Z Z (v:=jV sr) Z) (oR Z (ZF Z Z (v:=jV ss) Z) (oA Z Z (oA Z Z (eN (sR (.fl 0 (.fl 1 (.fx 2 (wLj (.nil)) .stop))) Z (oM Z k6 (oM Z Z ?_))))))))
 have mc:=gU.le iS
 have md:=mc.le iT
 have me:=md.le rQ
 have q:=bnd io
 obtain ⟨⟨su,sv⟩,mf,ip⟩:=q
 try dsimp only at ip
 refine zK 0 Z Z Z Z (zI Z Z Try.call13 (zA Z (zA Z zL)) Z) oG (fun hs=>wED jc fg gi (w64 (iY + 1)) fM fw hs me mf) (.inr Z) ?_
 rintro cn sY uh jq tR oH ⟨rfl,rfl⟩
 have d7:sW w U cn [.obj ae (.map ax av),ac,ab] jq:=oH
 refine oM Z Z (oR Z (ZF Z Z (v:=jV su) Z) (oR Z (ZF Z Z (v:=jV sv) Z) (oA Z Z (oA Z Z (eN (sR fL12 Z (oM Z Z (oR Z (Runs.eql Z Z Z) (oM Z Z (ifc ip ?_ ?_))))))))))
 intro ba qF
 refine zQ Z Z Z (wT Z ba) Z Z (rU Z (wT Z ba) (Runs.eql Z Z Z) (oR Z (zW Z (ZX ba.out) Z) (oM Z Z (ifc qF ?_ ?_))))
 intro aQ iq
 refine zQ Z Z Z (wT Z aQ) Z Z (zQ Z Z Z (wT Z aQ) Z Z (rU Z (wT Z aQ) (Runs.leq Z Z Z) (oR Z (zW Z (ZX aQ.out) Z) (oA Z Z (eN (zJ ?_))))))
 first | (obtain rfl:=hM iq) | cases iq
 exact ⟨rfl,_,(zY rfl),cn,_,(d7.pick [] _ (by decide) rfl),rfl,rfl⟩
 intro aQ qG
 refine oF Z aQ (oF Z aQ (oF Z aQ (oR Z (zZ Z (ZD aQ.out) Z) (oA Z Z (eN (zJ ?_))))))
 have hE:=hM qG;first | subst r | cases hE
 exact ⟨rfl,_,(zY rfl),cn,_,(d7.pick [] _ (by decide) rfl),rfl,rfl⟩
 intro ba qH
 refine oF Z ba (oF Z ba (oR Z (zZ Z (ZD ba.out) Z) (oM Z Z (oN Z (oN Z (oN Z (oR Z (zZ Z Z Z) (oA Z Z (eN (zJ ?_))))))))))
 have hE:=hM qH;first | subst r | cases hE
 exact ⟨rfl,_,(zY rfl),cn,_,(d7.pick [] _ (by decide) rfl),rfl,rfl⟩
 intro dD qI
 refine cT Z dD (sR fL1 Z (oA Z Z (eN (zJ (zM ?_)))))
 have hE:=hM qI;first | subst r | cases hE
 exact ⟨rfl,_,(zY rfl),dm,_,(ic.pick [] _ (by decide) rfl),rfl,rfl⟩
 intro dx qJ
 refine cT Z dx (sR fL1 Z (oA Z Z (eN (zJ (zM ?_)))))
 have hE:=hM qJ;first | subst r | cases hE
 exact ⟨rfl,_,(zY rfl),aY,_,(bo.pick [] _ (by decide) rfl),rfl,rfl⟩
 intro ao qK
 refine oT Z ao (oT Z ao (oT Z ao (oT Z ao (oT Z ao (oR Z (zW Z (ZX ao.out) Z) (eN (zf Z (sR fL1 Z (oA Z Z (eN (zJ (zM ?_))))))))))))
 have hE:=hM qK;first | subst r | cases hE
 exact ⟨rfl,_,(zY rfl),aY,_,(bo.pick [] _ (by decide) rfl),rfl,rfl⟩
 intro be qL
 refine oT Z be (oT Z be (oR Z (zW Z (ZX be.out) Z) (oM Z Z (oN Z (oN Z (oN Z (oN Z (oN Z (oR Z (zW Z Z Z) (eN (zf Z (sR fL1 Z (oA Z Z (eN (zJ (zM ?_))))))))))))))))
 have hE:=hM qL;first | subst r | cases hE
 exact ⟨rfl,_,(zY rfl),aY,_,(bo.pick [] _ (by decide) rfl),rfl,rfl⟩
 intro bd qM
 refine oT Z bd (oT Z bd (oR Z (zW Z (ZX bd.out) Z) (oM Z Z (oN Z (oN Z (oR Z (zW Z Z Z) (oM Z Z (oN Z (oN Z (oN Z (oN Z (oN Z (oR Z (zW Z Z Z) (eN (zf Z (sR fL1 Z (oA Z Z (eN (zJ (zM ?_))))))))))))))))))))
 have hE:=hM qM;first | subst r | cases hE
 exact ⟨rfl,_,(zY rfl),aY,_,(bo.pick [] _ (by decide) rfl),rfl,rfl⟩
 intro bc qN
 refine oT Z bc (oT Z bc (oR Z (zW Z (ZX bc.out) Z) (oM Z Z (oN Z (oN Z (oR Z (zW Z Z Z) (oM Z Z (oN Z (oN Z (oR Z (zW Z Z Z) (oM Z Z (oN Z (oN Z (oN Z (oN Z (oN Z (oR Z (zW Z Z Z) (eN (zf Z (sR fL1 Z (oA Z Z (eN (zJ (zM ?_))))))))))))))))))))))))
 have hE:=hM qN;first | subst r | cases hE
 exact ⟨rfl,_,(zY rfl),aY,_,(bo.pick [] _ (by decide) rfl),rfl,rfl⟩
end Go.Proofs.Ytnbcoenjobdplaa
