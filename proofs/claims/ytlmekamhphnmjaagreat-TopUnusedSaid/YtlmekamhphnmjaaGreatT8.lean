import Derived.Test.YtlmekamhphnmjaaGreatT5
import Derived.Test.YtlmekamhphnmjaaGreatT4
import Derived.Test.YtlmekamhphnmjaaGreatT6
import Derived.Test.YtlmekamhphnmjaaGreatT7
set_option linter.all false
open List renaming flatMap->hD,getElem_cons_succ->nD,getElem_cons_zero->nE,getElem_toArray->nG
open Option.some renaming inj->hM
open Bool renaming eq_false_iff->nA
open Go.Value renaming bool->nB
namespace Go.Proofs.YtlmekamhphnmjaaGreat
open Go.KL
def gCm:Sch:=.fl 0 (.fx 1 (.fl 2 .nil) .stop)
def gCn:Sch:=.fx 5 (.fx 6 (.fl 7 (.fx 8 .nil .stop)) .stop) .stop
def gCo:Sch:=.fx 12 (.fx 13 (.fl 14 (.fx 15 .nil .stop)) .stop) .stop
def gCp:Sch:=.fl 0 (.fl 1 (.fx 2 (.fx 3 (.fl 4 (.fl 5 .nil)) .stop) .stop))
def gCq:Sch:=.fx 4 (.fl 5 (.fx 6 (.fl 7 (.fx 8 (.fx 9 (.fl 10 (.fx 11 .nil .stop)) .stop) .stop)) .stop)) .stop
set_option maxHeartbeats 4000000
theorem wJL (p0:wAV) (aN:Option Addr) (aP:Nat) (aO:Option Addr) (aQ:Nat) (w:World) (U:PHeap) (hS:St0 w U []) (cJ:Sl U 2 aN aP p0.Skiers.length (hD wAF p0.Skiers)) (cK:Sl U 6 aO aQ p0.Decisions.length (hD wAE p0.Decisions)) {r:(List wAA) × Int} (hm:wDx p0=some r):Gv Tryz.prog 11 [.agg #[jV p0.Deadline,.slice aN p0.Skiers.length aP,.slice aO p0.Decisions.length aQ]] w (wBj w [] U (fun U_ L_ v=>∃ (A0:Option Addr) (c0:Nat),v=.tuple #[.slice A0 r.1.length c0,jV r.2]/\L_=[.row A0 c0 52 3 (hD wAB r.1)])):=by
 unfold wDx at hm
 refine Gv.of Tryz.func11 Z Tryz.ntmps11 Tryz.results11 Z (sR (.fx 0 (.fl 1 (.fl 2 .nil)) .stop) Z ?_)
 let B0:List Value:=[jV p0.Deadline,.slice aN p0.Skiers.length aP,.slice aO p0.Decisions.length aQ]
 refine ZB (cs:=B0) rfl rfl rfl rfl rfl rfl (by rfl) hS ?_
 intro W1 b2 bx
 refine oA Z Z (oA Z Z (eN (sR (.fl 0 (.fx 1 (wHk (.nil)) .stop)) Z (oL Z (bx.ldBA (j:=0) Z Z Z ym Zb (vs:=B0) Z Z) ?_))))
 have q:=bnd hm
 obtain ⟨⟨x5,x6⟩,h7,av⟩:=q
 try dsimp only at av
 refine zI 0 Z Z Z Z (zJ Z Z Tryz.call34 (zA Z zM) Z) bx (fun hs=>wJv p0 aN aP aO aQ W1 U hs cJ cK h7) (.inr Z) ?_
 rintro U9 cY dd ag db bw bu
 rcases x5 with _ | ae
 try dsimp only at av
 obtain ⟨rfl,rfl⟩:=bu
 have cx:sW w U U9 [.blk b2 28 B0] ag:=bw
 refine oM Z Z (oR Z (ZL Z Z (v:=.pointer none) Z) (oR Z (ZL Z Z (v:=jV x6) Z) (oA Z Z (oA Z Z (eN (zK (sR fL2 Z (oM Z Z (oR Z (Ze Z Z Z) (eN (ifc av ?_ ?_)))))))))))
 intro aS cO
 refine zg (zo (fun h=>h aS.out)) (kN (sR gCp Z (oM Z Z (oM Z Z ?_))))
 cases cO
 intro aS cP
 refine cT Z aS (sR fL3 Z (oM Z Z (oA Z Z (oA Z Z (eN (zP (zZ ?_)))))))
 have cy:=cx.nilrow 52 3
 cases cP
 exact ⟨rfl,_,(wHm rfl rfl),U9,_,(cy.pick [0] _ (by decide) rfl),none,0,rfl,rfl⟩
 try dsimp only at av
 obtain ⟨ac,an,ap,ax,az,am,au,aq,ah,aj,ai,rfl,rfl,bR,bS,bT⟩:=bu
 let B1:List Value:=[jV ae.Record.Deadline,.slice an ae.Record.Skiers.length ap,.slice ax ae.Record.Decisions.length az,.map (some am),.map (some ah)]
 have bz:sW w U U9 [.blk ac 210 B1,.row an ap 40 2 (hD wAF ae.Record.Skiers),.obj am (.map au aq),.obj ah (.map aj ai),.blk b2 28 B0] ag:=bw
 refine oM Z Z (oR Z (ZL Z Z (v:=.pointer (some ⟨ac,0,none⟩)) Z) (oR Z (ZL Z Z (v:=jV x6) Z) (oA Z Z (oA Z Z (eN (zK (sR fL2 Z (oM Z Z (oR Z (Ze Z Z Z) (eN (ifc av ?_ ?_)))))))))))
 intro aT cQ
 refine zg (zo (fun h=>h aT.out)) (kN (sR gCp Z (oM Z Z (oM Z Z ?_))))
 have q:=bz.freezeR (k:=1) (n:=ae.Record.Skiers.length) rfl (wAG (f:=wAF) (sz:=2) (fun _=>rfl) ae.Record.Skiers) (by decide)
 obtain ⟨bD,cU,cS,cA⟩:=q
 have cB:sW w U bD [.blk ac 210 B1,.obj am (.map au aq),.obj ah (.map aj ai),.blk b2 28 B0] ag:=cA
 have q:=cB.freezeM (k:=1) rfl bS
 obtain ⟨bE,bB,cL,cC⟩:=q
 have cD:sW w U bE [.blk ac 210 B1,.obj ah (.map aj ai),.blk b2 28 B0] ag:=cC
 have q:=cD.freezeM (k:=1) rfl bT
 obtain ⟨bF,aU,cM,cE⟩:=q
 have cG:sW w U bF [.blk ac 210 B1,.blk b2 28 B0] ag:=cE
 have q:=cG.freeze (k:=0) rfl
 obtain ⟨aR,aM,ak,cz⟩:=q
 replace ak:=Cl.of ak
 have cH:sW w U aR [.blk b2 28 B0] ag:=cz
 replace ak:Cl aR ac 0 B1:=ak
 have bU:=cS.le bB
 have bV:=bU.le aU
 have bp:=bV.le aM
 have bW:=bR.le cU
 have bX:=bW.le bB
 have bY:=bX.le aU
 have bq:=bY.le aM
 have ca:=cL.le aU
 have br:=ca.le aM
 have bs:=cM.le aM
 refine bnK cQ fun cX cc cR=>zI 0 rfl rfl rfl rfl (zJ rfl rfl Tryz.call36 (zA rfl (zA rfl zM)) rfl) cH (fun hs=>wHj ae ac an ap ax az am au aq ah aj ai [] none 0 ag aR hs ak bp bq br bs (by first | exact Sl.nil _ _ _ _ | exact SlR.nil) cc) (.inr rfl) ?_
 rintro aZ c7 df ba aw cI ⟨bI,bJ,bK,bL,bM,bN,aV,bh,bg,rfl,rfl,cd,cg,ch,ci,cj,cm,co⟩
 have cp:sW w U aZ [.obj aV (.map bh bg),.blk b2 28 B0] ba:=cI
 have bi:=ak.le aw
 have bj:=bp.le aw
 have bk:=bq.le aw
 have bm:=br.le aw
 have bn:=bs.le aw
 have q:=bnd cR
 obtain ⟨⟨cV,dg⟩,bQ,bA⟩:=q
 try dsimp only at bA
 refine zI 1 rfl rfl rfl rfl (zJ rfl rfl Tryz.call35 (zA rfl (zA rfl zM)) rfl) cp (fun hs=>wHB ae ac an ap ax az am au aq ah aj ai (ae,[],cX) bI bJ bK bL bM bN ac an ap ax az am au aq ah aj ai aV bh bg none 0 ba aZ hs bi bj bk bm bn cd cg ch ci cj cm bi bj bk bm bn co (by first | exact Sl.nil _ _ _ _ | exact SlR.nil) bQ) (.inl rfl) ?_
 rintro aY cZ de bH da cr ⟨aX,be,bP,bO,rfl,rfl,c8⟩
 have ct:sW w U aY [.row aX be 52 3 (hD wAB cV),.obj aV (.map bP bO),.blk b2 28 B0] bH:=cr
 refine oA Z Z (oA Z Z (eN (zP ?_)))
 cases bA
 exact ⟨rfl,_,(wHm rfl rfl),aY,_,(ct.pick [0] _ (by decide) rfl),aX,be,rfl,rfl⟩
 intro aT cN
 refine cT Z aT (sR fL3 Z (oM Z Z (oA Z Z (oA Z Z (eN (zP (zZ ?_)))))))
 have cw:=bz.nilrow 52 3
 cases cN
 exact ⟨rfl,_,(wHm rfl rfl),U9,_,(cw.pick [0] _ (by decide) rfl),none,0,rfl,rfl⟩
theorem wFt (p0:List Int) (iO:Option Addr) (iP:Nat) (p1:Int) (w:World) (U:PHeap) (hS:St0 w U []) (uf:Sl U 1 iO iP p0.length (hD KL.encB8 p0)) {r:Bool} (hm:wCm p0 p1=some r):Gv Tryz.prog 5 [.slice iO p0.length iP,jV p1] w (wBj w [] U (fun U_ L_ v=>v=.bool r/\L_=[])):=by
 unfold wCm at hm
 refine Gv.of Tryz.func5 Z Tryz.ntmps5 Tryz.results5 Z (sR fL1 Z (oA Z Z (eN (sR gCm Z (oM Z Z (bnK hm fun x1 h2 vk=>zI 0 Z Z Z Z (zJ Z Z Tryz.call7 (zA Z zM) Z) hS (fun hs=>wIE p0 iO iP w U hs uf h2) (.inr Z) ?_))))))
 rintro U4 L5 v6 W7 xJ t7 ⟨am,ja,jT,rfl,rfl,p9⟩
 let B0:Res:=.blk am 126 [.slice ja x1.bytes.length jT,jV x1.next,.int .u32 x1.state]
 have r8:sW w U U4 [B0] W7:=t7
 refine oA Z Z (eN (sR (.fx 0 (.fl 1 (.fx 2 (.fl 3 (.fl 4 (.fx 5 (.fx 6 .nil .stop) .stop))) .stop)) .stop) Z (ZF (pv:=[(0,jV 0)]) (zs:=[jV 0]) (cs:=[jV 0]) Z Z Z Z Z (wAH Z wAY) zH zD Zr Z Z Z Z Z r8 ?_)))
 intro jJ bi sa
 let B1:Res:=.row (some ⟨bi,0,none⟩) 1 3 1 (hD KL.encI [0])
 have sb:sW w U U4 [B1,B0] jJ:=sa
 refine oM Z Z (bnK vk fun aM qb vf=>zI 0 Z Z Z Z (zJ Z Z Tryz.call23 (zA Z (zA Z zM)) Z) sb (fun hs=>wHL p1 1300 jJ U4 hs qb) (.inr Z) ?_)
 rintro eB wS xQ oe wq sf ⟨rfl,rfl⟩
 have sg:sW w U eB [B1,B0] oe:=sf
 let B2:List Value:=[.slice (some ⟨bi,0,none⟩) 1 1,jV 1,jV 2,jV 70,jV 240,jV aM]
 refine oR Z (ZI (pv:=[(0,.slice (some ⟨bi,0,none⟩) 1 1),(1,jV 1),(2,jV 2),(3,jV 70),(4,jV 240),(5,jV aM)]) (z:=[.slice none 0 0,jV 0,jV 0,jV 0,jV 0,jV 0]) (cs:=B2) Z (wAH Z (wAH Z (wAH Z (wAH Z (wAH Z (wAH Z wAY)))))) Tryz.zeroValue86 wNY Z Z) ?_
 let B3:List Value:=[.slice (some ⟨bi,0,none⟩) 1 1,jV 1,jV 2,jV 70,jV 240,jV aM,jV 0,.slice none 0 0]
 let B4:List Value:=[.slice none 0 0,jV 0,jV 0,jV 0,jV 0,jV 0,jV 0,.slice none 0 0]
 refine oR Z (ZI (pv:=[(0,.agg B2.toArray)]) (z:=B4) (cs:=B3) Z (wAH Z wAY) Tryz.zeroValue89 wNZ Z Z) (zy (cs:=B4) Z Z Z Z Z Tryz.zeroValue89 Z sg ?_)
 intro xl an sh
 refine ZA (j:=0) (vs:=B3) Z Z Z Z sh Z Z Z Z Zp (zB Z) Z Z Z ?_
 intro og sm
 have sq:sW w U eB [.blk an 89 B3,B1,B0] og:=sm
 refine eN (sR (.fl 0 (.fx 1 (.fx 2 .nil .stop) .stop)) Z ?_)
 let B5:List Value:=[jV 0,.slice none 0 0,.slice none 0 0]
 refine oR Z (ZI (pv:=[]) (z:=B5) (cs:=B5) Z wAY Zq wFE Z Z) (zy (cs:=B5) Z Z Z Z Z Zq Z sq ?_)
 intro xm aq ss
 refine ZA (j:=0) (vs:=B5) Z Z Z Z ss Z Z Z Z Zb (zB Z) Z Z Z ?_
 intro gL sw
 have sA:sW w U eB [.blk aq 28 B5,.blk an 89 B3,B1,B0] gL:=sw
 refine eN (sR fL1 Z (oA Z Z (eN (zK (sR gCm Z (oM Z Z ?_))))))
 have qk:=p9.le wq
 have q:=bnd vf
 obtain ⟨⟨bL,i4⟩,ql,f8⟩:=q
 try dsimp only at f8
 have sE:sW w U eB [B0,.blk aq 28 B5,.blk an 89 B3,B1] gL:=sA.pick [3,0,1,2] _ (by decide) rfl
 refine zI 1 Z Z Z Z (zJ Z Z Tryz.call8 (zA Z (zA Z (zA Z zM))) Z) sE (fun hs=>wFK x1 am ja jT 1 8 gL eB hs qk ql) (.inl Z) ?_
 rintro gI w5 xW ou xI sT ⟨jg,j5,rfl,rfl,qy⟩
 have s8:sW w U gI [.blk am 126 [.slice jg i4.bytes.length j5,jV i4.next,.int .u32 i4.state],.blk aq 28 B5,.blk an 89 B3,B1] ou:=sT
 refine oM Z Z (eN (zU ?_))
 have q:=wDA f8
 obtain ⟨xN,iA⟩:=q
 have q:=wCz iA
 obtain ⟨iG,ut⟩:=q
 replace iG:=zG iG
 refine ya (fun ac (f9,mZ,m2,cd,bD,cD,aT) J_ w_=>∃ (U_:PHeap) (fd:Option Addr) (fC:Nat) (cN:Option Addr) (dd:Nat) (bq:Option Addr) (bs:Nat) (cO:Option Addr) (de:Nat) (fI:List Value),J_ 38=jV (↑ac:Int)/\J_ 5=.pointer (some ⟨am,0,none⟩)/\J_ 6=.pointer (some ⟨an,0,none⟩)/\J_ 7=.pointer (some ⟨aq,0,none⟩)/\J_ 8=jV aT/\J_ 37=jV bL/\PHeap.Le gI U_/\sW w U U_ [.blk am 126 [.slice fd f9.length fC,jV mZ,.int .u32 m2],.row cN dd 40 2 (hD wAF cd),.row bq bs 46 6 (hD wAE bD),.blk aq 28 [jV 0,.slice cN cd.length dd,.slice bq bD.length bs],.row (some ⟨bi,0,none⟩) 1 3 1 (hD KL.encI [0]),.row cO de 101 3 fI,.blk an 89 [.slice (some ⟨bi,0,none⟩) ([0].length) 1,jV 1,jV 2,jV 70,jV 240,jV aM,jV 0,.slice cO cD.length de]] w_/\Sl U_ 1 fd fC f9.length (hD KL.encB8 f9)/\RlL U_ wFJ cD fI) ut ?_ ?_ ?_
 have r5:=s8.nilrow 40 2
 have r6:=r5.nilrow 46 6
 have r7:=r6.nilrow 101 3
 exact ⟨gI,jg,j5,none,0,none,0,none,0,[],rfl,rfl,rfl,rfl,rfl,rfl,(zQ _),(r7.pick [3,2,1,4,6,0,5] _ (by decide) rfl),qy,RlL.nil⟩
 rintro ac ⟨f9,mZ,m2,cd,bD,cD,aT⟩ Ab wK xk iD ⟨gG,fd,fC,cN,dd,bq,bs,cO,de,fI,iq,pI,pJ,pK,pL,lb,eY,r9,qa,lH⟩ mP uk
 try dsimp only at mP
 have jU:Hid ((↑ac:Int) < bL):=zG (wBR iD)
 replace iD:=zG iD
 have bC:Hid (w64 ((↑ac:Int) + 1)=(↑(ac + 1):Int)):=zG (by have h1:=iG.out;have h2:=jU.out;rw [wAa] <;> omega)
 refine sR fL1 Z (oR Z (zR Z iq lb) (eN (zK (cT Z jU (kN (zK (zU (sR fL2 Z (oM Z iq (oA Z Z (eN (sR fL1 Z (oA Z Z (eN (sR fL1 Z (oA Z Z (eN ?_)))))))))))))))))
 have q:=bnd mP
 obtain ⟨⟨eV,iR,iS,be⟩,wk,mn⟩:=q
 try dsimp only at mn
 let B6:Res:=.blk an 89 [.slice (some ⟨bi,0,none⟩) ([0].length) 1,jV 1,jV 2,jV 70,jV 240,jV aM,jV 0,.slice cO cD.length de]
 let B7:Res:=.blk aq 28 [jV 0,.slice cN cd.length dd,.slice bq bD.length bs]
 let B8:Res:=.row bq bs 46 6 (hD wAE bD)
 let B9:Res:=.row cN dd 40 2 (hD wAF cd)
 let aj:Res:=.row cO de 101 3 fI
 refine YC (fun J_ w_=>∃ (U_:PHeap) (d7:Option Addr) (eH:Nat) (cP:Option Addr) (df:Nat),J_ 5=.pointer (some ⟨am,0,none⟩)/\J_ 6=.pointer (some ⟨an,0,none⟩)/\J_ 7=.pointer (some ⟨aq,0,none⟩)/\J_ 8=jV aT/\J_ 9=jV (↑ac:Int)/\J_ 10=.slice cP be.length df/\J_ 37=jV bL/\J_ 38=jV (↑ac:Int)/\PHeap.Le gG U_/\sW w U U_ [.blk am 126 [.slice d7 eV.length eH,jV iR,.int .u32 iS],B9,B8,B7,B1,aj,B6,.row cP df 4 1 (hD KL.encT be)] w_/\Sl U_ 1 d7 eH eV.length (hD KL.encB8 eV)) ?_ ?_
 refine zU (YM (fun (eW,iT,iU,cE,e9) J_ w_=>∃ (U_:PHeap) (cQ:Option Addr) (dg:Nat) (cR:Option Addr) (dh:Nat),J_ 5=.pointer (some ⟨am,0,none⟩)/\J_ 6=.pointer (some ⟨an,0,none⟩)/\J_ 7=.pointer (some ⟨aq,0,none⟩)/\J_ 8=jV aT/\J_ 9=jV (↑ac:Int)/\J_ 10=.slice cR cE.length dh/\J_ 11=jV e9/\J_ 37=jV bL/\J_ 38=jV (↑ac:Int)/\PHeap.Le gG U_/\sW w U U_ [.blk am 126 [.slice cQ eW.length dg,jV iT,.int .u32 iU],B9,B8,B7,B1,aj,B6,.row cR dh 4 1 (hD KL.encT cE)] w_/\Sl U_ 1 cQ dg eW.length (hD KL.encB8 eW)) wk ?_ ?_)
 have sc:=r9.nilrow 4 1
 exact ⟨gG,fd,fC,none,0,pI,pJ,pK,pL,rfl,rfl,rfl,lb,iq,(zQ _),(sc.pick [1,2,3,4,5,6,7,0] _ (by decide) rfl),qa⟩
 rintro ⟨eW,iT,iU,cE,e9⟩ Ac wL oc ⟨eA,cQ,dg,cR,dh,eK,fK,fL,fM,fN,dU,eM,fO,fP,iK,f3,fZ⟩ mQ ul
 try dsimp only at mQ
 refine zK ?_
 have q:=bnd mQ
 obtain ⟨⟨eX,iV,iW,o5⟩,mR,mo⟩:=q
 try dsimp only at mo
 let cW:Res:=.row cR dh 4 1 (hD KL.encT cE)
 refine YC (fun J_ w_=>∃ (U_:PHeap) (cj:Option Addr) (ct:Nat),J_ 5=.pointer (some ⟨am,0,none⟩)/\J_ 6=.pointer (some ⟨an,0,none⟩)/\J_ 7=.pointer (some ⟨aq,0,none⟩)/\J_ 8=jV aT/\J_ 9=jV (↑ac:Int)/\J_ 10=.slice cR cE.length dh/\J_ 11=jV e9/\J_ 37=jV bL/\J_ 38=jV (↑ac:Int)/\J_ 57=.bool o5/\PHeap.Le eA U_/\sW w U U_ [.blk am 126 [.slice cj eX.length ct,jV iV,.int .u32 iW],B9,B8,B7,B1,aj,B6,cW] w_/\Sl U_ 1 cj ct eX.length (hD KL.encB8 eX)) ?_ ?_
 refine rR (wON (.fx 13 (wNJ (.nil)) .stop)) Z (oM Z dU (oR Z (ze Z Z ZV) (oR Z (zR Z Z Z) (oM Z Z ?_))))
 by_cases au:(↑cE.length:Int) < 5
 have mp:=mR;rw [if_pos au] at mp;replace au:=zG au
 refine oT Z au (oT Z au (oT Z au (oT Z au (zW Z Z Z (wAP Z Z Z) (zW Z Z Z (wAP Z Z Z) (oT Z au (oT Z au (zW Z Z Z (wAP Z Z Z) (Zl Z Z Z (wAP Z Z Z) (zW Z Z Z (wAP Z Z Z) (oT Z au (oR Z (zV Z (ZO au.out) Z) (zb ?_)))))))))))))
 cases mp
 exact zF ⟨Z,⟨eA,cQ,dg,eK,fK,fL,fM,fN,dU,eM,fO,fP,Z,(zQ _),f3,fZ⟩⟩
 have mq:=mR;rw [if_neg au] at mq;replace au:=zG au
 refine zO Z Z Z (wF Z au) Z dU (rU Z (wF Z au) (ze Z Z ZV) (rU Z (wF Z au) (zR Z Z Z) (zO Z Z Z (wF Z au) Z Z (ifc mq ?_ ?_))))
 intro di vg
 refine zO Z Z Z (wT Z di) Z eM (rU Z (wT Z di) (zR Z Z Z) (rU Z (wF Z au) (zV Z (ZO di.out) Z) (zO Z Z Z (wF Z au) Z Z (ifc vg ?_ ?_))))
 intro bR vh
 refine zO Z Z Z (wT Z bR) Z eK ?_
 have q:=bnd vh
 obtain ⟨⟨y7,iX⟩,qc,mr⟩:=q
 try dsimp only at mr
 refine zI 1 Z Z Z (wT Z bR) (zJ Z Z Tryz.call24 (zA Z (zA Z zM)) Z) f3 (fun hs=>wCF (⟨eW,iT,iU⟩:wAO) am cQ dg 4 oc eA hs fZ qc) (.inl Z) ?_
 rintro jx wU xR od wp sd ⟨jb,jW,rfl,rfl,qd⟩
 have se:sW w U jx [.blk am 126 [.slice jb iX.bytes.length jW,jV iX.next,.int .u32 iX.state],B9,B8,B7,B1,aj,B6,cW] od:=sd
 refine rU Z (wT Z bR) (ZR Z Z) (rU Z (wF Z au) (zV Z (ZO bR.out) Z) (oR Z (zS Z (zo au.out) Z) (zb ?_)))
 cases mr
 exact zF ⟨Z,⟨jx,jb,jW,eK,fK,fL,fM,fN,dU,eM,fO,fP,Z,wp,se,qd⟩⟩
 intro bR vi
 refine oF Z bR (Zl Z Z Z (zY Z Z (zo bR.out) Z) (oF Z bR (rU Z (wF Z au) (zS Z (zo bR.out) Z) (oR Z (zS Z (zo au.out) Z) (zb ?_)))))
 cases vi
 exact zF ⟨Z,⟨eA,cQ,dg,eK,fK,fL,fM,fN,dU,eM,fO,fP,Z,(zQ _),f3,fZ⟩⟩
 intro di vj
 refine oF Z di (oF Z di (rU Z (wF Z au) (zS Z (zo di.out) Z) (zO Z Z Z (wF Z au) Z Z (oN Z (Zl Z Z Z (zY Z Z Z Z) (oN Z (rU Z (wF Z au) (zS Z Z Z) (oR Z (zS Z (zo au.out) Z) (zb ?_)))))))))
 cases vj
 exact zF ⟨Z,⟨eA,cQ,dg,eK,fK,fL,fM,fN,dU,eM,fO,fP,Z,(zQ _),f3,fZ⟩⟩
 rintro wM jK ⟨dO,cj,ct,bB,cw,cx,cy,cz,bH,bI,cA,cB,lc,iL,eU,eR⟩
 refine ifc mo ?_ ?_
 intro gX vl
 refine zx (lc.trans (congrArg nB gX.out)) (kN (zU ?_))
 have q:=bnd vl
 obtain ⟨⟨gb,m3,m4,dP⟩,mS,ms⟩:=q
 try dsimp only at ms
 refine YC (fun J_ w_=>∃ (U_:PHeap) (dA:Option Addr) (dQ:Nat),J_ 5=.pointer (some ⟨am,0,none⟩)/\J_ 6=.pointer (some ⟨an,0,none⟩)/\J_ 7=.pointer (some ⟨aq,0,none⟩)/\J_ 8=jV aT/\J_ 9=jV (↑ac:Int)/\J_ 10=.slice cR cE.length dh/\J_ 11=jV e9/\J_ 12=.bool dP/\J_ 37=jV bL/\J_ 38=jV (↑ac:Int)/\PHeap.Le dO U_/\sW w U U_ [.blk am 126 [.slice dA gb.length dQ,jV m3,.int .u32 m4],B9,B8,B7,B1,aj,B6,cW] w_/\Sl U_ 1 dA dQ gb.length (hD KL.encB8 gb)) ?_ ?_
 refine rR (wEv (.fx 4 (wQE (.fx 16 (wNK (.nil)) .stop)) .stop)) Z (oM Z bI (oR Z (zR Z Z Z) (oM Z Z ?_)))
 by_cases bu:e9 < 4
 have mu:=mS;rw [if_pos bu] at mu;replace bu:=zG bu
 refine zO Z Z Z (wT Z bu) Z bB ?_
 have q:=bnd mu
 obtain ⟨⟨y8,gf⟩,qe,mw⟩:=q
 try dsimp only at mw
 refine zI 1 Z Z Z (wT Z bu) (zJ Z Z Tryz.call24 (zA Z (zA Z zM)) Z) eU (fun hs=>wCF (⟨eX,iV,iW⟩:wAO) am cj ct 2 jK dO hs eR qe) (.inl Z) ?_
 rintro eC wV xS jL gc sj ⟨d8,eI,rfl,rfl,f0⟩
 have f4:sW w U eC [.blk am 126 [.slice d8 gf.bytes.length eI,jV gf.next,.int .u32 gf.state],B9,B8,B7,B1,aj,B6,cW] jL:=sj
 refine oR Z (zV Z (ZO bu.out) Z) (oM Z Z (ifc mw ?_ ?_))
 intro aP vm
 refine zW Z Z Z (zY Z Z (congrArg nB aP.out) Z) (zW Z Z Z (zY Z Z (congrArg nB aP.out) Z) (zW Z Z Z (zY Z Z (congrArg nB aP.out) Z) (zW Z Z Z (wAP Z Z Z) (zW Z Z Z (wAP Z Z Z) (zW Z Z Z (wAP Z Z Z) (zW Z Z Z (zY Z Z (congrArg nB aP.out) Z) (zW Z Z Z (zY Z Z (congrArg nB aP.out) Z) (zW Z Z Z (wAP Z Z Z) (Zl Z Z Z (wAP Z Z Z) (zW Z Z Z (zY Z Z (congrArg nB aP.out) Z) (oR Z (zV Z (congrArg nB aP.out) Z) (oA Z Z (zb ?_)))))))))))))
 cases vm
 exact zF ⟨Z,⟨eC,d8,eI,bB,cw,cx,cy,cz,bH,bI,Z,cA,cB,gc,f4,f0⟩⟩
 intro aP vn
 refine zO Z Z Z (zL Z Z (congrArg nB (nA.2 aP.out))) Z bI (zT Z Z Z (zL Z Z (congrArg nB (nA.2 aP.out))) (fun _=>Zw Z Z Z) (zO Z Z Z (zL Z Z (congrArg nB (nA.2 aP.out))) Z Z (ifc vn ?_ ?_)))
 intro bS vo
 refine zO Z Z Z (wT Z bS) Z bH (rU Z (wT Z bS) (ze Z Z ZV) (rU Z (wT Z bS) (yz Z Z Z) (zT Z Z Z (zL Z Z (congrArg nB (nA.2 aP.out))) (fun _=>zV Z (ZO bS.out) Z) (zO Z Z Z (zL Z Z (congrArg nB (nA.2 aP.out))) Z Z (ifc vo ?_ ?_)))))
 intro dm vp
 refine zO Z Z Z (wT Z dm) Z bB ?_
 have q:=bnd vp
 obtain ⟨⟨y9,iY⟩,qf,mx⟩:=q
 try dsimp only at mx
 refine zI 1 Z Z Z (wT Z dm) (zJ Z Z Tryz.call24 (zA Z (zA Z zM)) Z) f4 (fun hs=>wCF gf am d8 eI 2 jL eC hs f0 qf) (.inl Z) ?_
 rintro jy wW xT oh wr sl ⟨jc,jX,rfl,rfl,qg⟩
 have sn:sW w U jy [.blk am 126 [.slice jc iY.bytes.length jX,jV iY.next,.int .u32 iY.state],B9,B8,B7,B1,aj,B6,cW] oh:=sl
 refine zT Z Z Z (zL Z Z (congrArg nB (nA.2 aP.out))) (fun _=>zV Z (ZO dm.out) Z) (oR Z (zS Z (congrArg nB (nA.2 aP.out)) Z) (oA Z Z (zb ?_)))
 cases mx
 exact zF ⟨Z,⟨jy,jc,jX,bB,cw,cx,cy,cz,bH,bI,Z,cA,cB,(gc.trans wr),sn,qg⟩⟩
 intro dm vq
 refine oF Z dm (Zl Z Z Z (zY Z Z (zo dm.out) Z) (zT Z Z Z (zL Z Z (congrArg nB (nA.2 aP.out))) (fun _=>zS Z (zo dm.out) Z) (oR Z (zS Z (congrArg nB (nA.2 aP.out)) Z) (oA Z Z (zb ?_)))))
 cases vq
 exact zF ⟨Z,⟨eC,d8,eI,bB,cw,cx,cy,cz,bH,bI,Z,cA,cB,gc,f4,f0⟩⟩
 intro bS vr
 refine oF Z bS (oF Z bS (oF Z bS (zT Z Z Z (zL Z Z (congrArg nB (nA.2 aP.out))) (fun _=>zS Z (zo bS.out) Z) (zO Z Z Z (zL Z Z (congrArg nB (nA.2 aP.out))) Z Z (oN Z (Zl Z Z Z (zY Z Z Z Z) (zT Z Z Z (zL Z Z (congrArg nB (nA.2 aP.out))) (fun _=>zS Z Z Z) (oR Z (zS Z (congrArg nB (nA.2 aP.out)) Z) (oA Z Z (zb ?_))))))))))
 cases vr
 exact zF ⟨Z,⟨eC,d8,eI,bB,cw,cx,cy,cz,bH,bI,Z,cA,cB,gc,f4,f0⟩⟩
 have my:=mS;rw [if_neg bu] at my;replace bu:=zG bu
 refine oF Z bu (Zl Z Z Z (zY Z Z (zo bu.out) Z) (oR Z (zS Z (zo bu.out) Z) (oM Z Z (zO Z Z Z (zL Z Z Z) Z bI (zT Z Z Z (zL Z Z Z) (fun _=>Zw Z Z Z) (zO Z Z Z (zL Z Z Z) Z Z (ifc my ?_ ?_)))))))
 intro bT vt
 refine zO Z Z Z (wT Z bT) Z bH (rU Z (wT Z bT) (ze Z Z ZV) (rU Z (wT Z bT) (yz Z Z Z) (zT Z Z Z (zL Z Z Z) (fun _=>zV Z (ZO bT.out) Z) (zO Z Z Z (zL Z Z Z) Z Z (ifc vt ?_ ?_)))))
 intro dn vu
 refine zO Z Z Z (wT Z dn) Z bB ?_
 have q:=bnd vu
 obtain ⟨⟨z6,iZ⟩,qh,mz⟩:=q
 try dsimp only at mz
 refine zI 1 Z Z Z (wT Z dn) (zJ Z Z Tryz.call24 (zA Z (zA Z zM)) Z) eU (fun hs=>wCF (⟨eX,iV,iW⟩:wAO) am cj ct 2 jK dO hs eR qh) (.inl Z) ?_
 rintro jz wX xU oj ws sr ⟨jd,jY,rfl,rfl,qi⟩
 have su:sW w U jz [.blk am 126 [.slice jd iZ.bytes.length jY,jV iZ.next,.int .u32 iZ.state],B9,B8,B7,B1,aj,B6,cW] oj:=sr
 refine zT Z Z Z (zL Z Z Z) (fun _=>zV Z (ZO dn.out) Z) (oR Z (zS Z Z Z) (oA Z Z (zb ?_)))
 cases mz
 exact zF ⟨Z,⟨jz,jd,jY,bB,cw,cx,cy,cz,bH,bI,Z,cA,cB,ws,su,qi⟩⟩
 intro dn vv
 refine oF Z dn (Zl Z Z Z (zY Z Z (zo dn.out) Z) (zT Z Z Z (zL Z Z Z) (fun _=>zS Z (zo dn.out) Z) (oR Z (zS Z Z Z) (oA Z Z (zb ?_)))))
 cases vv
 exact zF ⟨Z,⟨dO,cj,ct,bB,cw,cx,cy,cz,bH,bI,Z,cA,cB,(zQ _),eU,eR⟩⟩
 intro bT vw
 refine oF Z bT (oF Z bT (oF Z bT (zT Z Z Z (zL Z Z Z) (fun _=>zS Z (zo bT.out) Z) (zO Z Z Z (zL Z Z Z) Z Z (oN Z (Zl Z Z Z (zY Z Z Z Z) (zT Z Z Z (zL Z Z Z) (fun _=>zS Z Z Z) (oR Z (zS Z Z Z) (oA Z Z (zb ?_))))))))))
 cases vw
 exact zF ⟨Z,⟨dO,cj,ct,bB,cw,cx,cy,cz,bH,bI,Z,cA,cB,(zQ _),eU,eR⟩⟩
 rintro wN xn ⟨ft,dA,dQ,lg,lh,li,lj,lk,pM,lm,ln,lp,lq,mT,sv,lI⟩
 refine sR (.fl 0 (.fl 1 (.fx 2 (.fx 3 (.fl 4 .nil) .stop) .stop))) Z (oM Z pM (oM Z ln (ZF (pv:=[(0,.bool dP)]) (zs:=[.bool false]) (cs:=[.bool dP]) Z Z Z Z Z (wAH Z wAY) ZV Tryz.sizeOf4 Tryz.zeroValue4 Z Z Z Z Z sv ?_)))
 intro om o6 sB
 let jh:Res:=.blk am 126 [.slice dA gb.length dQ,jV m3,.int .u32 m4]
 let ji:Res:=.row (some ⟨o6,0,none⟩) 1 4 1 (hD KL.encT [dP])
 have lT:sW w U ft [ji,jh,B9,B8,B7,B1,aj,B6,cW] om:=sB
 refine bnK ms fun m5 qj vx=>yE (j:=8) (enc:=KL.encT) (xs:=cE) (ys:=[dP]) (zs:=m5) rfl rfl rfl rfl rfl Tryz.underlying90 wMh rfl rfl rfl rfl rfl rfl lT rfl rfl rfl (lT.srcR (j:=0) rfl (by decide) (wAG (f:=KL.encT) (sz:=1) (fun _=>rfl) [dP])) (fun _=>rfl) (fun _=>rfl) qj rfl ?_
 intro gq gY oq sC
 have lU:sW w U ft [ji,jh,B9,B8,B7,B1,aj,B6,.row gq gY 4 1 (hD KL.encT m5)] oq:=sC
 refine oA Z Z (eN (sR fL1 Z (oM Z ln (eN (ifc vx ?_ ?_)))))
 intro g6 vy
 refine zx (congrArg nB g6.out) (rR fL3 Z (oM Z lm (oR Z (zX Z Z Z) (oA Z Z (zb (za ?_))))))
 have q:=hM vy
 obtain rfl:=q
 exact zF ⟨rfl,_,rfl,⟨ft,dA,dQ,gq,gY,lg,lh,li,lj,lk,rfl,rfl,lp,lq,((iK.trans iL).trans mT),(lU.pick [1,2,3,4,5,6,7,8] _ (by decide) rfl),lI⟩⟩
 intro g6 vz
 refine zg (congrArg nB (nA.2 g6.out)) (ZE (za ?_))
 have q:=hM vz
 obtain rfl:=q
 exact zF ⟨rfl,_,rfl,⟨ft,dA,dQ,gq,gY,lg,lh,li,lj,lk,rfl,lm,lp,lq,((iK.trans iL).trans mT),(lU.pick [1,2,3,4,5,6,7,8] _ (by decide) rfl),lI⟩⟩
 intro gX vA
 refine zg (lc.trans (congrArg nB (nA.2 gX.out))) (ZG (zc ?_))
 have q:=wAq vA
 obtain ⟨wx,vB,pn⟩:=q
 have q:=ul wx pn
 obtain rfl:=q
 refine zc (zz ?_)
 cases vB
 exact zF ⟨Z,⟨dO,cj,ct,cR,dh,bB,cw,cx,cy,cz,bH,cA,cB,(iK.trans iL),eU,eR⟩⟩
 rintro wO jM ⟨xc,d7,eH,cP,df,eO,dV,fQ,ls,eP,lu,lv,lw,dx,sD,qm⟩
 refine sR (.fl 0 (.fx 1 (wNy (.fx 5 (.fx 6 (.fl 7 .nil) .stop) .stop)) .stop)) Z (oM Z lu ?_)
 have q:=sD.freezeR (k:=7) (n:=be.length) rfl (wAG (f:=KL.encT) (sz:=1) (fun _=>rfl) be) (by decide)
 obtain ⟨jA,cG,mK,sF⟩:=q
 let fj:Res:=.blk am 126 [.slice d7 eV.length eH,jV iR,.int .u32 iS]
 have sG:sW w U jA [fj,B9,B8,B7,B1,aj,B6] jM:=sF
 have q:=bnd mn
 obtain ⟨⟨aR,wA⟩,qn,mA⟩:=q
 try dsimp only at mA
 refine zI 0 Z Z Z Z (zJ Z Z Tryz.call25 (zA Z zM) Z) sG (fun hs=>wFF be cP df jM jA hs mK qn) (.inr Z) ?_
 rintro eD wZ xV ot cg sH ⟨rfl,rfl⟩
 have sI:sW w U eD [fj,B9,B8,B7,B1,aj,B6] ot:=sH
 refine oM Z Z (oR Z (ZL Z Z (v:=.agg #[jV aR.Spares,jV aR.Loops,jV aR.Unused]) Z) (oR Z (ZL Z Z (v:=jV wA) Z) (zy (cs:=[jV 0,jV 0,jV 0]) Z Z Z Z Z yO Z sI ?_)))
 intro xo ag sJ
 let ah:List Value:=[jV aR.Spares,jV aR.Loops,jV aR.Unused]
 refine ZA (j:=0) (vs:=ah) Z Z Z Z sJ Z Z Z Z Zv (zB Z) Z Z Z ?_
 intro gM sK
 have lV:sW w U eD [.blk ag 93 ah,fj,B9,B8,B7,B1,aj,B6] gM:=sK
 refine oA Z Z (eN (zK (sR fL2 Z (oM Z Z (oR Z (Ze Z Z Z) (eN (ifc mA ?_ ?_)))))))
 intro g7 vC
 refine zg (zo (fun h=>h g7.out)) (kN (sR (.fl 0 (.fx 1 (.fl 2 (.fl 3 (.fx 4 (.fl 5 (.fx 6 (.fl 7 (.fx 8 (.fl 9 (.fx 10 (.fx 11 .nil .stop) .stop)) .stop)) .stop)) .stop))) .stop)) Z (oM Z eO ?_)))
 have qo:=qm.le cG
 have qp:=qo.le cg
 have q:=bnd vC
 obtain ⟨⟨bx,gg⟩,qq,mB⟩:=q
 try dsimp only at mB
 have sL:sW w U eD [fj,.blk ag 93 ah,B9,B8,B7,B1,aj,B6] gM:=lV.pick [1,0,2,3,4,5,6,7] _ (by decide) rfl
 refine zI 1 Z Z Z Z (zJ Z Z Tryz.call9 (zA Z (zA Z zM)) Z) sL (fun hs=>wCn (⟨eV,iR,iS⟩:wAO) am d7 eH 90 gM eD hs qp qq) (.inl Z) ?_
 rintro jB w6 xX jN cH sM ⟨je,jZ,rfl,rfl,qr⟩
 have sN:sW w U jB [.blk am 126 [.slice je gg.bytes.length jZ,jV gg.next,.int .u32 gg.state],.blk ag 93 ah,B9,B8,B7,B1,aj,B6] jN:=sM
 refine oR Z (zX Z Z Z) (oM Z eO ?_)
 have q:=bnd mB
 obtain ⟨⟨bz,gh⟩,qs,mC⟩:=q
 try dsimp only at mC
 refine zI 1 Z Z Z Z (zJ Z Z Tryz.call9 (zA Z (zA Z zM)) Z) sN (fun hs=>wCn gg am je jZ 90 jN jB hs qr qs) (.inl Z) ?_
 rintro c7 w7 xY ov cI sO ⟨jf,j4,rfl,rfl,qt⟩
 let eb:Res:=.blk am 126 [.slice jf gh.bytes.length j4,jV gh.next,.int .u32 gh.state]
 have sP:sW w U c7 [eb,.blk ag 93 ah,B9,B8,B7,B1,aj,B6] ov:=sO
 refine oR Z (zX Z Z Z) (ZF (pv:=[(0,jV (w64 (3000 + bx))),(1,jV (w64 (3000 + bz)))]) (zs:=[jV 0,jV 0]) (cs:=[jV (w64 (3000 + bx)),jV (w64 (3000 + bz))]) Z Z Z Z Z (wAH Z (wAH Z wAY)) zH zD Zr Z Z Z Z Z sP ?_)
 intro ow bF sQ
 let dF:Res:=.row (some ⟨bF,0,none⟩) 2 3 1 (hD KL.encI [w64 (3000 + bx),w64 (3000 + bz)])
 have sS:sW w U c7 [dF,eb,.blk ag 93 ah,B9,B8,B7,B1,aj,B6] ow:=sQ
 refine oM Z lu ?_
 let fk:List Value:=[.slice cP be.length df]
 refine ZF (pv:=[(0,.slice cP be.length df)]) (zs:=[.slice none 0 0]) (cs:=fk) Z Z Z Z Z (wAH Z wAY) yX YG Tryz.zeroValue90 Z Z Z Z Z sS ?_
 intro ox fw sU
 have qu:=mK.le cg
 have qv:=qu.le cH
 have qw:=qv.le cI
 have vW:RlL c7 wPU [be] fk:=(RlL.cons (R:=wPU) (x:=be) (vs:=fk) ⟨cP,df,rfl,qw⟩ RlL.nil)
 let aO:Res:=.row (some ⟨fw,0,none⟩) 1 90 1 fk
 have sV:sW w U c7 [aO,dF,eb,.blk ag 93 ah,B9,B8,B7,B1,aj,B6] ox:=sU
 let aw:List Value:=[jV 0,.slice (some ⟨bF,0,none⟩) 2 2,.slice (some ⟨fw,0,none⟩) 1 1]
 refine oR Z (ZI (pv:=[(1,.slice (some ⟨bF,0,none⟩) 2 2),(2,.slice (some ⟨fw,0,none⟩) 1 1)]) (z:=B5) (cs:=aw) Z (wAH Z (wAH Z wAY)) yK wLE Z Z) (zy (cs:=B5) Z Z Z Z Z yK Z sV ?_)
 intro xp ak sX
 refine ZA (j:=0) (vs:=aw) Z Z Z Z sX Z Z Z Z Zh (zB Z) Z Z Z ?_
 intro gN sY
 have sZ:sW w U c7 [.blk ak 98 aw,aO,dF,eb,.blk ag 93 ah,B9,B8,B7,B1,aj,B6] gN:=sY
 refine eN (zK (sR (.fl 0 (.fx 1 .nil .stop)) Z (oM Z eO ?_)))
 have q:=bnd mC
 obtain ⟨⟨z7,i5⟩,qx,mD⟩:=q
 try dsimp only at mD
 have s4:sW w U c7 [eb,.blk ak 98 aw,aO,dF,.blk ag 93 ah,B9,B8,B7,B1,aj,B6] gN:=sZ.pick [3,0,1,2,4,5,6,7,8,9,10] _ (by decide) rfl
 refine zI 1 Z Z Z Z (zJ Z Z Tryz.call24 (zA Z (zA Z zM)) Z) s4 (fun hs=>wCF gh am jf j4 6 gN c7 hs qt qx) (.inl Z) ?_
 rintro jC w8 xZ jO cJ s5 ⟨dB,dR,rfl,rfl,eS⟩
 let ao:Res:=.blk am 126 [.slice dB i5.bytes.length dR,jV i5.next,.int .u32 i5.state]
 have f7:sW w U jC [ao,.blk ak 98 aw,aO,dF,.blk ag 93 ah,B9,B8,B7,B1,aj,B6] jO:=s5
 refine eN (ifc mD ?_ ?_)
 intro g8 vD
 refine zx (congrArg nB g8.out) (rR (wEv (.fx 4 .nil .stop)) Z (oR Z (zC Z Z Zd Z zk) (oL Z (f7.ldB (j:=1) Z Z Z zu (v:=.slice (some ⟨bF,0,none⟩) 2 2) Z) ?_)))
 have q:=f7.freezeR (k:=3) (n:=[w64 (3000 + bx),w64 (3000 + bz)].length) rfl (wAG (f:=KL.encI) (sz:=1) (fun _=>rfl) [w64 (3000 + bx),w64 (3000 + bz)]) (by decide)
 obtain ⟨eF,dy,mL,s6⟩:=q
 have s7:sW w U eF [ao,.blk ak 98 aw,aO,.blk ag 93 ah,B9,B8,B7,B1,aj,B6] jO:=s6
 refine bnK vD fun ch qz vE=>?_
 have q:=Sl.cutM (sz:=1) (f:=KL.encI) mL (fun _=>rfl) qz
 obtain ⟨iQ,ug,uh,um,vU⟩:=q
 refine zT (v:=.slice (if 2=(0:Int).toNat then (some ⟨bF,0,none⟩) else Option.map (·.add ((0:Int).toNat * 1)) ((some ⟨bF,0,none⟩):Option Addr)) ch.length (2 - (0:Int).toNat)) rfl rfl rfl rfl (fun _=>zr (Runs.slc (sz:=1) (a:=0) (b:=1) rfl rfl (.inr ⟨rfl,rfl⟩) (.inl ⟨_,rfl,rfl⟩) zH zD ug uh um (mL).cap) (by rw [vU])) ?_
 generalize hA_A602:(if 2=(0:Int).toNat then (some ⟨bF,0,none⟩) else Option.map (·.add ((0:Int).toNat * 1)) ((some ⟨bF,0,none⟩):Option Addr))=fe at iQ ⊢
 generalize hc_c603:2 - (0:Int).toNat=fD at iQ ⊢
 let aN:List Value:=[jV 0,.slice fe ch.length fD,.slice none 0 0]
 refine oR Z (ZI (pv:=[(1,.slice fe ch.length fD)]) (z:=B5) (cs:=aN) Z (wAH Z wAY) yK wLE Z Z) (ZA (j:=1) (vs:=aN) Z Z Z Z s7 Z Z Z Z Zh (zB Z) Z Z Z ?_)
 intro oy s9
 have lW:sW w U eF [ao,.blk ak 98 aN,aO,.blk ag 93 ah,B9,B8,B7,B1,aj,B6] oy:=s9
 refine eN (sR (wEv gCq) Z (oR Z (zC Z dV zt Z Zt) (oL Z (lW.ldB (j:=9) Z Z Z yM (v:=.slice cO cD.length de) Z) (oM Z eP (oR Z (zr (zX Z Z Z) (congrArg (jV) bC.out)) (ZF (pv:=[(0,jV 0)]) (zs:=[jV 0]) (cs:=[jV 0]) Z Z Z Z Z (wAH Z wAY) zH zD Zr Z Z Z Z Z lW ?_))))))
 intro oz fy ta
 let jk:Res:=.row (some ⟨fy,0,none⟩) 1 3 1 (hD KL.encI [0])
 have lX:sW w U eF [jk,ao,.blk ak 98 aN,aO,.blk ag 93 ah,B9,B8,B7,B1,aj,B6] oz:=ta
 refine oL Z (lX.ldBA (j:=2) Z Z Z Tryz.isAgg98 Zh (vs:=aN) Z Z) (ZF (pv:=[(0,.agg aN.toArray)]) (zs:=B5) (cs:=aN) Z Z Z Z Z (wAH Z wAY) Zu Zh yK Z Z Z Z Z lX ?_)
 intro gO fz tb
 have vX:RlL eF wLd [(⟨0,ch,[]⟩:wAR)] aN:=(RlL.cons (R:=wLd) (x:=(⟨0,ch,[]⟩:wAR)) (vs:=aN) ⟨fe,fD,none,0,rfl,iQ,(by first | exact Sl.nil _ _ _ _ | exact SlR.nil)⟩ RlL.nil)
 let jl:Res:=.row (some ⟨fz,0,none⟩) 1 98 3 aN
 have tc:sW w U eF [jl,jk,ao,.blk ak 98 aN,aO,.blk ag 93 ah,B9,B8,B7,B1,aj,B6] gO:=tb
 let dG:List Value:=[jV (↑(ac + 1):Int),.slice (some ⟨fy,0,none⟩) 1 1,.slice (some ⟨fz,0,none⟩) 1 1]
 refine oR Z (ZI (pv:=[(0,jV (↑(ac + 1):Int)),(1,.slice (some ⟨fy,0,none⟩) 1 1),(2,.slice (some ⟨fz,0,none⟩) 1 1)]) (z:=B5) (cs:=dG) Z (wAH Z (wAH Z (wAH Z wAY))) yQ wJs Z Z) ?_
 have q:=tc.freezeR (k:=1) (n:=[0].length) rfl (wAG (f:=KL.encI) (sz:=1) (fun _=>rfl) [0]) (by decide)
 obtain ⟨n3,cK,wb,tg⟩:=q
 have th:sW w U n3 [jl,ao,.blk ak 98 aN,aO,.blk ag 93 ah,B9,B8,B7,B1,aj,B6] gO:=tg
 have qA:=vX.le cK
 have q:=th.freezeRR (R:=wLd) (k:=0) rfl qA rfl (by decide)
 obtain ⟨aZ,cL,wc,tj⟩:=q
 have tp:sW w U aZ [ao,.blk ak 98 aN,aO,.blk ag 93 ah,B9,B8,B7,B1,aj,B6] gO:=tj
 refine ZF (pv:=[(0,.agg dG.toArray)]) (zs:=B5) (cs:=dG) Z Z Z Z Z (wAH Z wAY) ZS Zc yQ Z Z Z Z Z tp ?_
 intro oB o7 tf
 have qB:=wb.le cL
 have mH:RlL aZ wFJ [(⟨(↑(ac + 1):Int),[0],[(⟨0,ch,[]⟩:wAR)]⟩:wAJ)] dG:=(RlL.cons (R:=wFJ) (x:=(⟨(↑(ac + 1):Int),[0],[(⟨0,ch,[]⟩:wAR)]⟩:wAJ)) (vs:=dG) ⟨(some ⟨fy,0,none⟩),1,(some ⟨fz,0,none⟩),1,rfl,qB,wc⟩ RlL.nil)
 let bM:Res:=.row (some ⟨o7,0,none⟩) 1 101 3 dG
 have lY:sW w U aZ [bM,ao,.blk ak 98 aN,aO,.blk ag 93 ah,B9,B8,B7,B1,aj,B6] oB:=tf
 refine bnK vE fun i6 qC vF=>?_
 have qD:=lH.le dx
 have qE:=qD.le cG
 have qF:=qE.le cg
 have qG:=qF.le cH
 have qH:=qG.le cI
 have qI:=qH.le cJ
 have qJ:=qI.le dy
 have qK:=qJ.le cK
 have qL:=qK.le cL
 refine OKS.appendR (R:=wFJ) (j:=9) (xs:=cD) (ys:=[(⟨(↑(ac + 1):Int),[0],[(⟨0,ch,[]⟩:wAR)]⟩:wAJ)]) (zs:=i6) rfl rfl rfl rfl rfl Tryz.underlying87 wMk rfl rfl rfl rfl rfl rfl rfl lY rfl rfl rfl qL mH (lY.srcR (j:=0) rfl (by decide) (RlL.len mH)) qC rfl ?_
 intro dC dS fJ oC tq iI
 let cm:Res:=.row dC dS 101 3 fJ
 have tr:sW w U aZ [bM,ao,.blk ak 98 aN,aO,.blk ag 93 ah,B9,B8,B7,B1,cm,B6] oC:=tq
 refine oR Z (zC Z dV zt Z Zt) (ZA (j:=10) (vs:=[.slice dC i6.length dS]) Z Z Z Z tr Z Z Z Z Zt (zB Z) Z Z Z ?_)
 intro oD tt
 let cX:Res:=.blk an 89 [.slice (some ⟨bi,0,none⟩) ([0].length) 1,jV 1,jV 2,jV 70,jV 240,jV aM,jV 0,.slice dC i6.length dS]
 have l0:sW w U aZ [bM,ao,.blk ak 98 aN,aO,.blk ag 93 ah,B9,B8,B7,B1,cm,cX] oD:=tt
 refine eN (zK (yg fun bO bJ=>?_))
 have ik:bO 5=.pointer (some ⟨am,0,none⟩):=(bJ 5).trans eO
 have fR:bO 6=.pointer (some ⟨an,0,none⟩):=(bJ 6).trans dV
 have du:bO 7=.pointer (some ⟨aq,0,none⟩):=(bJ 7).trans fQ
 have fS:bO 8=jV aT:=(bJ 8).trans ls
 have lx:bO 9=jV (↑ac:Int):=(bJ 9).trans eP
 have ly:bO 13=.pointer (some ⟨ag,0,none⟩):=(bJ 13).trans rfl
 have pN:bO 15=.pointer (some ⟨ak,0,none⟩):=(bJ 15).trans rfl
 have il:bO 37=jV bL:=(bJ 37).trans lv
 have im:bO 38=jV (↑ac:Int):=(bJ 38).trans lw
 clear bJ
 refine rR (wEA gCn) Z (oR Z (zC Z du zq Z yJ) (oL Z (l0.ldB (j:=7) Z Z Z yk (v:=.slice cN cd.length dd) Z) (oM Z lx (oR Z (zr (zX Z Z Z) (congrArg (jV) bC.out)) ?_))))
 let gu:List Value:=[jV (↑(ac + 1):Int),jV (-1)]
 refine oR Z (ZI (pv:=[(0,jV (↑(ac + 1):Int)),(1,jV (-1))]) (z:=[jV 0,jV 0]) (cs:=gu) Z (wAH Z (wAH Z wAY)) YP wLC Z Z) (ZF (pv:=[(0,.agg gu.toArray)]) (zs:=[jV 0,jV 0]) (cs:=gu) Z Z Z Z Z (wAH Z wAY) Za yI YP Z Z Z Z Z l0 ?_)
 intro oE o8 tu
 let dI:Res:=.row (some ⟨o8,0,none⟩) 1 40 2 (hD wAF [(⟨(↑(ac + 1):Int),-1⟩:wAI)])
 have l4:sW w U aZ [dI,bM,ao,.blk ak 98 aN,aO,.blk ag 93 ah,B9,B8,B7,B1,cm,cX] oE:=tu
 refine bnK vF fun fb qM vG=>yE (j:=6) (enc:=wAF) (xs:=cd) (ys:=[(⟨(↑(ac + 1):Int),-1⟩:wAI)]) (zs:=fb) rfl rfl rfl rfl rfl Tryz.underlying25 wIC rfl rfl rfl rfl rfl rfl l4 rfl rfl rfl (l4.srcR (j:=0) rfl (by decide) (wAG (f:=wAF) (sz:=2) (fun _=>rfl) [(⟨(↑(ac + 1):Int),-1⟩:wAI)])) (fun _=>rfl) (fun _=>rfl) qM rfl ?_
 intro cS dp oG tv
 let ed:Res:=.row cS dp 40 2 (hD wAF fb)
 have tw:sW w U aZ [dI,bM,ao,.blk ak 98 aN,aO,.blk ag 93 ah,ed,B8,B7,B1,cm,cX] oG:=tv
 refine oR Z (zC Z du zq Z yJ) (ZA (j:=8) (vs:=[.slice cS fb.length dp]) Z Z Z Z tw Z Z Z Z yJ (zB Z) Z Z Z ?_)
 intro oH tz
 let gv:Res:=.blk aq 28 [jV 0,.slice cS fb.length dp,.slice bq bD.length bs]
 have cC:sW w U aZ [dI,bM,ao,.blk ak 98 aN,aO,.blk ag 93 ah,ed,B8,gv,B1,cm,cX] oH:=tz
 refine eN (sR fL9 Z (oR Z (zC Z pN Zd Z zk) (oL Z (cC.ldB (j:=3) Z Z Z zu (v:=.slice fe ch.length fD) Z) (oR Z (ze Z Z zH) (oR Z (Zw Z Z Z) (oM Z Z (ifc vG ?_ ?_)))))))
 intro bU vH
 refine rU Z (wT Z bU) (zC Z ly yV Z zD) (zn Z Z Z (wT Z bU) (cC.ldB (j:=5) Z Z Z zN (v:=jV aR.Unused) Z) Z (rU Z (wT Z bU) (yP Z Z Z) (oR Z (zV Z (ZO bU.out) Z) (eN (ifc vH ?_ ?_)))))
 intro g9 vI
 refine cT Z g9 (sR (wOM gCo) Z (oR Z (zC Z du zq Z yA) (oL Z (cC.ldB (j:=8) Z Z Z yN (v:=.slice bq bD.length bs) Z) (oM Z fS (oM Z lx (oR Z (zr (zX Z Z Z) (congrArg (jV) bC.out)) (oR Z (zC Z ly yV Z zD) (oL Z (cC.ldB (j:=5) Z Z Z zN (v:=jV aR.Unused) Z) (oR Z (zC Z fR zt Z yS) (oR Z (zC Z Z ZW Z zD) (oL Z (cC.ldB (j:=11) Z Z Z zN (v:=jV aM) Z) (oR Z (YK Z Z Z) ?_))))))))))))
 let gw:List Value:=[jV aT,jV 0,jV 0,jV (↑(ac + 1):Int),jV (w64 (aR.Unused * aM)),jV 0]
 let jm:List Value:=[jV 0,jV 0,jV 0,jV 0,jV 0,jV 0]
 refine oR Z (ZI (pv:=[(0,jV aT),(1,jV 0),(3,jV (↑(ac + 1):Int)),(4,jV (w64 (aR.Unused * aM)))]) (z:=jm) (cs:=gw) Z (wAH Z (wAH Z (wAH Z (wAH Z wAY)))) yH wJE Z Z) (ZF (pv:=[(0,.agg gw.toArray)]) (zs:=jm) (cs:=gw) Z Z Z Z Z (wAH Z wAY) ZT zw yH Z Z Z Z Z cC ?_)
 intro oI o9 tA
 let gx:Res:=.row (some ⟨o9,0,none⟩) 1 46 6 (hD wAE [(⟨aT,0,0,(↑(ac + 1):Int),w64 (aR.Unused * aM),0⟩:wAC)])
 have l5:sW w U aZ [gx,dI,bM,ao,.blk ak 98 aN,aO,.blk ag 93 ah,ed,B8,gv,B1,cm,cX] oI:=tA
 refine bnK vI fun gi qN vJ=>yE (j:=8) (enc:=wAE) (xs:=bD) (ys:=[(⟨aT,0,0,(↑(ac + 1):Int),w64 (aR.Unused * aM),0⟩:wAC)]) (zs:=gi) rfl rfl rfl rfl rfl Tryz.underlying26 wID rfl rfl rfl rfl rfl rfl l5 rfl rfl rfl (l5.srcR (j:=0) rfl (by decide) (wAG (f:=wAE) (sz:=6) (fun _=>rfl) [(⟨aT,0,0,(↑(ac + 1):Int),w64 (aR.Unused * aM),0⟩:wAC)])) (fun _=>rfl) (fun _=>rfl) qN rfl ?_
 intro ff fE oK tB
 let jo:Res:=.row ff fE 46 6 (hD wAE gi)
 have tC:sW w U aZ [gx,dI,bM,ao,.blk ak 98 aN,aO,.blk ag 93 ah,ed,jo,gv,B1,cm,cX] oK:=tB
 refine oR Z (zC Z du zq Z yA) (ZA (j:=9) (vs:=[.slice ff gi.length fE]) Z Z Z Z tC Z Z Z Z yA (zB Z) Z Z Z ?_)
 intro oO tD
 have tE:sW w U aZ [gx,dI,bM,ao,.blk ak 98 aN,aO,.blk ag 93 ah,ed,jo,.blk aq 28 [jV 0,.slice cS fb.length dp,.slice ff gi.length fE],B1,cm,cX] oO:=tD
 refine eN (rR fL3 Z (oM Z fS (oR Z (zX Z Z Z) (oA Z Z (zb (za (zF (rR fL2 Z (oR Z (zr (zX Z im Z) (congrArg (jV) bC.out)) (oM Z Z (zb ?_)))))))))))
 have q:=hM vJ
 obtain rfl:=q
 have qO:=eS.le dy
 have qP:=qO.le cK
 have qQ:=qP.le cL
 exact zF ⟨rfl,_,rfl,⟨aZ,dB,dR,cS,dp,ff,fE,dC,dS,fJ,rfl,ik,fR,du,rfl,il,(((((((((eY.trans dx).trans cG).trans cg).trans cH).trans cI).trans cJ).trans dy).trans cK).trans cL),(tE.pick [3,7,8,9,10,11,12] _ (by decide) rfl),qQ,iI⟩⟩
 intro g9 vK
 refine cF Z g9 (ZE (za (zF (rR fL2 Z (oR Z (zr (zX Z im Z) (congrArg (jV) bC.out)) (oM Z Z (zb ?_)))))))
 have q:=hM vK
 obtain rfl:=q
 have qR:=eS.le dy
 have qS:=qR.le cK
 have qT:=qS.le cL
 exact zF ⟨rfl,_,rfl,⟨aZ,dB,dR,cS,dp,bq,bs,dC,dS,fJ,rfl,ik,fR,du,fS,il,(((((((((eY.trans dx).trans cG).trans cg).trans cH).trans cI).trans cJ).trans dy).trans cK).trans cL),(cC.pick [2,6,7,8,9,10,11] _ (by decide) rfl),qT,iI⟩⟩
 intro bU vL
 refine oF Z bU (oF Z bU (oF Z bU (oR Z (zS Z (zo bU.out) Z) (eN (zg Z (ZE (za (zF (rR fL2 Z (oR Z (zr (zX Z im Z) (congrArg (jV) bC.out)) (oM Z Z (zb ?_))))))))))))
 have q:=hM vL
 obtain rfl:=q
 have qU:=eS.le dy
 have qV:=qU.le cK
 have qW:=qV.le cL
 exact zF ⟨rfl,_,rfl,⟨aZ,dB,dR,cS,dp,bq,bs,dC,dS,fJ,rfl,ik,fR,du,fS,il,(((((((((eY.trans dx).trans cG).trans cg).trans cH).trans cI).trans cJ).trans dy).trans cK).trans cL),(cC.pick [2,6,7,8,9,10,11] _ (by decide) rfl),qW,iI⟩⟩
 intro g8 vM
 refine zg (congrArg nB (nA.2 g8.out)) (kN (sR (wEv gCq) Z (oR Z (zC Z dV zt Z Zt) (oL Z (f7.ldB (j:=10) Z Z Z yM (v:=.slice cO cD.length de) Z) (oM Z eP (oR Z (zr (zX Z Z Z) (congrArg (jV) bC.out)) (ZF (pv:=[(0,jV 0)]) (zs:=[jV 0]) (cs:=[jV 0]) Z Z Z Z Z (wAH Z wAY) zH zD Zr Z Z Z Z Z f7 ?_)))))))
 intro gP fA tF
 let fm:Res:=.row (some ⟨fA,0,none⟩) 1 3 1 (hD KL.encI [0])
 have l6:sW w U jC [fm,ao,.blk ak 98 aw,aO,dF,.blk ag 93 ah,B9,B8,B7,B1,aj,B6] gP:=tF
 refine oL Z (l6.ldBA (j:=2) Z Z Z Tryz.isAgg98 Zh (vs:=aw) Z Z) ?_
 have q:=l6.freezeR (k:=4) (n:=[w64 (3000 + bx),w64 (3000 + bz)].length) rfl (wAG (f:=KL.encI) (sz:=1) (fun _=>rfl) [w64 (3000 + bx),w64 (3000 + bz)]) (by decide)
 obtain ⟨n4,dW,wd,tH⟩:=q
 have tI:sW w U n4 [fm,ao,.blk ak 98 aw,aO,.blk ag 93 ah,B9,B8,B7,B1,aj,B6] gP:=tH
 have qX:=vW.le cJ
 have qY:=qX.le dW
 have q:=tI.freezeRR (R:=wPU) (k:=3) rfl qY rfl (by decide)
 obtain ⟨gJ,dX,we,tJ⟩:=q
 have tK:sW w U gJ [fm,ao,.blk ak 98 aw,.blk ag 93 ah,B9,B8,B7,B1,aj,B6] gP:=tJ
 refine ZF (pv:=[(0,.agg aw.toArray)]) (zs:=B5) (cs:=aw) Z Z Z Z Z (wAH Z wAY) Zu Zh yK Z Z Z Z Z tK ?_
 intro gQ fB tG
 have qZ:=wd.le dX
 have vY:RlL gJ wLd [(⟨0,[w64 (3000 + bx),w64 (3000 + bz)],[be]⟩:wAR)] aw:=(RlL.cons (R:=wLd) (x:=(⟨0,[w64 (3000 + bx),w64 (3000 + bz)],[be]⟩:wAR)) (vs:=aw) ⟨(some ⟨bF,0,none⟩),2,(some ⟨fw,0,none⟩),1,rfl,qZ,we⟩ RlL.nil)
 let jp:Res:=.row (some ⟨fB,0,none⟩) 1 98 3 aw
 have tL:sW w U gJ [jp,fm,ao,.blk ak 98 aw,.blk ag 93 ah,B9,B8,B7,B1,aj,B6] gQ:=tG
 let dJ:List Value:=[jV (↑(ac + 1):Int),.slice (some ⟨fA,0,none⟩) 1 1,.slice (some ⟨fB,0,none⟩) 1 1]
 refine oR Z (ZI (pv:=[(0,jV (↑(ac + 1):Int)),(1,.slice (some ⟨fA,0,none⟩) 1 1),(2,.slice (some ⟨fB,0,none⟩) 1 1)]) (z:=B5) (cs:=dJ) Z (wAH Z (wAH Z (wAH Z wAY))) yQ wJs Z Z) ?_
 have q:=tL.freezeR (k:=1) (n:=[0].length) rfl (wAG (f:=KL.encI) (sz:=1) (fun _=>rfl) [0]) (by decide)
 obtain ⟨n5,dY,wg,tN⟩:=q
 have tO:sW w U n5 [jp,ao,.blk ak 98 aw,.blk ag 93 ah,B9,B8,B7,B1,aj,B6] gQ:=tN
 have q0:=vY.le dY
 have q:=tO.freezeRR (R:=wLd) (k:=0) rfl q0 rfl (by decide)
 obtain ⟨bh,dZ,wh,tP⟩:=q
 have tQ:sW w U bh [ao,.blk ak 98 aw,.blk ag 93 ah,B9,B8,B7,B1,aj,B6] gQ:=tP
 refine ZF (pv:=[(0,.agg dJ.toArray)]) (zs:=B5) (cs:=dJ) Z Z Z Z Z (wAH Z wAY) ZS Zc yQ Z Z Z Z Z tQ ?_
 intro oP pa tM
 have q5:=wg.le dZ
 have mI:RlL bh wFJ [(⟨(↑(ac + 1):Int),[0],[(⟨0,[w64 (3000 + bx),w64 (3000 + bz)],[be]⟩:wAR)]⟩:wAJ)] dJ:=(RlL.cons (R:=wFJ) (x:=(⟨(↑(ac + 1):Int),[0],[(⟨0,[w64 (3000 + bx),w64 (3000 + bz)],[be]⟩:wAR)]⟩:wAJ)) (vs:=dJ) ⟨(some ⟨fA,0,none⟩),1,(some ⟨fB,0,none⟩),1,rfl,q5,wh⟩ RlL.nil)
 let bN:Res:=.row (some ⟨pa,0,none⟩) 1 101 3 dJ
 have ma:sW w U bh [bN,ao,.blk ak 98 aw,.blk ag 93 ah,B9,B8,B7,B1,aj,B6] oP:=tM
 refine bnK vM fun i7 q6 vN=>?_
 have q7:=lH.le dx
 have q8:=q7.le cG
 have q9:=q8.le cg
 have rc:=q9.le cH
 have rd:=rc.le cI
 have re:=rd.le cJ
 have rf:=re.le dW
 have rg:=rf.le dX
 have rh:=rg.le dY
 have ri:=rh.le dZ
 refine OKS.appendR (R:=wFJ) (j:=8) (xs:=cD) (ys:=[(⟨(↑(ac + 1):Int),[0],[(⟨0,[w64 (3000 + bx),w64 (3000 + bz)],[be]⟩:wAR)]⟩:wAJ)]) (zs:=i7) rfl rfl rfl rfl rfl Tryz.underlying87 wMk rfl rfl rfl rfl rfl rfl rfl ma rfl rfl rfl ri mI (ma.srcR (j:=0) rfl (by decide) (RlL.len mI)) q6 rfl ?_
 intro d9 eJ ie oQ tR mJ
 let co:Res:=.row d9 eJ 101 3 ie
 have tS:sW w U bh [bN,ao,.blk ak 98 aw,.blk ag 93 ah,B9,B8,B7,B1,co,B6] oQ:=tR
 refine oR Z (zC Z dV zt Z Zt) (ZA (j:=9) (vs:=[.slice d9 i7.length eJ]) Z Z Z Z tS Z Z Z Z Zt (zB Z) Z Z Z ?_)
 intro oS tT
 let cY:Res:=.blk an 89 [.slice (some ⟨bi,0,none⟩) ([0].length) 1,jV 1,jV 2,jV 70,jV 240,jV aM,jV 0,.slice d9 i7.length eJ]
 have mb:sW w U bh [bN,ao,.blk ak 98 aw,.blk ag 93 ah,B9,B8,B7,B1,co,cY] oS:=tT
 refine eN (sR (wEA gCn) Z (oR Z (zC Z fQ zq Z yJ) (oL Z (mb.ldB (j:=6) Z Z Z yk (v:=.slice cN cd.length dd) Z) (oM Z eP (oR Z (zr (zX Z Z Z) (congrArg (jV) bC.out)) ?_)))))
 let gy:List Value:=[jV (↑(ac + 1):Int),jV (-1)]
 refine oR Z (ZI (pv:=[(0,jV (↑(ac + 1):Int)),(1,jV (-1))]) (z:=[jV 0,jV 0]) (cs:=gy) Z (wAH Z (wAH Z wAY)) YP wLC Z Z) (ZF (pv:=[(0,.agg gy.toArray)]) (zs:=[jV 0,jV 0]) (cs:=gy) Z Z Z Z Z (wAH Z wAY) Za yI YP Z Z Z Z Z mb ?_)
 intro oU pb tU
 let dK:Res:=.row (some ⟨pb,0,none⟩) 1 40 2 (hD wAF [(⟨(↑(ac + 1):Int),-1⟩:wAI)])
 have mc:sW w U bh [dK,bN,ao,.blk ak 98 aw,.blk ag 93 ah,B9,B8,B7,B1,co,cY] oU:=tU
 refine bnK vN fun fc rj vO=>yE (j:=5) (enc:=wAF) (xs:=cd) (ys:=[(⟨(↑(ac + 1):Int),-1⟩:wAI)]) (zs:=fc) rfl rfl rfl rfl rfl Tryz.underlying25 wIC rfl rfl rfl rfl rfl rfl mc rfl rfl rfl (mc.srcR (j:=0) rfl (by decide) (wAG (f:=wAF) (sz:=2) (fun _=>rfl) [(⟨(↑(ac + 1):Int),-1⟩:wAI)])) (fun _=>rfl) (fun _=>rfl) rj rfl ?_
 intro dD dT oV tV
 let ee:Res:=.row dD dT 40 2 (hD wAF fc)
 have tW:sW w U bh [dK,bN,ao,.blk ak 98 aw,.blk ag 93 ah,ee,B8,B7,B1,co,cY] oV:=tV
 refine oR Z (zC Z fQ zq Z yJ) (ZA (j:=7) (vs:=[.slice dD fc.length dT]) Z Z Z Z tW Z Z Z Z yJ (zB Z) Z Z Z ?_)
 intro oW tX
 let gz:Res:=.blk aq 28 [jV 0,.slice dD fc.length dT,.slice bq bD.length bs]
 have dw:sW w U bh [dK,bN,ao,.blk ak 98 aw,.blk ag 93 ah,ee,B8,gz,B1,co,cY] oW:=tX
 refine eN (zK (yg fun bP bK=>?_))
 have lz:bP 5=.pointer (some ⟨am,0,none⟩):=(bK 5).trans eO
 have io:bP 6=.pointer (some ⟨an,0,none⟩):=(bK 6).trans dV
 have fT:bP 7=.pointer (some ⟨aq,0,none⟩):=(bK 7).trans fQ
 have ip:bP 8=jV aT:=(bK 8).trans ls
 have pO:bP 9=jV (↑ac:Int):=(bK 9).trans eP
 have lA:bP 13=.pointer (some ⟨ag,0,none⟩):=(bK 13).trans rfl
 have pP:bP 15=.pointer (some ⟨ak,0,none⟩):=(bK 15).trans rfl
 have lB:bP 37=jV bL:=(bK 37).trans lv
 have lC:bP 38=jV (↑ac:Int):=(bK 38).trans lw
 clear bK
 refine rR fL9 rfl (zT rfl rfl rfl rfl (fun _=>zC rfl pP Zd rfl zk) (zn rfl rfl rfl rfl (dw.ldB (j:=3) rfl rfl rfl zu (v:=.slice (some ⟨bF,0,none⟩) 2 2) rfl) rfl (zT rfl rfl rfl rfl (fun _=>ze rfl rfl zH) (zT rfl rfl rfl rfl (fun _=>Zw rfl rfl rfl) (zO rfl rfl rfl rfl rfl rfl (zT rfl rfl rfl (zL rfl rfl (ZO (by decide))) (fun _=>zC rfl lA yV rfl zD) (zn rfl rfl rfl (zL rfl rfl (ZO (by decide))) (dw.ldB (j:=4) rfl rfl rfl zN (v:=jV aR.Unused) rfl) rfl (zT rfl rfl rfl (zL rfl rfl (ZO (by decide))) (fun _=>yP rfl rfl rfl) (zT rfl rfl rfl rfl (fun _=>zV rfl (ZO (by decide)) rfl) (eN (ifc vO ?_ ?_)))))))))))
 intro ib vP
 refine cT Z ib (sR (wOM gCo) Z (oR Z (zC Z fT zq Z yA) (oL Z (dw.ldB (j:=7) Z Z Z yN (v:=.slice bq bD.length bs) Z) (oM Z ip (oM Z pO (oR Z (zr (zX Z Z Z) (congrArg (jV) bC.out)) (oR Z (zC Z lA yV Z zD) (oL Z (dw.ldB (j:=4) Z Z Z zN (v:=jV aR.Unused) Z) (oR Z (zC Z io zt Z yS) (oR Z (zC Z Z ZW Z zD) (oL Z (dw.ldB (j:=10) Z Z Z zN (v:=jV aM) Z) (oR Z (YK Z Z Z) ?_))))))))))))
 let gA:List Value:=[jV aT,jV 0,jV 0,jV (↑(ac + 1):Int),jV (w64 (aR.Unused * aM)),jV 0]
 let jr:List Value:=[jV 0,jV 0,jV 0,jV 0,jV 0,jV 0]
 refine oR Z (ZI (pv:=[(0,jV aT),(1,jV 0),(3,jV (↑(ac + 1):Int)),(4,jV (w64 (aR.Unused * aM)))]) (z:=jr) (cs:=gA) Z (wAH Z (wAH Z (wAH Z (wAH Z wAY)))) yH wJE Z Z) (ZF (pv:=[(0,.agg gA.toArray)]) (zs:=jr) (cs:=gA) Z Z Z Z Z (wAH Z wAY) ZT zw yH Z Z Z Z Z dw ?_)
 intro oX pd tY
 let gB:Res:=.row (some ⟨pd,0,none⟩) 1 46 6 (hD wAE [(⟨aT,0,0,(↑(ac + 1):Int),w64 (aR.Unused * aM),0⟩:wAC)])
 have md:sW w U bh [gB,dK,bN,ao,.blk ak 98 aw,.blk ag 93 ah,ee,B8,gz,B1,co,cY] oX:=tY
 refine bnK vP fun gj rk vQ=>yE (j:=7) (enc:=wAE) (xs:=bD) (ys:=[(⟨aT,0,0,(↑(ac + 1):Int),w64 (aR.Unused * aM),0⟩:wAC)]) (zs:=gj) rfl rfl rfl rfl rfl Tryz.underlying26 wID rfl rfl rfl rfl rfl rfl md rfl rfl rfl (md.srcR (j:=0) rfl (by decide) (wAG (f:=wAE) (sz:=6) (fun _=>rfl) [(⟨aT,0,0,(↑(ac + 1):Int),w64 (aR.Unused * aM),0⟩:wAC)])) (fun _=>rfl) (fun _=>rfl) rk rfl ?_
 intro fg fG oY tZ
 let jt:Res:=.row fg fG 46 6 (hD wAE gj)
 have t1:sW w U bh [gB,dK,bN,ao,.blk ak 98 aw,.blk ag 93 ah,ee,jt,gz,B1,co,cY] oY:=tZ
 refine oR Z (zC Z fT zq Z yA) (ZA (j:=8) (vs:=[.slice fg gj.length fG]) Z Z Z Z t1 Z Z Z Z yA (zB Z) Z Z Z ?_)
 intro oZ t2
 have t6:sW w U bh [gB,dK,bN,ao,.blk ak 98 aw,.blk ag 93 ah,ee,jt,.blk aq 28 [jV 0,.slice dD fc.length dT,.slice fg gj.length fG],B1,co,cY] oZ:=t2
 refine eN (rR fL3 Z (oM Z ip (oR Z (zX Z Z Z) (oA Z Z (zb (za (zF (rR fL2 Z (oR Z (zr (zX Z lC Z) (congrArg (jV) bC.out)) (oM Z Z (zb ?_)))))))))))
 have q:=hM vQ
 obtain rfl:=q
 have rl:=eS.le dW
 have rn:=rl.le dX
 have ro:=rn.le dY
 have rp:=ro.le dZ
 exact zF ⟨rfl,_,rfl,⟨bh,dB,dR,dD,dT,fg,fG,d9,eJ,ie,rfl,lz,io,fT,rfl,lB,((((((((((eY.trans dx).trans cG).trans cg).trans cH).trans cI).trans cJ).trans dW).trans dX).trans dY).trans dZ),(t6.pick [3,6,7,8,9,10,11] _ (by decide) rfl),rp,mJ⟩⟩
 intro ib vR
 refine cF Z ib (ZE (za (zF (rR fL2 Z (oR Z (zr (zX Z lC Z) (congrArg (jV) bC.out)) (oM Z Z (zb ?_)))))))
 have q:=hM vR
 obtain rfl:=q
 have rq:=eS.le dW
 have rt:=rq.le dX
 have ru:=rt.le dY
 have rv:=ru.le dZ
 exact zF ⟨rfl,_,rfl,⟨bh,dB,dR,dD,dT,bq,bs,d9,eJ,ie,rfl,lz,io,fT,ip,lB,((((((((((eY.trans dx).trans cG).trans cg).trans cH).trans cI).trans cJ).trans dW).trans dX).trans dY).trans dZ),(dw.pick [2,5,6,7,8,9,10] _ (by decide) rfl),rv,mJ⟩⟩
 intro g7 vS
 refine cT Z g7 (sR fL1 Z (oA Z Z (eN (zP (zZ (zm (zZ ?_)))))))
 have q:=wAq vS
 obtain ⟨wy,vT,po⟩:=q
 have q:=wDj f8 iA (uk wy po)
 obtain rfl:=q
 refine zZ (zm (zZ ?_))
 have hE:=hM vT;first | subst r | cases hE
 exact ⟨rfl,_,(zj rfl),eD,_,(lV.pick [] _ (by decide) rfl),rfl,rfl⟩
 rintro ⟨wB,wC,wD,i9,ci,d5,Ad⟩ wP gR ⟨xd,m8,pg,bE,bG,cU,dq,cV,dr,ph,pU,xz,fU,pQ,xA,pR,xK,me,xC,rx⟩ uo
 have mE:=wEC f8 iA uo
 try dsimp only at mE
 have pi:Hid (¬ ((↑((bL:Int) - 0).toNat:Int) < bL)):=zG (wAr)
 refine sR fL1 Z (oR Z (zR Z pU pR) (eN (zK (cF Z pi (ZG (zc (zc (zz (zF (sR (.fl 0 (.fx 1 (wHk (.nil)) .stop)) Z ?_))))))))))
 let aQ:List Value:=[.slice (some ⟨bi,0,none⟩) ([0].length) 1,jV 1,jV 2,jV 70,jV 240,jV aM,jV 0,.slice cV d5.length dr]
 refine oL Z (me.ldBA (j:=6) Z Z fU yh Zp (vs:=aQ) Z Z) ?_
 have q:=me.freezeR (k:=4) (n:=[0].length) rfl (wAG (f:=KL.encI) (sz:=1) (fun _=>rfl) [0]) (by decide)
 obtain ⟨n7,wt,wi,t8⟩:=q
 let aU:Res:=.blk am 126 [.slice m8 wB.length pg,jV wC,.int .u32 wD]
 let bA:Res:=.row cU dq 46 6 (hD wAE ci)
 let dL:Res:=.blk aq 28 [jV 0,.slice bE i9.length bG,.slice cU ci.length dq]
 let dM:Res:=.row bE bG 40 2 (hD wAF i9)
 have ua:sW w U n7 [aU,dM,bA,dL,.row cV dr 101 3 ph,.blk an 89 aQ] gR:=t8
 have ry:=rx.le wt
 have q:=ua.freezeRR (R:=wFJ) (k:=4) rfl ry rfl (by decide)
 obtain ⟨jD,wu,mM,ub⟩:=q
 have uc:sW w U jD [aU,dM,bA,dL,.blk an 89 aQ] gR:=ub
 have lJ:=wi.le wu
 have q:=bnd mE
 obtain ⟨⟨dz,m6⟩,rz,mF⟩:=q
 try dsimp only at mF
 refine zI 0 Z Z Z Z (zJ Z Z Tryz.call26 (zA Z zM) Z) uc (fun hs=>wJH (⟨(⟨[0],1,2,70,240,aM⟩:wAL),0,d5⟩:wAS) (some ⟨bi,0,none⟩) 1 cV dr gR jD hs lJ mM rz) (.inr Z) ?_
 rintro jE w9 y4 jP mU ud ⟨fh,fH,pj,rfl,rfl,rC⟩
 let gC:Res:=.row fh fH 31 1 pj
 have mf:sW w U jE [gC,aU,dM,bA,dL,.blk an 89 aQ] jP:=ud
 refine oM Z Z (oR Z (ZL Z Z (v:=.slice fh dz.length fH) Z) (oR Z (ZL Z Z (v:=jV m6) Z) (oA Z Z (oA Z Z (eN (sR (.fl 0 (.fx 1 (wHk (.nil)) .stop)) Z (oL Z (mf.ldBA (j:=5) Z Z fU yh Zp (vs:=aQ) Z Z) ?_)))))))
 have lK:=lJ.le mU
 have lL:=mM.le mU
 have q:=bnd mF
 obtain ⟨⟨i8,m7⟩,rD,mG⟩:=q
 try dsimp only at mG
 refine zI 0 Z Z Z Z (zJ Z Z Tryz.call27 (zA Z zM) Z) mf (fun hs=>wKc (⟨(⟨[0],1,2,70,240,aM⟩:wAL),0,d5⟩:wAS) (some ⟨bi,0,none⟩) 1 cV dr jP jE hs lK lL rD) (.inr Z) ?_
 rintro jF xa y5 jQ iM ue ⟨gr,ic,rfl,rfl⟩
 let gD:Res:=.row gr ic 181 4 (hD wAb i8)
 have lQ:sW w U jF [gD,gC,aU,dM,bA,dL,.blk an 89 aQ] jQ:=ue
 refine oM Z Z (oR Z (ZL Z Z (v:=.slice gr i8.length ic) Z) (oR Z (ZL Z Z (v:=jV m7) Z) (oA Z Z (oA Z Z (eN (sR (.fl 0 (.fx 1 (wHk (.nil)) .stop)) Z (oL Z (lQ.ldBA (j:=6) Z Z fU yh Zp (vs:=aQ) Z Z) ?_)))))))
 have pV:=lK.le iM
 have pW:=lL.le iM
 have q:=bnd mG
 obtain ⟨⟨av,mX⟩,pX,mh⟩:=q
 try dsimp only at mh
 refine zI 0 Z Z Z Z (zJ Z Z Tryz.call28 (zA Z zM) Z) lQ (fun hs=>wIJ (⟨(⟨[0],1,2,70,240,aM⟩:wAL),0,d5⟩:wAS) (some ⟨bi,0,none⟩) 1 cV dr jQ jF hs pV pW pX) (.inr Z) ?_
 rintro cZ wQ xO jG wl rH ⟨cM,c8,rfl,rfl⟩
 let bg:Res:=.row cM c8 111 3 (hD wAM av)
 have cc:sW w U cZ [bg,gD,gC,aU,dM,bA,dL,.blk an 89 aQ] jG:=rH
 refine oM Z Z (oR Z (ZL Z Z (v:=.slice cM av.length c8) Z) (oR Z (ZL Z Z (v:=jV mX) Z) (oA Z Z (oA Z Z (eN (zK (zK (yg fun cr ca=>?_))))))))
 have j6:cr 6=.pointer (some ⟨an,0,none⟩):=(ca 6).trans fU
 have pp:cr 7=.pointer (some ⟨aq,0,none⟩):=(ca 7).trans pQ
 have j7:cr 16=.slice fh dz.length fH:=(ca 16).trans rfl
 have pq:cr 17=jV m6:=(ca 17).trans rfl
 have pt:cr 18=.slice gr i8.length ic:=(ca 18).trans rfl
 have pu:cr 19=jV m7:=(ca 19).trans rfl
 have j8:cr 20=.slice cM av.length c8:=(ca 20).trans rfl
 have py:cr 21=jV mX:=(ca 21).trans rfl
 clear ca
 refine rR fL31 Z (oM Z pq (oR Z (Ze Z Z Z) (oM Z Z (ifc mh ?_ ?_))))
 intro da uy
 refine zO Z Z Z (zL Z Z (zo (fun h=>h da.out))) Z pu (zT Z Z Z (zL Z Z (zo (fun h=>h da.out))) (fun _=>Ze Z Z Z) (oR Z (zS Z (zo (fun h=>h da.out)) Z) (oM Z Z (ifc uy ?_ ?_))))
 intro db uz
 refine zO Z Z Z (zL Z Z (zo (fun h=>h db.out))) Z py (zT Z Z Z (zL Z Z (zo (fun h=>h db.out))) (fun _=>Ze Z Z Z) (oR Z (zS Z (zo (fun h=>h db.out)) Z) (oM Z Z (ifc uz ?_ ?_))))
 intro bQ uA
 refine zO Z Z Z (zL Z Z (zo (fun h=>h bQ.out))) Z pt (zT Z Z Z (zL Z Z (zo (fun h=>h bQ.out))) (fun _=>ze Z Z Tryz.runUnderlying104) (zT Z Z Z (zL Z Z (zo (fun h=>h bQ.out))) (fun _=>yP Z Z Z) (oR Z (zS Z (zo (fun h=>h bQ.out)) Z) (oM Z Z (ifc uA ?_ ?_)))))
 intro aX uB
 refine oT Z aX (oT Z aX (oT Z aX (oT Z aX (oT Z aX (oT Z aX (oR Z (zV Z (ZO aX.out) Z) (oM Z Z (oN Z (oN Z (oN Z (oN Z (oN Z (oN Z (oR Z (zV Z Z Z) (eN (zx Z (sR fL1 Z (oA Z Z (eN (zP (zZ ?_)))))))))))))))))))))
 have hE:=hM uB;first | subst r | cases hE
 exact ⟨rfl,_,(zj rfl),cZ,_,(cc.pick [] _ (by decide) rfl),rfl,rfl⟩
 intro aX uC
 refine zO Z Z Z (wF Z aX) Z j7 (rU Z (wF Z aX) (ze Z Z ZM) (rU Z (wF Z aX) (zC Z j6 zt Z Zt) (zn Z Z Z (wF Z aX) (cc.ldB (j:=7) Z Z Z yM (v:=.slice cV d5.length dr) Z) Z (rU Z (wF Z aX) (ze Z Z ZS) (rU Z (wF Z aX) (Ze Z Z Z) (oR Z (zS Z (zo aX.out) Z) (oM Z Z (ifc uC ?_ ?_))))))))
 intro aY uD
 refine zO Z Z Z (zL Z Z (zo (fun h=>h aY.out))) Z j8 (zT Z Z Z (zL Z Z (zo (fun h=>h aY.out))) (fun _=>ze Z Z Zk) (zT Z Z Z (zL Z Z (zo (fun h=>h aY.out))) (fun _=>zC Z j6 zt Z Zt) (zn Z Z Z (zL Z Z (zo (fun h=>h aY.out))) (cc.ldB (j:=7) Z Z Z yM (v:=.slice cV d5.length dr) Z) Z (zT Z Z Z (zL Z Z (zo (fun h=>h aY.out))) (fun _=>ze Z Z ZS) (zT Z Z Z (zL Z Z (zo (fun h=>h aY.out))) (fun _=>Ze Z Z Z) (oR Z (zS Z (zo (fun h=>h aY.out)) Z) (eN (ifc uD ?_ ?_))))))))
 intro gT uE
 refine zg (zo (fun h=>h gT.out)) (kN (zK (sR fL3 Z (oM Z j7 (oR Z (ze Z Z ZM) (oM Z Z (eN (zU ?_))))))))
 have pY:=rC.le iM
 have pZ:=pY.le wl
 have q:=cc.freezeRR (R:=wFw) (k:=2) rfl pZ rfl (by decide)
 obtain ⟨gF,xD,vZ,rI⟩:=q
 have rJ:sW w U gF [bg,gD,aU,dM,bA,dL,.blk an 89 aQ] jG:=rI
 refine bnK uE fun gm up uF=>?_
 have q:=wBM up
 obtain ⟨iE,uq⟩:=q
 replace iE:=zG iE
 refine CK.forN' (fun bw bb J_ w_=>∃ (U_:PHeap),J_ 201=jV (↑bw:Int)/\J_ 7=.pointer (some ⟨aq,0,none⟩)/\J_ 20=.slice cM av.length c8/\J_ 199=.slice fh dz.length fH/\J_ 200=jV (↑dz.length:Int)/\PHeap.Le gF U_/\sW w U U_ [aU,.row bE bG 40 2 (hD wAF bb),bA,.blk aq 28 [jV 0,.slice bE bb.length bG,.slice cU ci.length dq],.blk an 89 aQ,bg] w_/\bb.length=i9.length) uq ?_ ?_ ?_
 exact ⟨gF,rfl,pp,j8,rfl,rfl,(zQ _),(rJ.pick [2,3,4,5,6,0] _ (by decide) rfl),rfl⟩
 rintro bw bb z8 wE jH iB ⟨eu,eQ,ig,j9,ii,ij,iJ,iv,lD⟩ wj
 have jR:Hid ((↑bw:Int) < (↑dz.length:Int)):=zG (wBR iB)
 replace iB:=zG iB
 have mg:Hid (w64 ((↑bw:Int) + 1)=(↑(bw + 1):Int)):=zG (by have h1:=iE.out;have h2:=jR.out;rw [wAa] <;> omega)
 refine sR fL1 Z (oR Z (zR Z eQ ij) (eN (zK (cT Z jR (kN (zK (zU (sR fL5 Z (oM Z eQ (bnK wj fun mY lE uG=>?_))))))))))
 have p5:=vZ.le iJ
 have q:=p5.el (wAk lE)
 obtain ⟨o0,wv,y6,rE,iu,vV⟩:=q
 obtain ⟨mV,mW,rfl,p6⟩:=vV
 replace iu:Cl eu o0 (wv + bw * 1) [.slice mV mY.length mW]:=iu
 refine oR Z (ZD Z ii rE eQ ZM zk (wBi lE)) (oL Z (iv.ldC (f:=0) iu (v:=.slice mV mY.length mW) Z Z zu Z) (oA Z Z (oA Z Z (eN (sR fL3 Z (oM Z Z (oR Z (ze Z Z zH) (oR Z (yP Z Z Z) (eN (ifc uG ?_ ?_))))))))))
 intro gU uH
 refine cT Z gU (ZQ ZK [3,1,3,3,3,1,3,3,0] (wPB (.fx 8 .nil .stop)) (by kernel_rfl) ?_)
 have eT:=iv.drew
 generalize hw_W1095:({ jH with drawn:=jH.drawn + 1 }:World)=xe at eT ⊢
 refine oR Z (zC Z ig zq Z yJ) (oL Z (eT.ldB (j:=3) Z Z Z yk (v:=.slice bE bb.length bG) Z) (oM Z Z (oM Z Z (bnK uH fun e8 lG uI=>?_))))
 have q:=p6.el (fun _=>rfl) (wAk lG)
 obtain ⟨xq,xL,rF,rG⟩:=q
 refine oR Z (ZD Z Z rF Z zH zD (wBi lG)) (oL Z (eT.ldC (f:=0) rG (v:=jV e8) Z Z zN Z) (bnK uI fun _ fW uJ=>?_))
 obtain ⟨xr,lM⟩:=eT.rowSome (j:=1) rfl (by rw [wAG (f:=wAF) (sz:=2) (fun _=>rfl) bb];have hz:=wAU fW;omega)
 refine oR Z (ZD Z Z lM Z Za yI (wAU fW)) (oR Z (zC Z Z yB Z zD) ?_)
 have uu:=wBY (xs:=bb) (wAU fW)
 refine YE (j:=1) (vs:=[jV e8]) (cs':=hD wAF (List.set bb bw (⟨(gd bb bw).Bib,e8⟩:wAI))) rfl rfl rfl rfl eT rfl lM rfl rfl rfl zD (by rw [wAG (f:=wAF) (sz:=2) (fun _=>rfl)];have hz:=wAU fW;show _ + 1 <= _;first | omega | (simp only [Int.toNat_natCast];omega) | (simp only [nG,nD,nE];omega)) rfl (wEK (sz:=2) (fo:=1) (fun _=>rfl) _ _ _ _ uu (by first | omega | (simp only [Int.toNat_natCast];omega) | (simp only [nG,nD,nE];omega)) (zB rfl) rfl) rfl ?_
 intro jI rK
 let gE:Res:=.row bE bG 40 2 (hD wAF (List.set bb bw (⟨(gd bb bw).Bib,e8⟩:wAI)))
 have rL:sW w U eu [aU,gE,bA,.blk aq 28 [jV 0,.slice bE bb.length bG,.slice cU ci.length dq],.blk an 89 aQ,bg] jI:=rK
 have rM:sW w U eu [aU,gE,bA,.blk aq 28 [jV 0,.slice bE ((List.set bb bw (⟨(gd bb bw).Bib,e8⟩:wAI)).length) bG,.slice cU ci.length dq],.blk an 89 aQ,bg] jI:=by simpa only [aQ,aU,bA,bg,gE,List.length_set] using rL
 refine zb (za (zF (rR fL2 Z (oR Z (zr (zX Z eQ Z) (congrArg (jV) mg.out)) (oM Z Z (zb ?_))))))
 cases uJ
 exact zF ⟨Z,⟨eu,Z,ig,j9,ii,ij,iJ,rM,(List.length_set.trans lD)⟩⟩
 intro gU uK
 refine cF Z gU (ZE (za (zF (rR fL2 Z (oR Z (zr (zX Z eQ Z) (congrArg (jV) mg.out)) (oM Z Z (zb ?_)))))))
 cases uK
 exact zF ⟨Z,⟨eu,Z,ig,j9,ii,ij,iJ,iv,lD⟩⟩
 rintro wG gK ⟨xb,pS,pz,k4,xv,pC,xE,lR,xB⟩
 have pe:Hid (¬ ((↑(((↑dz.length:Int):Int) - 0).toNat:Int) < (↑dz.length:Int))):=zG (wAr)
 refine sR fL1 Z (oR Z (zR Z pS pC) (eN (zK (cF Z pe (ZG (zc (zc (zz (zF (sR (.fl 0 (.fx 1 (wHk (.nil)) .stop)) Z ?_))))))))))
 let cp:List Value:=[jV 0,.slice bE gm.length bG,.slice cU ci.length dq]
 refine oL Z (lR.ldBA (j:=3) Z Z pz ym Zb (vs:=cp) Z Z) ?_
 have q:=lR.freezeR (k:=1) (n:=gm.length) rfl (wAG (f:=wAF) (sz:=2) (fun _=>rfl) gm) (by decide)
 obtain ⟨m9,xF,v2,rN⟩:=q
 have rP:sW w U m9 [aU,bA,.blk aq 28 cp,.blk an 89 aQ,bg] gK:=rN
 have q:=rP.freezeR (k:=1) (n:=ci.length) rfl (wAG (f:=wAE) (sz:=6) (fun _=>rfl) ci) (by decide)
 obtain ⟨jv,wm,wa,rQ⟩:=q
 have rS:sW w U jv [aU,.blk aq 28 cp,.blk an 89 aQ,bg] gK:=rQ
 have p7:=v2.le wm
 have q:=bnd uF
 obtain ⟨⟨aV,wz⟩,p8,mi⟩:=q
 try dsimp only at mi
 refine zI 0 Z Z Z Z (zJ Z Z Tryz.call11 (zA Z zM) Z) rS (fun hs=>wJL (⟨0,gm,ci⟩:wAV) bE bG cU dq gK jv hs p7 wa p8) (.inr Z) ?_
 rintro ey wR xP n8 xG rT ⟨d6,eG,rfl,rfl⟩
 let eh:Res:=.row d6 eG 52 3 (hD wAB aV)
 have iw:sW w U ey [eh,aU,.blk aq 28 cp,.blk an 89 aQ,bg] n8:=rT
 refine oM Z Z (oR Z (ZL Z Z (v:=.slice d6 aV.length eG) Z) (oR Z (ZL Z Z (v:=jV wz) Z) (oA Z Z (oA Z Z (eN (zK (sR fL9 Z (oM Z Z (oR Z (Ze Z Z Z) (oM Z Z (ifc mi ?_ ?_)))))))))))
 intro bj uL
 refine zO Z Z Z (zL Z Z (zo (fun h=>h bj.out))) Z Z (zT Z Z Z (zL Z Z (zo (fun h=>h bj.out))) (fun _=>ze Z Z zh) (zO Z Z Z (zL Z Z (zo (fun h=>h bj.out))) Z k4 (zT Z Z Z (zL Z Z (zo (fun h=>h bj.out))) (fun _=>ze Z Z Zk) (zT Z Z Z (zL Z Z (zo (fun h=>h bj.out))) (fun _=>Ze Z Z Z) (oR Z (zS Z (zo (fun h=>h bj.out)) Z) (eN (ifc uL ?_ ?_)))))))
 intro gV iH
 refine zg (zo (fun h=>h gV.out)) (kN (zK (sR fL3 Z (oM Z k4 (oR Z (ze Z Z Zk) (oM Z Z (eN (zU ?_))))))))
 have q:=wDA iH
 obtain ⟨xM,iz⟩:=q
 have q:=wCz iz
 obtain ⟨iF,ur⟩:=q
 replace iF:=zG iF
 refine ya (fun ap _ J_ w_=>∃ (U_:PHeap),J_ 234=jV (↑ap:Int)/\J_ 24=.slice d6 aV.length eG/\J_ 232=.slice cM av.length c8/\J_ 233=jV (↑av.length:Int)/\PHeap.Le ey U_/\sW w U U_ [aU,.blk aq 28 cp,.blk an 89 aQ,eh,bg] w_) ur ?_ ?_ ?_
 exact ⟨ey,rfl,rfl,rfl,rfl,(zQ _),(iw.pick [1,2,3,0,4] _ (by decide) rfl)⟩
 rintro ap ⟨⟩ Aa wH xf iC ⟨br,fV,k5,k6,k9,wn,ix⟩ mN ui
 try dsimp only at mN
 have jS:Hid ((↑ap:Int) < (↑av.length:Int)):=zG (wBR iC)
 replace iC:=zG iC
 have ux:Hid (w64 ((↑ap:Int) + 1)=(↑(ap + 1):Int)):=zG (by have h1:=iF.out;have h2:=jS.out;rw [wAa] <;> omega)
 refine sR fL1 Z (oR Z (zR Z fV k9) (eN (zK (cT Z jS (kN (zK (zU (sR (wEz (.fx 3 (.fl 4 (.fx 5 .nil .stop)) .stop)) Z (oM Z fV (bnK mN fun _ ir uM=>?_))))))))))
 obtain ⟨xt,lN⟩:=ix.rowSome (j:=4) rfl (by rw [wAG (f:=wAM) (sz:=3) (fun _=>rfl) av];have hz:=wAU ir;omega)
 refine oR Z (ZD Z k6 lN fV Zk yT (wAU ir)) ?_
 have uv:=wBY (xs:=av) (wAU ir)
 let ep:List Value:=[jV ((gd av ap).Bib),jV ((gd av ap).Place),jV ((gd av ap).Time)]
 refine zn rfl rfl rfl rfl (ix.ldRA (j:=4) rfl lN rfl rfl Tryz.isAgg111 yT (vs:=ep) (wBE (sz:=3) (fun _=>rfl) _ _ _ uv (by first | omega | rfl | simp) rfl) rfl) rfl ?_
 let ju:List Value:=[jV 0,jV 0,jV 0]
 refine zy (cs:=ju) Z Z Z Z Z yw Z ix ?_
 intro xg fu rV
 refine oA Z Z (ZA (j:=0) (vs:=ep) Z Z Z Z rV Z Z Z Z yT (zB Z) Z Z Z ?_)
 intro n9 rW
 have iy:sW w U br [.blk fu 111 ep,aU,.blk aq 28 cp,.blk an 89 aQ,eh,bg] n9:=rW
 refine eN (sR (wEv (.fx 4 (.fx 5 .nil .stop) .stop)) Z (oM Z k5 (oM Z Z (bnK uM fun _ it uN=>?_))))
 obtain ⟨xu,lP⟩:=iy.rowSome (j:=4) rfl (by rw [wAG (f:=wAB) (sz:=3) (fun _=>rfl) aV];have hz:=wAU it;omega)
 refine oR Z (ZD Z Z lP Z zh zf (wAU it)) ?_
 have uw:=wBY (xs:=aV) (wAU it)
 let fq:List Value:=[jV ((gd aV ap).Bib),jV ((gd aV ap).Place),jV ((gd aV ap).Total)]
 refine zn rfl rfl rfl rfl (iy.ldRA (j:=4) rfl lP rfl rfl Zy zf (vs:=fq) (wBE (sz:=3) (fun _=>rfl) _ _ _ uw (by first | omega | rfl | simp) rfl) rfl) rfl (zy (cs:=ju) rfl rfl rfl rfl rfl Tryz.zeroValue52 rfl iy ?_)
 intro xh gS rX
 refine ZA (j:=0) (vs:=fq) Z Z Z Z rX Z Z Z Z zf (zB Z) Z Z Z ?_
 intro oa rY
 have az:sW w U br [.blk gS 52 fq,.blk fu 111 ep,aU,.blk aq 28 cp,.blk an 89 aQ,eh,bg] oa:=rY
 refine eN (bnK uN fun o3 mO uO=>YC (fun J_ w_=>∃ (U_:PHeap),J_ 24=.slice d6 aV.length eG/\J_ 232=.slice cM av.length c8/\J_ 233=jV (↑av.length:Int)/\J_ 234=jV (↑ap:Int)/\J_ 276=.bool o3/\PHeap.Le br U_/\sW w U U_ [.blk gS 52 fq,.blk fu 111 ep,aU,.blk aq 28 cp,.blk an 89 aQ,eh,bg] w_) ?_ ?_)
 refine yg fun dN dv=>?_
 have bV:dN 24=.slice d6 aV.length eG:=(dv 24).trans k5
 have bW:dN 26=.pointer (some ⟨fu,0,none⟩):=(dv 26).trans rfl
 have dt:dN 27=.pointer (some ⟨gS,0,none⟩):=(dv 27).trans rfl
 have bX:dN 232=.slice cM av.length c8:=(dv 232).trans k6
 have bY:dN 233=jV (↑av.length:Int):=(dv 233).trans k9
 have bZ:dN 234=jV (↑ap:Int):=(dv 234).trans fV
 clear dv
 refine rR fL34 Z (oR Z (zC Z bW ZH Z zD) (oL Z (az.ldB (j:=1) Z Z Z zN (v:=jV ((gd av ap).Place)) Z) (oR Z (Zw Z Z Z) (oM Z Z ?_))))
 by_cases ba:((gd av ap).Place)=0
 have mj:=mO;rw [if_pos ba] at mj;replace ba:=zG ba
 refine rU Z (wT Z ba) (zC Z dt Zj Z zD) (zn Z Z Z (wT Z ba) (az.ldB (j:=0) Z Z Z zN (v:=jV ((gd aV ap).Place)) Z) Z (rU Z (wT Z ba) (Ze Z Z Z) (oR Z (zV Z (ZO ba.out) Z) (oM Z Z (ifc mj ?_ ?_)))))
 intro aS uP
 refine zT Z Z Z (zL Z Z (zo (fun h=>h aS.out))) (fun _=>zC Z bW ZH Z zD) (zn Z Z Z (zL Z Z (zo (fun h=>h aS.out))) (az.ldB (j:=1) Z Z Z zN (v:=jV ((gd av ap).Place)) Z) Z (zT Z Z Z (zL Z Z (zo (fun h=>h aS.out))) (fun _=>yP Z Z Z) (zO Z Z Z (zL Z Z (zo (fun h=>h aS.out))) Z Z (ifc uP ?_ ?_))))
 intro ax uQ
 refine rU Z (wT Z ax) (zC Z dt Zj Z zD) (zn Z Z Z (wT Z ax) (az.ldB (j:=0) Z Z Z zN (v:=jV ((gd aV ap).Bib)) Z) Z (rU Z (wT Z ax) (zC Z bW ZH Z zD) (zn Z Z Z (wT Z ax) (az.ldB (j:=1) Z Z Z zN (v:=jV ((gd av ap).Bib)) Z) Z (rU Z (wT Z ax) (Ze Z Z Z) (zO Z Z Z (wT Z ax) Z Z (ifc uQ ?_ ?_))))))
 intro bk uR
 refine zT Z Z Z (zL Z Z (zo (fun h=>h bk.out))) (fun _=>zC Z dt Zj Z zD) (zn Z Z Z (zL Z Z (zo (fun h=>h bk.out))) (az.ldB (j:=0) Z Z Z zN (v:=jV ((gd aV ap).Place)) Z) Z (zT Z Z Z (zL Z Z (zo (fun h=>h bk.out))) (fun _=>zC Z bW ZH Z zD) (zn Z Z Z (zL Z Z (zo (fun h=>h bk.out))) (az.ldB (j:=1) Z Z Z zN (v:=jV ((gd av ap).Place)) Z) Z (zT Z Z Z (zL Z Z (zo (fun h=>h bk.out))) (fun _=>Ze Z Z Z) (rU Z (wT Z ax) (zS Z (zo (fun h=>h bk.out)) Z) (zO Z Z Z (wT Z ax) Z Z (ifc uR ?_ ?_)))))))
 intro bm uS
 refine zT Z Z Z (zL Z Z (zo (fun h=>h bm.out))) (fun _=>zC Z dt Zj Z zD) (zn Z Z Z (zL Z Z (zo (fun h=>h bm.out))) (az.ldB (j:=0) Z Z Z zN (v:=jV ((gd aV ap).Total)) Z) Z (zT Z Z Z (zL Z Z (zo (fun h=>h bm.out))) (fun _=>zC Z bW ZH Z zD) (zn Z Z Z (zL Z Z (zo (fun h=>h bm.out))) (az.ldB (j:=1) Z Z Z zN (v:=jV ((gd av ap).Time)) Z) Z (zT Z Z Z (zL Z Z (zo (fun h=>h bm.out))) (fun _=>Ze Z Z Z) (rU Z (wT Z ax) (zS Z (zo (fun h=>h bm.out)) Z) (zT Z Z Z (zL Z Z (zo (fun h=>h aS.out))) (fun _=>zV Z (ZO ax.out) Z) (oR Z (zS Z (zo (fun h=>h aS.out)) Z) (zb ?_))))))))
 have q:=hM uS
 obtain rfl:=q
 exact zF ⟨Z,⟨br,bV,bX,bY,bZ,Z,(zQ _),az⟩⟩
 intro bm uT
 refine oT Z bm (oT Z bm (oT Z bm (oT Z bm (oT Z bm (rU Z (wT Z ax) (zV Z (ZO bm.out) Z) (zT Z Z Z (zL Z Z (zo (fun h=>h aS.out))) (fun _=>zV Z (ZO ax.out) Z) (oR Z (zS Z (zo (fun h=>h aS.out)) Z) (zb ?_))))))))
 cases uT
 exact zF ⟨Z,⟨br,bV,bX,bY,bZ,Z,(zQ _),az⟩⟩
 intro bk uU
 refine oT Z bk (oT Z bk (oT Z bk (oT Z bk (oT Z bk (rU Z (wT Z ax) (zV Z (ZO bk.out) Z) (zO Z Z Z (wT Z ax) Z Z (oN Z (oN Z (oN Z (oN Z (oN Z (rU Z (wT Z ax) (zV Z Z Z) (zT Z Z Z (zL Z Z (zo (fun h=>h aS.out))) (fun _=>zV Z (ZO ax.out) Z) (oR Z (zS Z (zo (fun h=>h aS.out)) Z) (zb ?_)))))))))))))))
 cases uU
 exact zF ⟨Z,⟨br,bV,bX,bY,bZ,Z,(zQ _),az⟩⟩
 intro ax uV
 refine oF Z ax (oF Z ax (oF Z ax (oF Z ax (oF Z ax (oF Z ax (zW Z Z Z (wAP Z Z Z) (zW Z Z Z (wAP Z Z Z) (zW Z Z Z (wAP Z Z Z) (zW Z Z Z (wAP Z Z Z) (zW Z Z Z (wAP Z Z Z) (oF Z ax (oF Z ax (zW Z Z Z (wAP Z Z Z) (zW Z Z Z (wAP Z Z Z) (zW Z Z Z (wAP Z Z Z) (zW Z Z Z (wAP Z Z Z) (zW Z Z Z (wAP Z Z Z) (oF Z ax (zT Z Z Z (zL Z Z (zo (fun h=>h aS.out))) (fun _=>zS Z (zo ax.out) Z) (oR Z (zS Z (zo (fun h=>h aS.out)) Z) (zb ?_)))))))))))))))))))))
 cases uV
 exact zF ⟨Z,⟨br,bV,bX,bY,bZ,Z,(zQ _),az⟩⟩
 intro aS uW
 refine oT Z aS (oT Z aS (oT Z aS (oT Z aS (zW Z Z Z (wAP Z Z Z) (zW Z Z Z (wAP Z Z Z) (zW Z Z Z (wAP Z Z Z) (zW Z Z Z (wAP Z Z Z) (zW Z Z Z (wAP Z Z Z) (zW Z Z Z (wAP Z Z Z) (zW Z Z Z (wAP Z Z Z) (zW Z Z Z (wAP Z Z Z) (zW Z Z Z (wAP Z Z Z) (zW Z Z Z (wAP Z Z Z) (zW Z Z Z (wAP Z Z Z) (zW Z Z Z (wAP Z Z Z) (zW Z Z Z (wAP Z Z Z) (zW Z Z Z (wAP Z Z Z) (zW Z Z Z (wAP Z Z Z) (zW Z Z Z (wAP Z Z Z) (zW Z Z Z (wAP Z Z Z) (zW Z Z Z (wAP Z Z Z) (zW Z Z Z (wAP Z Z Z) (oT Z aS (oR Z (zV Z (ZO aS.out) Z) (zb ?_)))))))))))))))))))))))))
 cases uW
 exact zF ⟨Z,⟨br,bV,bX,bY,bZ,Z,(zQ _),az⟩⟩
 have ml:=mO;rw [if_neg ba] at ml;replace ba:=zG ba
 refine oF Z ba (oF Z ba (oF Z ba (oR Z (zS Z (zo ba.out) Z) (oM Z Z (zT Z Z Z (zL Z Z Z) (fun _=>zC Z bW ZH Z zD) (zn Z Z Z (zL Z Z Z) (az.ldB (j:=1) Z Z Z zN (v:=jV ((gd av ap).Place)) Z) Z (zT Z Z Z (zL Z Z Z) (fun _=>yP Z Z Z) (zO Z Z Z (zL Z Z Z) Z Z (ifc ml ?_ ?_)))))))))
 intro ay uX
 refine rU Z (wT Z ay) (zC Z dt Zj Z zD) (zn Z Z Z (wT Z ay) (az.ldB (j:=0) Z Z Z zN (v:=jV ((gd aV ap).Bib)) Z) Z (rU Z (wT Z ay) (zC Z bW ZH Z zD) (zn Z Z Z (wT Z ay) (az.ldB (j:=1) Z Z Z zN (v:=jV ((gd av ap).Bib)) Z) Z (rU Z (wT Z ay) (Ze Z Z Z) (zO Z Z Z (wT Z ay) Z Z (ifc uX ?_ ?_))))))
 intro bn uY
 refine zT Z Z Z (zL Z Z (zo (fun h=>h bn.out))) (fun _=>zC Z dt Zj Z zD) (zn Z Z Z (zL Z Z (zo (fun h=>h bn.out))) (az.ldB (j:=0) Z Z Z zN (v:=jV ((gd aV ap).Place)) Z) Z (zT Z Z Z (zL Z Z (zo (fun h=>h bn.out))) (fun _=>zC Z bW ZH Z zD) (zn Z Z Z (zL Z Z (zo (fun h=>h bn.out))) (az.ldB (j:=1) Z Z Z zN (v:=jV ((gd av ap).Place)) Z) Z (zT Z Z Z (zL Z Z (zo (fun h=>h bn.out))) (fun _=>Ze Z Z Z) (rU Z (wT Z ay) (zS Z (zo (fun h=>h bn.out)) Z) (zO Z Z Z (wT Z ay) Z Z (ifc uY ?_ ?_)))))))
 intro bp uZ
 refine zT Z Z Z (zL Z Z (zo (fun h=>h bp.out))) (fun _=>zC Z dt Zj Z zD) (zn Z Z Z (zL Z Z (zo (fun h=>h bp.out))) (az.ldB (j:=0) Z Z Z zN (v:=jV ((gd aV ap).Total)) Z) Z (zT Z Z Z (zL Z Z (zo (fun h=>h bp.out))) (fun _=>zC Z bW ZH Z zD) (zn Z Z Z (zL Z Z (zo (fun h=>h bp.out))) (az.ldB (j:=1) Z Z Z zN (v:=jV ((gd av ap).Time)) Z) Z (zT Z Z Z (zL Z Z (zo (fun h=>h bp.out))) (fun _=>Ze Z Z Z) (rU Z (wT Z ay) (zS Z (zo (fun h=>h bp.out)) Z) (zT Z Z Z (zL Z Z Z) (fun _=>zV Z (ZO ay.out) Z) (oR Z (zS Z Z Z) (zb ?_))))))))
 have q:=hM uZ
 obtain rfl:=q
 exact zF ⟨Z,⟨br,bV,bX,bY,bZ,Z,(zQ _),az⟩⟩
 intro bp u0
 refine oT Z bp (oT Z bp (oT Z bp (oT Z bp (oT Z bp (rU Z (wT Z ay) (zV Z (ZO bp.out) Z) (zT Z Z Z (zL Z Z Z) (fun _=>zV Z (ZO ay.out) Z) (oR Z (zS Z Z Z) (zb ?_))))))))
 cases u0
 exact zF ⟨Z,⟨br,bV,bX,bY,bZ,Z,(zQ _),az⟩⟩
 intro bn u1
 refine oT Z bn (oT Z bn (oT Z bn (oT Z bn (oT Z bn (rU Z (wT Z ay) (zV Z (ZO bn.out) Z) (zO Z Z Z (wT Z ay) Z Z (oN Z (oN Z (oN Z (oN Z (oN Z (rU Z (wT Z ay) (zV Z Z Z) (zT Z Z Z (zL Z Z Z) (fun _=>zV Z (ZO ay.out) Z) (oR Z (zS Z Z Z) (zb ?_)))))))))))))))
 cases u1
 exact zF ⟨Z,⟨br,bV,bX,bY,bZ,Z,(zQ _),az⟩⟩
 intro ay u3
 refine oF Z ay (oF Z ay (oF Z ay (oF Z ay (oF Z ay (oF Z ay (zW Z Z Z (wAP Z Z Z) (zW Z Z Z (wAP Z Z Z) (zW Z Z Z (wAP Z Z Z) (zW Z Z Z (wAP Z Z Z) (zW Z Z Z (wAP Z Z Z) (oF Z ay (oF Z ay (zW Z Z Z (wAP Z Z Z) (zW Z Z Z (wAP Z Z Z) (zW Z Z Z (wAP Z Z Z) (zW Z Z Z (wAP Z Z Z) (zW Z Z Z (wAP Z Z Z) (oF Z ay (zT Z Z Z (zL Z Z Z) (fun _=>zS Z (zo ay.out) Z) (oR Z (zS Z Z Z) (zb ?_)))))))))))))))))))))
 cases u3
 exact zF ⟨Z,⟨br,bV,bX,bY,bZ,Z,(zQ _),az⟩⟩
 rintro wI xi ⟨jw,pD,pE,pF,pG,la,wo,lS⟩
 refine ifc uO ?_ ?_
 intro gW u4
 refine zx (la.trans (congrArg nB gW.out)) (sR fL1 Z (oA Z Z (eN (zP (zm (zZ ?_))))))
 have q:=wAq u4
 obtain ⟨ww,u5,pm⟩:=q
 have q:=wDj iH iz (ui ww pm)
 obtain rfl:=q
 refine zZ (zm (zZ ?_))
 have hE:=hM u5;first | subst r | cases hE
 exact ⟨rfl,_,(zj rfl),jw,_,(lS.pick [] _ (by decide) rfl),rfl,rfl⟩
 intro gW u6
 refine zg (la.trans (congrArg nB (nA.2 gW.out))) (ZE (za (zF (rR fL2 Z (oR Z (zr (zX Z pG Z) (congrArg (jV) ux.out)) (oM Z Z (zb ?_)))))))
 have q:=hM u6
 obtain rfl:=q
 exact zF ⟨rfl,_,rfl,⟨jw,rfl,pD,pE,pF,(wn.trans wo),(lS.pick [2,3,4,5,6] _ (by decide) rfl)⟩⟩
 rintro ⟨⟩ wJ xj ⟨n2,pT,xw,xx,pH,xH,rZ⟩ uj
 have mm:=wEC iH iz uj
 try dsimp only at mm
 have pf:Hid (¬ ((↑(((↑av.length:Int):Int) - 0).toNat:Int) < (↑av.length:Int))):=zG (wAr)
 refine sR fL1 Z (oR Z (zR Z pT pH) (eN (zK (cF Z pf (ZG (zc (zc (zz (zF (sR fL1 Z (oA Z Z (eN (zP ?_)))))))))))))
 have hE:=hM mm;first | subst r | cases hE
 exact ⟨rfl,_,(zj rfl),n2,_,(rZ.pick [] _ (by decide) rfl),rfl,rfl⟩
 intro gV u7
 refine cT Z gV (sR fL1 Z (oA Z Z (eN (zP (zZ ?_)))))
 have hE:=hM u7;first | subst r | cases hE
 exact ⟨rfl,_,(zj rfl),ey,_,(iw.pick [] _ (by decide) rfl),rfl,rfl⟩
 intro bj u9
 refine oT Z bj (oT Z bj (oT Z bj (oT Z bj (oT Z bj (oR Z (zV Z (ZO bj.out) Z) (eN (zx Z (sR fL1 Z (oA Z Z (eN (zP (zZ ?_))))))))))))
 have hE:=hM u9;first | subst r | cases hE
 exact ⟨rfl,_,(zj rfl),ey,_,(iw.pick [] _ (by decide) rfl),rfl,rfl⟩
 intro gT va
 refine cT Z gT (sR fL1 Z (oA Z Z (eN (zP (zZ ?_)))))
 have hE:=hM va;first | subst r | cases hE
 exact ⟨rfl,_,(zj rfl),cZ,_,(cc.pick [] _ (by decide) rfl),rfl,rfl⟩
 intro aY vb
 refine oT Z aY (oT Z aY (oT Z aY (oT Z aY (oT Z aY (oT Z aY (oR Z (zV Z (ZO aY.out) Z) (eN (zx Z (sR fL1 Z (oA Z Z (eN (zP (zZ ?_)))))))))))))
 have hE:=hM vb;first | subst r | cases hE
 exact ⟨rfl,_,(zj rfl),cZ,_,(cc.pick [] _ (by decide) rfl),rfl,rfl⟩
 intro bQ vc
 refine oT Z bQ (oT Z bQ (oT Z bQ (oR Z (zV Z (ZO bQ.out) Z) (oM Z Z (oN Z (oN Z (oN Z (oN Z (oN Z (oN Z (oR Z (zV Z Z Z) (oM Z Z (oN Z (oN Z (oN Z (oN Z (oN Z (oN Z (oR Z (zV Z Z Z) (eN (zx Z (sR fL1 Z (oA Z Z (eN (zP (zZ ?_))))))))))))))))))))))))))
 have hE:=hM vc;first | subst r | cases hE
 exact ⟨rfl,_,(zj rfl),cZ,_,(cc.pick [] _ (by decide) rfl),rfl,rfl⟩
 intro db vd
 refine oT Z db (oT Z db (oR Z (zV Z (ZO db.out) Z) (oM Z Z (oN Z (oN Z (oN Z (oR Z (zV Z Z Z) (oM Z Z (oN Z (oN Z (oN Z (oN Z (oN Z (oN Z (oR Z (zV Z Z Z) (oM Z Z (oN Z (oN Z (oN Z (oN Z (oN Z (oN Z (oR Z (zV Z Z Z) (eN (zx Z (sR fL1 Z (oA Z Z (eN (zP (zZ ?_))))))))))))))))))))))))))))))
 have hE:=hM vd;first | subst r | cases hE
 exact ⟨rfl,_,(zj rfl),cZ,_,(cc.pick [] _ (by decide) rfl),rfl,rfl⟩
 intro da ve
 refine oT Z da (oT Z da (oR Z (zV Z (ZO da.out) Z) (oM Z Z (oN Z (oN Z (oR Z (zV Z Z Z) (oM Z Z (oN Z (oN Z (oN Z (oR Z (zV Z Z Z) (oM Z Z (oN Z (oN Z (oN Z (oN Z (oN Z (oN Z (oR Z (zV Z Z Z) (oM Z Z (oN Z (oN Z (oN Z (oN Z (oN Z (oN Z (oR Z (zV Z Z Z) (eN (zx Z (sR fL1 Z (oA Z Z (eN (zP (zZ ?_))))))))))))))))))))))))))))))))))
 have hE:=hM ve;first | subst r | cases hE
 exact ⟨rfl,_,(zj rfl),cZ,_,(cc.pick [] _ (by decide) rfl),rfl,rfl⟩
end Go.Proofs.YtlmekamhphnmjaaGreat
