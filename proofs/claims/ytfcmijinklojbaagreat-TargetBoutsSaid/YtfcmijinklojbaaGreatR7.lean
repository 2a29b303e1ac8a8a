import Derived.Test.YtfcmijinklojbaaGreatR6
import Derived.Test.YtfcmijinklojbaaGreatR5
set_option linter.all false
open List renaming flatMap->hH,length_cons->nE,length_append->nG,length_nil->nH
open Option.some renaming inj->nA
open Go.Value renaming bool->nB
open Bool renaming eq_false_iff->nD
namespace Go.Proofs.YtfcmijinklojbaaGreat
open Go.KL
def gAv:Sch:=.fx 1 (.fl 2 .nil) .stop
def gAw:Sch:=.fx 0 (.fl 1 .nil) .stop
def gAx:Sch:=.fx 0 gAv .stop
def gAy:Sch:=.fl 0 gAv
def gAz:Sch:=.fx 0 (.fl 1 (.fl 2 .nil)) .stop
def gBa:Sch:=.fx 4 (.fl 5 (.fl 6 .nil)) .stop
def gBb:Sch:=.fl 11 (.fl 12 (.fx 13 .nil .stop))
def gBc:Sch:=.fl 0 (.fl 1 (.fx 2 (.fl 3 .nil) .stop))
def gBd:Sch:=.fx 10 gBb .stop
def gBe:Sch:=.fx 9 gBd .stop
def gBf:Sch:=.fx 8 gBd .stop
def gBg:Sch:=.fx 7 gBd .stop
def gBh:Sch:=.fx 5 gBg .stop
def gBi:Sch:=.fx 11 (.fl 12 (.fl 13 (.fx 14 (.fl 15 (.fl 16 .nil)) .stop))) .stop
def gBj:Sch:=.fx 7 gBe (.fx 9 gBg .stop)
def gBk:Sch:=.fx 7 gBf (.fx 8 gBg .stop)
def gBl:Sch:=.fx 3 gBh .stop
def gBm:Sch:=.fx 5 gBj (.fx 9 gBh .stop)
def gBn:Sch:=.fx 5 gBk (.fx 8 gBh .stop)
def gBo:Sch:=.fx 1 gBl .stop
def gBp:Sch:=.fx 3 gBm (.fx 9 gBl .stop)
def gBq:Sch:=.fx 3 gBn (.fx 8 gBl .stop)
set_option maxHeartbeats 4000000
theorem wFN (p0:Unit) (aj:Nat) (p1:Int) (w:World) (U:PHeap) (hS:St0 w U [])  {r:Unit} (hm:wBw p0 p1=some r):Gv Tryz.prog 101 [.pointer (some ⟨aj,0,none⟩),jV p1] w (wCb w [] U (fun U_ L_ v=>∃ (b0:Nat) (b1:Nat) (b2:Nat),v=.func (.func 123) #[] #[.pointer (some ⟨b0,0,none⟩),.pointer (some ⟨b1,0,none⟩),.pointer (some ⟨b2,0,none⟩)]/\L_=[]/\Cl U_ b0 0 [.pointer (some ⟨aj,0,none⟩)]/\Cl U_ b1 0 [.func (.func 57) #[.pointer (some ⟨aj,0,none⟩)] #[]]/\Cl U_ b2 0 [jV p1])):=by
 unfold wBw at hm
 refine Gv.of Tryz.func101 Z Tryz.ntmps101 Tryz.results101 Z (sR gAx Z ?_)
 let B0:List Value:=[.pointer (some ⟨aj,0,none⟩)]
 refine ZI (cs:=B0) rfl rfl rfl rfl rfl rfl (by rfl) hS ?_
 intro W1 b2 bk
 have q:=bk.freeze (k:=0) rfl
 obtain ⟨U5,bs,ah,bn⟩:=q
 replace ah:=Cl.of ah
 have bo:sW w U U5 [] W1:=bn
 replace ah:Cl U5 b2 0 B0:=ah
 refine ZI (cs:=[jV p1]) rfl rfl rfl rfl rfl rfl (by rfl) bo ?_
 intro ba aV bf
 have q:=bf.freeze (k:=0) rfl
 obtain ⟨ap,bp,ab,bg⟩:=q
 replace ab:=Cl.of ab
 have aX:sW w U ap [] ba:=bg
 replace ab:Cl ap aV 0 [jV p1]:=ab
 refine oA Z Z (eN (sR (.fl 0 (.fl 1 (.fx 2 (.fx 3 .nil .stop) .stop))) Z ?_))
 have aW:=ah.le bp
 refine oL Z (aX.ldC (f:=0) aW (v:=.pointer (some ⟨aj,0,none⟩)) Z Z ZK Z) (oR Z (Runs.mkf Z (zB Z zP) zP) (ZE (cs:=[.nilFunc]) Z Z Z Z Z Tryz.zeroValue106 Z aX ?_))
 intro br au bh
 let B1:List Value:=[.func (.func 57) B0.toArray #[]]
 refine Zg (j:=0) (vs:=B1) Z Z Z Z bh Z Z Z Z Tryz.sizeOf106 (zg Z) Z Z Z ?_
 intro aS bi
 have bj:sW w U ap [.blk au 106 B1] aS:=bi
 refine eN (sR fL2 Z ?_)
 have q:=bj.freeze (k:=0) rfl
 obtain ⟨aq,aY,ae,bl⟩:=q
 replace ae:=Cl.of ae
 have bm:sW w U aq [] aS:=bl
 replace ae:Cl aq au 0 B1:=ae
 refine oR Z (Runs.mkf Z zP (zB Z (zB Z (zB Z zP)))) (oA Z Z (eN (zI ?_)))
 have bb:=aW.le aY
 have be:=ab.le aY
 cases hm
 exact ⟨Z,_,(zn Z),aq,_,bm,b2,au,aV,Z,Z,bb,ae,be⟩
theorem wEc (n_:Nat):∀ (p0:Int) (p1:wAF) (bl:Nat) (ah:Nat) (ai:Option Addr) (aj:Nat) (ak:Option Addr) (ap:Nat) (am:Option Addr) (aq:Nat) (ae:Nat) (au:Array MapEntry) (az:Nat) (p2:Unit) (bu:Nat) (w:World) (U:PHeap) (hS:St0 w U [.blk ah 118 ([.slice ai p1.Bout.Shots.length aj,.slice ak p1.Bout.Down.length ap,.slice am p1.Bout.Across.length aq,.map (some ae)] ++ ((hH KL.encI p1.hits.l) ++ ((hH KL.encI p1.used.l) ++ (hH KL.encT p1.met.l)))),.obj ae (.map au az)]) (b8:Cl U bl 0 [.pointer (some ⟨ah,0,none⟩)]) (dN:Sl U 1 ai aj p1.Bout.Shots.length (hH KL.encI p1.Bout.Shots)) (dO:Sl U 1 ak ap p1.Bout.Down.length (hH KL.encI p1.Bout.Down)) (dP:Sl U 2 am aq p1.Bout.Across.length (hH wAA p1.Bout.Across)) (b9:MpR au wDP wDl p1.may) (dQ:Cl U bu 0 [.func (.func 100) #[] #[.pointer (some ⟨bl,0,none⟩),.pointer (some ⟨bu,0,none⟩)]]) {r:Bool × (Arr Int 64 × Arr Int 8 × Arr Bool 16)} (hm:wAS n_ p0 p1 p2=some r),Gv Tryz.prog 100 [jV p0,.pointer (some ⟨bl,0,none⟩),.pointer (some ⟨bu,0,none⟩)] w (wCb w [.blk ah 118 ([.slice ai p1.Bout.Shots.length aj,.slice ak p1.Bout.Down.length ap,.slice am p1.Bout.Across.length aq,.map (some ae)] ++ ((hH KL.encI p1.hits.l) ++ ((hH KL.encI p1.used.l) ++ (hH KL.encT p1.met.l)))),.obj ae (.map au az)] U (fun U_ L_ v=>v=.bool r.1/\L_=[.blk ah 118 ([.slice ai p1.Bout.Shots.length aj,.slice ak p1.Bout.Down.length ap,.slice am p1.Bout.Across.length aq,.map (some ae)] ++ ((hH KL.encI r.2.1.l) ++ ((hH KL.encI r.2.2.1.l) ++ (hH KL.encT r.2.2.2.l)))),.obj ae (.map au az)])):=by
 induction n_ with
 | zero =>
  intros
  rename_i hm
  have gN:(none:Option (Bool × (Arr Int 64 × Arr Int 8 × Arr Bool 16)))=some _:=hm
  cases gN
 | succ n_ ih =>
  intro p0 p1 bl ah ai aj ak ap am aq ae au az p2 bu w U hS b8 dN dO dP b9 dQ r hm
  have hm:wBT (wAS n_) p0 p1 p2=some r:=hm
  unfold wBT at hm
  refine Go.KX.Gv.ofM Tryz.func100 Z Tryz.ntmps100 Tryz.results100 (zg Z) ?_
  have fK:=hS.mks0
  refine sR (.fx 0 (.fx 1 .nil .stop) .stop) rfl (ZI (cs:=[jV p0]) rfl rfl rfl rfl rfl rfl (by rfl) fK ?_)
  intro W5 b6 gp
  refine ZE (cs:=[.bool false]) Z Z Z Z Z Tryz.zeroValue4 Z gp ?_
  intro W9 bm fw
  refine eN (zD (ZP ZL [1,1,3,3,3,3,0] (wSH (.fx 6 .nil .stop)) (by kernel_rfl) ?_))
  have bY:=fw.drew
  generalize hw_W14:({ W9 with drawn:=W9.drawn + 1 }:World)=iy at bY ⊢
  refine zx rfl rfl rfl rfl (bY.ldC (f:=0) b8 (v:=.pointer (some ⟨ah,0,none⟩)) rfl rfl ZK rfl) rfl (zx rfl rfl rfl rfl (bY.ldB (j:=1) rfl rfl rfl zQ (v:=jV p0) rfl) rfl (zX rfl rfl rfl rfl (fun _=>ZH rfl rfl) (zX rfl rfl rfl rfl (fun _=>zU rfl rfl zf rfl Tryz.sizeOf116) (zX rfl rfl rfl rfl (fun _=>ZB (ZT rfl rfl rfl Zr Tryz.sizeOf115 (by decide) (by decide)) rfl) (bnK hm fun _ bh cd=>zX rfl rfl rfl rfl (fun _=>ZT rfl rfl rfl Tryz.runUnderlying115 Zq (wCV bh) (wCW bh)) ?_)))))
  have gF:=Arr.at_ p1.met (k:=(8 + p0.toNat)) (by have hz0:=wAe bh;omega)
  refine Zg (j:=3) (vs:=[.bool true]) (cs':=[.slice ai p1.Bout.Shots.length aj,.slice ak p1.Bout.Down.length ap,.slice am p1.Bout.Across.length aq,.map (some ae)] ++ ((hH KL.encI p1.hits.l) ++ ((hH KL.encI p1.used.l) ++ (hH KL.encT (p1.met.set (8 + p0.toNat) true).l)))) rfl rfl rfl rfl bY rfl ((rfl:ev _ _=.pointer (some ⟨ah,84 + p0.toNat * 1,none⟩)).trans (wDf (by omega))) rfl rfl Zq (by have hz0:=wAe bh;simp only [nG,nE,nH,wAK (f:=KL.encI) (sz:=1) (N:=64) p1.hits (fun _=>rfl) rfl,wAK (f:=KL.encI) (sz:=1) (N:=8) p1.used (fun _=>rfl) rfl,wAK (f:=KL.encT) (sz:=1) (N:=16) p1.met (fun _=>rfl) rfl];omega) rfl (wCS (n:=4) rfl (wCS (n:=64) (wAK (f:=KL.encI) (sz:=1) (N:=64) p1.hits (fun _=>rfl) rfl) (wCS (n:=8) (wAK (f:=KL.encI) (sz:=1) (N:=8) p1.used (fun _=>rfl) rfl) (wRL (sz:=1) (fo:=0) (fun _=>rfl) _ _ _ _ gF (zg rfl) rfl)))) rfl ?_
  intro eh fJ
  let B0:Res:=.blk b6 3 [jV p0]
  let B1:Res:=.blk bm 4 [.bool false]
  have cM:SW w [.blk ah 118 ([.slice ai p1.Bout.Shots.length aj,.slice ak p1.Bout.Down.length ap,.slice am p1.Bout.Across.length aq,.map (some ae)] ++ ((hH KL.encI p1.hits.l) ++ ((hH KL.encI p1.used.l) ++ (hH KL.encT p1.met.l)))),.obj ae (.map au az)] U U [B1,B0,mks [],.blk ah 118 ([.slice ai p1.Bout.Shots.length aj,.slice ak p1.Bout.Down.length ap,.slice am p1.Bout.Across.length aq,.map (some ae)] ++ ((hH KL.encI p1.hits.l) ++ ((hH KL.encI p1.used.l) ++ (hH KL.encT (p1.met.set (8 + p0.toNat) true).l)))),.obj ae (.map au az)] eh:=fJ
  refine eN (zD (sR fL7 Z (oL Z (cM.ldC (f:=0) b8 (v:=.pointer (some ⟨ah,0,none⟩)) Z Z ZK Z) (oR Z (ZH Z Z) (oR Z (zU Z Z zf Z zr) (oR Z (zU Z Z zO Z zS) (oL Z (cM.ldB (j:=3) Z Z Z zY (v:=.slice ai p1.Bout.Shots.length aj) Z) (oR Z (zi Z Z zA) (oM Z Z (eN (zd ?_)))))))))))
  have q:=wBp cd
  obtain ⟨iU,b5⟩:=q
  have q:=wCA b5
  obtain ⟨cQ,gy⟩:=q
  replace cQ:=zE cQ
  refine CK.forND (fun ab (aX,aV,bf) D_ σ_ w_=>∃ (U_:PHeap) (ba:List Nat),D_=List.map Go.KX.mark ba/\σ_ 19=jV (↑ab:Int)/\σ_ 1=.pointer (some ⟨bl,0,none⟩)/\σ_ 2=.pointer (some ⟨bu,0,none⟩)/\σ_ 3=.pointer (some ⟨b6,0,none⟩)/\σ_ 4=.pointer (some ⟨bm,0,none⟩)/\σ_ 18=jV (↑p1.Bout.Shots.length:Int)/\PHeap.Le U U_/\SW w [.blk ah 118 ([.slice ai p1.Bout.Shots.length aj,.slice ak p1.Bout.Down.length ap,.slice am p1.Bout.Across.length aq,.map (some ae)] ++ ((hH KL.encI p1.hits.l) ++ ((hH KL.encI p1.used.l) ++ (hH KL.encT p1.met.l)))),.obj ae (.map au az)] U U_ [B1,B0,mks ba,.blk ah 118 ([.slice ai p1.Bout.Shots.length aj,.slice ak p1.Bout.Down.length ap,.slice am p1.Bout.Across.length aq,.map (some ae)] ++ ((hH KL.encI aX.l) ++ ((hH KL.encI aV.l) ++ (hH KL.encT bf.l)))),.obj ae (.map au az)] w_) gy ?_ ?_ ?_
  ·exact ⟨U,[],Z,Z,Z,Z,Z,Z,Z,(zZ _),cM⟩
  ·rintro ab ⟨aX,aV,bf⟩ i4 D_ i5 iB cP ⟨bU,ba,rfl,bM,bn,cJ,bL,bW,bX,bz,gi⟩ dX dR
   try dsimp only at dX
   have df:Hid ((↑ab:Int) < (↑p1.Bout.Shots.length:Int)):=zE (wBz cP)
   replace cP:=zE cP
   have cO:Hid (w64 ((↑ab:Int) + 1)=(↑(ab + 1):Int)):=zE (by have h1:=cQ.out;have h2:=df.out;rw [wAO] <;> omega)
   refine sR fL1 Z (oR Z (ze Z bM bX) (eN (zD (cT Z df (kN (zD (zd (sR (.fl 0 (.fx 1 (.fx 2 .nil .stop) .stop)) Z (oM Z bM (ZE (cs:=[jV 0]) Z Z Z Z Z Tryz.zeroValue3 Z gi ?_))))))))))
   intro iF aZ gj
   let B2:List Value:=[jV (↑ab:Int)]
   refine Zg (j:=0) (vs:=B2) Z Z Z Z gj Z Z Z Z zN (zg Z) Z Z Z ?_
   intro cA gk
   have gm:SW w [.blk ah 118 ([.slice ai p1.Bout.Shots.length aj,.slice ak p1.Bout.Down.length ap,.slice am p1.Bout.Across.length aq,.map (some ae)] ++ ((hH KL.encI p1.hits.l) ++ ((hH KL.encI p1.used.l) ++ (hH KL.encT p1.met.l)))),.obj ae (.map au az)] U bU [.blk aZ 3 B2,B1,B0,mks ba,.blk ah 118 ([.slice ai p1.Bout.Shots.length aj,.slice ak p1.Bout.Down.length ap,.slice am p1.Bout.Across.length aq,.map (some ae)] ++ ((hH KL.encI aX.l) ++ ((hH KL.encI aV.l) ++ (hH KL.encT bf.l)))),.obj ae (.map au az)] cA:=gk
   refine eN (zD (zD (ZP ZL [1,1,3,3,3,3,1,3,1,1,1,0,3,3] (wPS (.fx 11 (.fl 12 (.fl 13 .nil)) .stop)) (by kernel_rfl) ?_)))
   have bs:=gm.drew
   generalize hw_W69:({ cA with drawn:=cA.drawn + 1 }:World)=cY at bs ⊢
   have cL:=b8.le bz
   refine zx rfl rfl rfl rfl (bs.ldC (f:=0) cL (v:=.pointer (some ⟨ah,0,none⟩)) rfl bn ZK rfl) rfl (zx rfl rfl rfl rfl (bs.ldB (j:=0) rfl rfl rfl zQ (v:=jV (↑ab:Int)) rfl) rfl (zX rfl rfl rfl rfl (fun _=>ZH rfl rfl) (zX rfl rfl rfl rfl (fun _=>zU rfl rfl zf rfl Tryz.sizeOf116) (zX rfl rfl rfl rfl (fun _=>ZB (ZT rfl rfl rfl Zr Tryz.sizeOf115 (by decide) (by decide)) rfl) (bnK dX fun _ aU g7=>zX rfl rfl rfl rfl (fun _=>ZT rfl rfl rfl Tryz.runUnderlying115 Zq (wCV aU) (wCW aU)) ?_)))))
   have gL:=Arr.at_ bf (k:=ab) (by have hz0:=wAe aU;omega)
   refine zx rfl rfl rfl rfl (bs.ldB (j:=4) rfl rfl ((rfl:ev _ _=.pointer (some ⟨ah,76 + ab * 1,none⟩)).trans (wDf (by omega))) Tryz.isAgg4 (wDe (n:=4) rfl (wDe (n:=64) (wAK (f:=KL.encI) (sz:=1) (N:=64) aX (fun _=>rfl) rfl) (wDe (n:=8) (wAK (f:=KL.encI) (sz:=1) (N:=8) aV (fun _=>rfl) rfl) (wRK (sz:=1) (fun _=>rfl) _ _ 0 _ gL rfl))))) rfl (zW rfl rfl rfl rfl rfl rfl (ifc g7 ?_ ?_))
   ·intro bi g8
    refine zL Z Z Z (zF Z Z (congrArg nB bi.out) Z) (zL Z Z Z (zF Z Z (congrArg nB bi.out) Z) (zL Z Z Z (zF Z Z (congrArg nB bi.out) Z) (ZF Z Z Z (zF Z Z (congrArg nB bi.out) Z) (zL Z Z Z (zF Z Z (congrArg nB bi.out) Z) (oR Z (zR Z (congrArg nB bi.out) Z) (eN (zt Z (ZC (zh (zy (zG (rR fL2 Z (oR Z (ZB (zo Z bM Z) (congrArg (jV) cO.out)) (oM Z Z (zq ?_)))))))))))))))
    have q:=nA g8
    obtain rfl:=q
    exact zG ⟨_,rfl,⟨bU,ba,rfl,rfl,bn,cJ,bL,bW,bX,bz,(bs.pick [1,2,3,4,5] _ (by decide) rfl)⟩⟩
   ·intro bi g9
    refine zx Z Z Z (zC Z Z (congrArg nB (nD.2 bi.out))) (bs.ldC (f:=0) cL (v:=.pointer (some ⟨ah,0,none⟩)) Z bn ZK Z) Z (zx Z Z Z (zC Z Z (congrArg nB (nD.2 bi.out))) (bs.ldB (j:=0) Z Z Z zQ (v:=jV (↑ab:Int)) Z) Z (zx Z Z Z (zC Z Z (congrArg nB (nD.2 bi.out))) (bs.ldB (j:=2) Z Z bL zQ (v:=jV p0) Z) Z ?_))
    have dE:=dN.le bz
    have dF:=dO.le bz
    have dG:=dP.le bz
    refine bnK g9 fun x84 ff ib=>?_
    have gq:SW w [.blk ah 118 ([.slice ai p1.Bout.Shots.length aj,.slice ak p1.Bout.Down.length ap,.slice am p1.Bout.Across.length aq,.map (some ae)] ++ ((hH KL.encI p1.hits.l) ++ ((hH KL.encI p1.used.l) ++ (hH KL.encT p1.met.l)))),.obj ae (.map au az)] U bU [.blk ah 118 ([.slice ai p1.Bout.Shots.length aj,.slice ak p1.Bout.Down.length ap,.slice am p1.Bout.Across.length aq,.map (some ae)] ++ ((hH KL.encI aX.l) ++ ((hH KL.encI aV.l) ++ (hH KL.encT bf.l)))),.obj ae (.map au az),.blk aZ 3 B2,B1,B0,mks ba] cY:=bs.pick [4,5,0,1,2,3] _ (by decide) rfl
    refine zK 2 Z Z Z (zC Z Z (congrArg nB (nD.2 bi.out))) (zJ Z Z Tryz.call57 (zB Z (zB Z (zB Z zP))) Z) gq (fun hs=>wCx (⟨p1.Bout,p1.may,aX,aV,bf⟩:wAF) ah ai aj ak ap am aq ae au az (↑ab:Int) p0 cY bU hs dE dF dG b9 ff) (.inl Z) ?_
    rintro bp iu iY cB bE gt ⟨rfl,rfl⟩
    have dM:SW w [.blk ah 118 ([.slice ai p1.Bout.Shots.length aj,.slice ak p1.Bout.Down.length ap,.slice am p1.Bout.Across.length aq,.map (some ae)] ++ ((hH KL.encI p1.hits.l) ++ ((hH KL.encI p1.used.l) ++ (hH KL.encT p1.met.l)))),.obj ae (.map au az)] U bp [.blk ah 118 ([.slice ai p1.Bout.Shots.length aj,.slice ak p1.Bout.Down.length ap,.slice am p1.Bout.Across.length aq,.map (some ae)] ++ ((hH KL.encI aX.l) ++ ((hH KL.encI aV.l) ++ (hH KL.encT bf.l)))),.obj ae (.map au az),.blk aZ 3 B2,B1,B0,mks ba] cB:=gt
    refine zX Z Z Z (zC Z Z (congrArg nB (nD.2 bi.out))) (fun _=>ZQ Z Z) (oR Z (zM Z (congrArg nB (nD.2 bi.out)) Z) (eN (ifc ib ?_ ?_)))
    ·intro cE ic
     refine zp (nC cE.out) (kN (zD (ZP ZL [1,1,3,3,3,3,0] (wSH (.fx 6 .nil .stop)) (by kernel_rfl) ?_)))
     have bZ:=dM.drew
     generalize hw_W98:({ cB with drawn:=cB.drawn + 1 }:World)=iG at bZ ⊢
     have bC:=cL.le bE
     refine zx rfl rfl rfl rfl (bZ.ldC (f:=0) bC (v:=.pointer (some ⟨ah,0,none⟩)) rfl bn ZK rfl) rfl (zx rfl rfl rfl rfl (bZ.ldB (j:=2) rfl rfl rfl zQ (v:=jV (↑ab:Int)) rfl) rfl (zX rfl rfl rfl rfl (fun _=>ZH rfl rfl) (zX rfl rfl rfl rfl (fun _=>zU rfl rfl zf rfl Tryz.sizeOf116) (zX rfl rfl rfl rfl (fun _=>ZB (ZT rfl rfl rfl Zr Tryz.sizeOf115 (by decide) (by decide)) rfl) (zX rfl rfl rfl rfl (fun _=>ZT rfl rfl rfl Tryz.runUnderlying115 Zq (wCV aU) (wCW aU)) ?_)))))
     have gz:=Arr.at_ bf (k:=ab) (by have hz0:=wAe aU;omega)
     refine Zg (j:=0) (vs:=[.bool true]) (cs':=[.slice ai p1.Bout.Shots.length aj,.slice ak p1.Bout.Down.length ap,.slice am p1.Bout.Across.length aq,.map (some ae)] ++ ((hH KL.encI aX.l) ++ ((hH KL.encI aV.l) ++ (hH KL.encT (bf.set ab true).l)))) rfl rfl rfl rfl bZ rfl ((rfl:ev _ _=.pointer (some ⟨ah,76 + ab * 1,none⟩)).trans (wDf (by omega))) rfl rfl Zq (by have hz0:=wAe aU;simp only [nG,nE,nH,wAK (f:=KL.encI) (sz:=1) (N:=64) aX (fun _=>rfl) rfl,wAK (f:=KL.encI) (sz:=1) (N:=8) aV (fun _=>rfl) rfl,wAK (f:=KL.encT) (sz:=1) (N:=16) bf (fun _=>rfl) rfl];omega) rfl (wCS (n:=4) rfl (wCS (n:=64) (wAK (f:=KL.encI) (sz:=1) (N:=64) aX (fun _=>rfl) rfl) (wCS (n:=8) (wAK (f:=KL.encI) (sz:=1) (N:=8) aV (fun _=>rfl) rfl) (wRL (sz:=1) (fo:=0) (fun _=>rfl) _ _ _ _ gz (zg rfl) rfl)))) rfl ?_
     intro ct ft
     have fu:SW w [.blk ah 118 ([.slice ai p1.Bout.Shots.length aj,.slice ak p1.Bout.Down.length ap,.slice am p1.Bout.Across.length aq,.map (some ae)] ++ ((hH KL.encI p1.hits.l) ++ ((hH KL.encI p1.used.l) ++ (hH KL.encT p1.met.l)))),.obj ae (.map au az)] U bp [.blk ah 118 ([.slice ai p1.Bout.Shots.length aj,.slice ak p1.Bout.Down.length ap,.slice am p1.Bout.Across.length aq,.map (some ae)] ++ ((hH KL.encI aX.l) ++ ((hH KL.encI aV.l) ++ (hH KL.encT (bf.set ab true).l)))),.obj ae (.map au az),.blk aZ 3 B2,B1,B0,mks ba] ct:=ft
     refine eN (zD (zD (ZP ZL [1,1,3,3,3,1,1,3,3,3,1,1,3,1,3] fL15 (by kernel_rfl) ?_)))
     have bj:=fu.drew
     generalize hw_W105:({ ct with drawn:=ct.drawn + 1 }:World)=cu at bj ⊢
     refine oL Z (bj.ldC (f:=0) bC (v:=.pointer (some ⟨ah,0,none⟩)) Z bn ZK Z) (oL Z (bj.ldB (j:=2) Z Z Z zQ (v:=jV (↑ab:Int)) Z) (oR Z (ZH Z Z) (oR Z (zU Z Z zf Z Zd) (oR Z (ZT Z Z Z ZO zN (wCV aU) (wCW aU)) ?_))))
     have gA:=Arr.at_ aV (k:=ab) (by have hz0:=wAe aU;omega)
     refine zx rfl rfl rfl rfl (bj.ldB (j:=0) rfl rfl ((rfl:ev _ _=.pointer (some ⟨ah,68 + ab * 1,none⟩)).trans (wDf (by omega))) zQ (wDe (n:=4) rfl (wDe (n:=64) (wAK (f:=KL.encI) (sz:=1) (N:=64) aX (fun _=>rfl) rfl) (wHg (sz:=1) (fun _=>rfl) _ _ 0 _ gA rfl)))) rfl (zx rfl rfl rfl rfl (bj.ldC (f:=0) bC (v:=.pointer (some ⟨ah,0,none⟩)) rfl bn ZK rfl) rfl (zX rfl rfl rfl rfl (fun _=>ZH rfl rfl) (zX rfl rfl rfl rfl (fun _=>zU rfl rfl zf rfl zr) (zX rfl rfl rfl rfl (fun _=>zU rfl rfl zO rfl zS) (zx rfl rfl rfl rfl (bj.ldB (j:=0) rfl rfl rfl zY (v:=.slice ai p1.Bout.Shots.length aj) rfl) rfl (zx rfl rfl rfl rfl (bj.ldB (j:=2) rfl rfl rfl zQ (v:=jV (↑ab:Int)) rfl) rfl (bnK ic fun io dx gO=>?_)))))))
     have dy:=dE.le bE
     have q:=dy.el (fun _=>rfl) (wAN dx)
     obtain ⟨iH,iP,fg,fh⟩:=q
     refine oR Z (zu Z Z fg Z zA zN (wBP dx)) (oL Z (bj.ldC (f:=0) fh (v:=jV io) Z Z zQ Z) (oR Z (ze Z Z Z) (eN (ifc gO ?_ ?_))))
     ·intro cC gP
      refine cT Z cC (zD (CK.fresh fun cn bP=>?_))
      have dg:cn 1=.pointer (some ⟨bl,0,none⟩):=(bP 1).trans bn
      have eD:cn 3=.pointer (some ⟨b6,0,none⟩):=(bP 3).trans bL
      have dh:cn 4=.pointer (some ⟨bm,0,none⟩):=(bP 4).trans bW
      have dk:cn 5=.pointer (some ⟨aZ,0,none⟩):=(bP 5).trans rfl
      clear bP
      refine ZP ZL [1,1,3,3,3,1,3,3,3,3,0] (fC0_9 (.fx 10 .nil .stop)) (by kernel_rfl) ?_
      have bN:=bj.drew
      generalize hw_W124:({ cu with drawn:=cu.drawn + 1 }:World)=iv at bN ⊢
      refine oL Z (bN.ldC (f:=0) bC (v:=.pointer (some ⟨ah,0,none⟩)) Z dg ZK Z) (oL Z (bN.ldB (j:=2) Z Z dk zQ (v:=jV (↑ab:Int)) Z) (oR Z (ZH Z Z) (oR Z (zU Z Z zf Z Zd) (oR Z (ZT Z Z Z ZO zN (wCV aU) (wCW aU)) ?_))))
      have gB:=Arr.at_ aV (k:=ab) (by have hz0:=wAe aU;omega)
      refine zx rfl rfl rfl rfl (bN.ldB (j:=0) rfl rfl ((rfl:ev _ _=.pointer (some ⟨ah,68 + ab * 1,none⟩)).trans (wDf (by omega))) zQ (wDe (n:=4) rfl (wDe (n:=64) (wAK (f:=KL.encI) (sz:=1) (N:=64) aX (fun _=>rfl) rfl) (wHg (sz:=1) (fun _=>rfl) _ _ 0 _ gB rfl)))) rfl (zX rfl rfl rfl rfl (fun _=>zo rfl rfl rfl) (zX rfl rfl rfl rfl (fun _=>ZH rfl rfl) (zX rfl rfl rfl rfl (fun _=>zU rfl rfl zf rfl Zd) (zX rfl rfl rfl rfl (fun _=>ZT rfl rfl rfl ZO zN (wCV aU) (wCW aU)) ?_))))
      have gC:=Arr.at_ aV (k:=ab) (by have hz0:=wAe aU;omega)
      refine Zg (j:=0) (vs:=[jV (w64 ((aV.get ab) + 1))]) (cs':=[.slice ai p1.Bout.Shots.length aj,.slice ak p1.Bout.Down.length ap,.slice am p1.Bout.Across.length aq,.map (some ae)] ++ ((hH KL.encI aX.l) ++ ((hH KL.encI (aV.set ab (w64 ((aV.get ab) + 1))).l) ++ (hH KL.encT (bf.set ab true).l)))) rfl rfl rfl rfl bN rfl ((rfl:ev _ _=.pointer (some ⟨ah,68 + ab * 1,none⟩)).trans (wDf (by omega))) rfl rfl zN (by have hz0:=wAe aU;simp only [nG,nE,nH,wAK (f:=KL.encI) (sz:=1) (N:=64) aX (fun _=>rfl) rfl,wAK (f:=KL.encI) (sz:=1) (N:=8) aV (fun _=>rfl) rfl,wAK (f:=KL.encT) (sz:=1) (N:=16) (bf.set ab true) (fun _=>rfl) rfl];omega) rfl (wCS (n:=4) rfl (wCS (n:=64) (wAK (f:=KL.encI) (sz:=1) (N:=64) aX (fun _=>rfl) rfl) (wKO (sz:=1) (fo:=0) (fun _=>rfl) _ _ _ _ gC (zg rfl) rfl))) rfl ?_
      intro cw fy
      have fz:SW w [.blk ah 118 ([.slice ai p1.Bout.Shots.length aj,.slice ak p1.Bout.Down.length ap,.slice am p1.Bout.Across.length aq,.map (some ae)] ++ ((hH KL.encI p1.hits.l) ++ ((hH KL.encI p1.used.l) ++ (hH KL.encT p1.met.l)))),.obj ae (.map au az)] U bp [.blk ah 118 ([.slice ai p1.Bout.Shots.length aj,.slice ak p1.Bout.Down.length ap,.slice am p1.Bout.Across.length aq,.map (some ae)] ++ ((hH KL.encI aX.l) ++ ((hH KL.encI (aV.set ab (w64 ((aV.get ab) + 1))).l) ++ (hH KL.encT (bf.set ab true).l)))),.obj ae (.map au az),.blk aZ 3 B2,B1,B0,mks ba] cw:=fy
      refine eN (zD (ZP ZL [1,1,1,3,3,3,3,1,3,3,3,3,3,0] (wHy (.fx 13 .nil .stop)) (by kernel_rfl) ?_))
      have bG:=fz.drew
      generalize hw_W131:({ cw with drawn:=cw.drawn + 1 }:World)=iw at bG ⊢
      refine oL Z (bG.ldC (f:=0) bC (v:=.pointer (some ⟨ah,0,none⟩)) Z dg ZK Z) (oL Z (bG.ldB (j:=2) Z Z dk zQ (v:=jV (↑ab:Int)) Z) (oL Z (bG.ldB (j:=4) Z Z eD zQ (v:=jV p0) Z) (oR Z (ZH Z Z) (oR Z (zU Z Z zf Z Zp) (oR Z (ZT Z Z Z Za Zd (wCV aU) (wCW aU)) (oR Z (ZT Z Z Z ZO zN (wCV bh) (wCW bh)) ?_))))))
      have gD:=Arr.at_ aX (k:=(ab * 8 + p0.toNat)) (by have hz0:=wAe aU;have hz1:=wAe bh;omega)
      refine zx rfl rfl rfl rfl (bG.ldB (j:=0) rfl rfl ((rfl:ev _ _=.pointer (some ⟨ah,4 + ab * 8 + p0.toNat * 1,none⟩)).trans (wDf (by omega))) zQ (wDe (n:=4) rfl (wHg (sz:=1) (fun _=>rfl) _ _ 0 _ gD rfl))) rfl (zX rfl rfl rfl rfl (fun _=>zo rfl rfl rfl) (zX rfl rfl rfl rfl (fun _=>ZH rfl rfl) (zX rfl rfl rfl rfl (fun _=>zU rfl rfl zf rfl Zp) (zX rfl rfl rfl rfl (fun _=>ZT rfl rfl rfl Za Zd (wCV aU) (wCW aU)) (zX rfl rfl rfl rfl (fun _=>ZT rfl rfl rfl ZO zN (wCV bh) (wCW bh)) ?_)))))
      have gE:=Arr.at_ aX (k:=(ab * 8 + p0.toNat)) (by have hz0:=wAe aU;have hz1:=wAe bh;omega)
      refine Zg (j:=0) (vs:=[jV (w64 ((aX.get (ab * 8 + p0.toNat)) + 1))]) (cs':=[.slice ai p1.Bout.Shots.length aj,.slice ak p1.Bout.Down.length ap,.slice am p1.Bout.Across.length aq,.map (some ae)] ++ ((hH KL.encI (aX.set (ab * 8 + p0.toNat) (w64 ((aX.get (ab * 8 + p0.toNat)) + 1))).l) ++ ((hH KL.encI (aV.set ab (w64 ((aV.get ab) + 1))).l) ++ (hH KL.encT (bf.set ab true).l)))) rfl rfl rfl rfl bG rfl ((rfl:ev _ _=.pointer (some ⟨ah,4 + ab * 8 + p0.toNat * 1,none⟩)).trans (wDf (by omega))) rfl rfl zN (by have hz0:=wAe aU;have hz1:=wAe bh;simp only [nG,nE,nH,wAK (f:=KL.encI) (sz:=1) (N:=64) aX (fun _=>rfl) rfl,wAK (f:=KL.encI) (sz:=1) (N:=8) (aV.set ab (w64 ((aV.get ab) + 1))) (fun _=>rfl) rfl,wAK (f:=KL.encT) (sz:=1) (N:=16) (bf.set ab true) (fun _=>rfl) rfl];omega) rfl (wCS (n:=4) rfl (wKO (sz:=1) (fo:=0) (fun _=>rfl) _ _ _ _ gE (zg rfl) rfl)) rfl ?_
      intro d9 fA
      have fB:SW w [.blk ah 118 ([.slice ai p1.Bout.Shots.length aj,.slice ak p1.Bout.Down.length ap,.slice am p1.Bout.Across.length aq,.map (some ae)] ++ ((hH KL.encI p1.hits.l) ++ ((hH KL.encI p1.used.l) ++ (hH KL.encT p1.met.l)))),.obj ae (.map au az)] U bp [.blk ah 118 ([.slice ai p1.Bout.Shots.length aj,.slice ak p1.Bout.Down.length ap,.slice am p1.Bout.Across.length aq,.map (some ae)] ++ ((hH KL.encI (aX.set (ab * 8 + p0.toNat) (w64 ((aX.get (ab * 8 + p0.toNat)) + 1))).l) ++ ((hH KL.encI (aV.set ab (w64 ((aV.get ab) + 1))).l) ++ (hH KL.encT (bf.set ab true).l)))),.obj ae (.map au az),.blk aZ 3 B2,B1,B0,mks ba] d9:=fA
      refine eN (sR (.fx 0 .nil .stop) Z (Zg (j:=3) (vs:=[.bool true]) Z Z Z Z fB Z dh Z Z Zq (zg Z) Z Z Z ?_))
      intro eb fC
      let B3:Res:=.blk bm 4 [.bool true]
      have fD:SW w [.blk ah 118 ([.slice ai p1.Bout.Shots.length aj,.slice ak p1.Bout.Down.length ap,.slice am p1.Bout.Across.length aq,.map (some ae)] ++ ((hH KL.encI p1.hits.l) ++ ((hH KL.encI p1.used.l) ++ (hH KL.encT p1.met.l)))),.obj ae (.map au az)] U bp [.blk ah 118 ([.slice ai p1.Bout.Shots.length aj,.slice ak p1.Bout.Down.length ap,.slice am p1.Bout.Across.length aq,.map (some ae)] ++ ((hH KL.encI (aX.set (ab * 8 + p0.toNat) (w64 ((aX.get (ab * 8 + p0.toNat)) + 1))).l) ++ ((hH KL.encI (aV.set ab (w64 ((aV.get ab) + 1))).l) ++ (hH KL.encT (bf.set ab true).l)))),.obj ae (.map au az),.blk aZ 3 B2,B3,B0,mks ba] eb:=fC
      refine eN (zI (zH (zV (zH ?_))))
      have q:=wAI gP
      obtain ⟨ij,gQ,eA⟩:=q
      have q:=wBI cd b5 (dR ij eA)
      obtain rfl:=q
      refine zH (zV (zH (wIJ (by first | exact .inl rfl | exact .inr rfl) (rbs:=ba) (L:=[.blk ah 118 ([.slice ai p1.Bout.Shots.length aj,.slice ak p1.Bout.Down.length ap,.slice am p1.Bout.Across.length aq,.map (some ae)] ++ ((hH KL.encI (aX.set (ab * 8 + p0.toNat) (w64 ((aX.get (ab * 8 + p0.toNat)) + 1))).l) ++ ((hH KL.encI (aV.set ab (w64 ((aV.get ab) + 1))).l) ++ (hH KL.encT (bf.set ab true).l)))),.obj ae (.map au az),.blk aZ 3 B2,B3,B0]) (fD.pick [5,0,1,2,3,4] _ (by decide) rfl) fun ed fE=>?_)))
      have dH:SW w [.blk ah 118 ([.slice ai p1.Bout.Shots.length aj,.slice ak p1.Bout.Down.length ap,.slice am p1.Bout.Across.length aq,.map (some ae)] ++ ((hH KL.encI p1.hits.l) ++ ((hH KL.encI p1.used.l) ++ (hH KL.encT p1.met.l)))),.obj ae (.map au az)] U bp [.blk ah 118 ([.slice ai p1.Bout.Shots.length aj,.slice ak p1.Bout.Down.length ap,.slice am p1.Bout.Across.length aq,.map (some ae)] ++ ((hH KL.encI (aX.set (ab * 8 + p0.toNat) (w64 ((aX.get (ab * 8 + p0.toNat)) + 1))).l) ++ ((hH KL.encI (aV.set ab (w64 ((aV.get ab) + 1))).l) ++ (hH KL.encT (bf.set ab true).l)))),.obj ae (.map au az),.blk aZ 3 B2,B3,B0] ed:=fE
      cases gQ
      exact ⟨_,(wKx (v:=.bool true) ⟨⟨_,dh,(wPY Tryz.isAgg4 (dH.blkAt (k:=3) rfl) rfl)⟩,trivial⟩),bp,_,(dH.pick [0,1] _ (by decide) rfl),rfl,rfl⟩
     ·intro cC gR
      refine cF Z cC (kN (sR (.fl 0 (.fl 1 (.fx 2 .nil .stop))) Z (oL Z (bj.ldC (f:=0) bC (v:=.pointer (some ⟨ah,0,none⟩)) Z bn ZK Z) (oL Z (bj.ldB (j:=2) Z Z Z zQ (v:=jV (↑ab:Int)) Z) ?_))))
      have q:=bnd gR
      obtain ⟨⟨⟩,eQ,dS⟩:=q
      try dsimp only at dS
      refine zK 0 Z Z Z Z (zJ Z Z Tryz.call101 (zB Z (zB Z zP)) Z) bj (fun hs=>wFN () ah (↑ab:Int) cu bp hs eQ) (.inr Z) ?_
      rintro cW ip iW ef bI fG ⟨da,db,de,rfl,rfl,eR,eS,eT⟩
      have fH:SW w [.blk ah 118 ([.slice ai p1.Bout.Shots.length aj,.slice ak p1.Bout.Down.length ap,.slice am p1.Bout.Across.length aq,.map (some ae)] ++ ((hH KL.encI p1.hits.l) ++ ((hH KL.encI p1.used.l) ++ (hH KL.encT p1.met.l)))),.obj ae (.map au az)] U cW [.blk ah 118 ([.slice ai p1.Bout.Shots.length aj,.slice ak p1.Bout.Down.length ap,.slice am p1.Bout.Across.length aq,.map (some ae)] ++ ((hH KL.encI aX.l) ++ ((hH KL.encI aV.l) ++ (hH KL.encT (bf.set ab true).l)))),.obj ae (.map au az),.blk aZ 3 B2,B1,B0,mks ba] ef:=fG
      refine eN (zd (CK.fresh fun bw bt=>?_))
      have dm:bw 1=.pointer (some ⟨bl,0,none⟩):=(bt 1).trans bn
      have dp:bw 2=.pointer (some ⟨bu,0,none⟩):=(bt 2).trans cJ
      have dq:bw 3=.pointer (some ⟨b6,0,none⟩):=(bt 3).trans bL
      have cG:bw 4=.pointer (some ⟨bm,0,none⟩):=(bt 4).trans bW
      have eE:bw 5=.pointer (some ⟨aZ,0,none⟩):=(bt 5).trans rfl
      have dr:bw 18=jV (↑p1.Bout.Shots.length:Int):=(bt 18).trans bX
      have dt:bw 19=jV (↑ab:Int):=(bt 19).trans bM
      have eF:bw 82=.func (.func 123) #[] #[.pointer (some ⟨da,0,none⟩),.pointer (some ⟨db,0,none⟩),.pointer (some ⟨de,0,none⟩)]:=(bt 82).trans rfl
      clear bt
      refine bnK dS fun dZ gM cf=>?_
      have dz:=dy.le bI
      have eU:=dF.le bE
      have dA:=eU.le bI
      have eV:=dG.le bE
      have dB:=eV.le bI
      refine CK.rangeYV (fun U_ L_=>∃ (i_ j_:Nat) (a0_:Arr Int 64) (a1_:Arr Int 8) (a2_:Arr Bool 16),L_[i_]?=some (.blk ah 118 ([.slice ai p1.Bout.Shots.length aj,.slice ak p1.Bout.Down.length ap,.slice am p1.Bout.Across.length aq,.map (some ae)] ++ ((hH KL.encI a0_.l) ++ ((hH KL.encI a1_.l) ++ (hH KL.encT a2_.l)))))/\L_[j_]?=some (.obj ae (.map au az))) (by rintro _ _ _ ⟨i,j,a0,a1,a2,hi,hj⟩;exact ⟨i + 1,j + 1,a0,a1,a2,hi,hj⟩) (S:=(Arr Int 64) × (Arr Int 8) × (Arr Bool 16)) (E:=(Arr Int 64) × (Arr Int 8) × (Arr Bool 16) × Bool) (ar:=wJx) (PY:=(fun (s_:(Arr Int 64) × (Arr Int 8) × (Arr Bool 16)) (U_:PHeap) (L_:List Res)=>match s_ with | (a303,a304,a305)=>L_=[.blk ah 118 ([.slice ai p1.Bout.Shots.length aj,.slice ak p1.Bout.Down.length ap,.slice am p1.Bout.Across.length aq,.map (some ae)] ++ ((hH KL.encI a303.l) ++ ((hH KL.encI a304.l) ++ (hH KL.encT a305.l)))),.obj ae (.map au az),.blk aZ 3 [jV (↑ab:Int)],B1,B0,mks ba])) (PE:=(fun (s_:(Arr Int 64) × (Arr Int 8) × (Arr Bool 16) × Bool) (U_:PHeap) (L_:List Res)=>match s_ with | (a314,a315,a316,b317)=>L_=[.blk ah 118 ([.slice ai p1.Bout.Shots.length aj,.slice ak p1.Bout.Down.length ap,.slice am p1.Bout.Across.length aq,.map (some ae)] ++ ((hH KL.encI a314.l) ++ ((hH KL.encI a315.l) ++ (hH KL.encT a316.l)))),.obj ae (.map au az),.blk aZ 3 [jV (↑ab:Int)],.blk bm 4 [.bool b317],B0,mks ba])) (exO:=(fun _=>.ret)) (s0:=(aX,aV,(bf.set ab true))) (rr:=dZ) eF Tryz.call123 fH (by decide) (fun _ _ _ h=>by obtain rfl:=h;rfl) (fun _=>.inl rfl) rfl (by rintro ⟨a303,a304,a305⟩ _ _ rfl;exact ⟨0,1,a303,a304,a305,rfl,rfl⟩) (fun l w1 L1 PY' PE' fq fj gv gu=>wEb PY' PE' _ l _ (⟨p1.Bout,p1.may,aX,aV,(bf.set ab true)⟩:wAF) da ah ai aj ak ap am aq ae au az () db (↑ab:Int) de w1 L1 cW fq fj gv gu eR dz dA dB b9 eS eT gM) ?_ ?_
      ·rintro bD iV iN ⟨a303,a304,a305⟩ aW iZ iQ cg iq im ii bA bR fL fm gw cN bv bk
       obtain rfl:=fm
       obtain rfl:=gw
       replace bk:∀ t,bv t=upd bw 83 (jV aW) t:=bk
       have eG:bv 83=jV aW:=(bk 83).trans (wCk _ _ _)
       have cH:bv 1=.pointer (some ⟨bl,0,none⟩):=(bk 1).trans ((wCh _ _ (by decide)).trans dm)
       have eH:bv 2=.pointer (some ⟨bu,0,none⟩):=(bk 2).trans ((wCh _ _ (by decide)).trans dp)
       have du:bv 3=.pointer (some ⟨b6,0,none⟩):=(bk 3).trans ((wCh _ _ (by decide)).trans dq)
       have eI:bv 4=.pointer (some ⟨bm,0,none⟩):=(bk 4).trans ((wCh _ _ (by decide)).trans cG)
       have cI:bv 5=.pointer (some ⟨aZ,0,none⟩):=(bk 5).trans ((wCh _ _ (by decide)).trans eE)
       have iI:bv 18=jV (↑p1.Bout.Shots.length:Int):=(bk 18).trans ((wCh _ _ (by decide)).trans dr)
       have iJ:bv 19=jV (↑ab:Int):=(bk 19).trans ((wCh _ _ (by decide)).trans dt)
       clear bk
       have fM:St bA cg [.obj bD ii,.blk ah 118 ([.slice ai p1.Bout.Shots.length aj,.slice ak p1.Bout.Down.length ap,.slice am p1.Bout.Across.length aq,.map (some ae)] ++ ((hH KL.encI a303.l) ++ ((hH KL.encI a304.l) ++ (hH KL.encT a305.l)))),.obj ae (.map au az),.blk aZ 3 B2,B1,B0,mks ba] im:=fL
       try dsimp only at cN
       refine rR fL1 Z (oA Z eG (zq ⟨Z,Z,_,_,fM,fun cx bJ fN=>?_⟩))
       have fO:St bA cg [.obj bD bJ,.blk ah 118 ([.slice ai p1.Bout.Shots.length aj,.slice ak p1.Bout.Down.length ap,.slice am p1.Bout.Across.length aq,.map (some ae)] ++ ((hH KL.encI a303.l) ++ ((hH KL.encI a304.l) ++ (hH KL.encT a305.l)))),.obj ae (.map au az),.blk aZ 3 B2,B1,B0,mks ba] cx:=fN
       refine zd (zD (ZP ZL [3,1,3,3,1,1,3,3,3,3,3,1,3,3,3,1,3,0,3] (wNt (.fx 17 (.fl 18 .nil) .stop)) (by kernel_rfl) ?_))
       have br:=fO.drew
       generalize hw_W362:({ cx with drawn:=cx.drawn + 1 }:World)=cX at br ⊢
       refine oM Z Z (oL Z (br.ldB (j:=5) Z Z du zQ (v:=jV p0) Z) (oR Z (zw Z Z Z) (oM Z Z ?_)))
       by_cases bb:aW=p0
       ·have dT:=cN;rw [if_pos bb] at dT;replace bb:=zE bb
        refine zL Z Z Z (zF Z Z (zk (fun h=>h bb.out)) Z) (zL Z Z Z (zF Z Z (zk (fun h=>h bb.out)) Z) (zL Z Z Z (zF Z Z (zk (fun h=>h bb.out)) Z) (zL Z Z Z (zF Z Z (zk (fun h=>h bb.out)) Z) (zL Z Z Z (zF Z Z (zk (fun h=>h bb.out)) Z) (zL Z Z Z (zF Z Z (zk (fun h=>h bb.out)) Z) (zL Z Z Z (zF Z Z (zk (fun h=>h bb.out)) Z) (zL Z Z Z (zF Z Z (zk (fun h=>h bb.out)) Z) (zL Z Z Z (zF Z Z (zk (fun h=>h bb.out)) Z) (oR Z (zM Z (zk (fun h=>h bb.out)) Z) (oM Z Z (oN Z (oN Z (ZF Z Z Z (zF Z Z Z Z) (oR Z (zM Z Z Z) (eN (zp Z (ZG (zj ?_))))))))))))))))))
        have q:=nA dT
        obtain rfl:=q
        exact ⟨_,_,br,Z,Z⟩
       ·have dU:=cN;rw [if_neg bb] at dU;replace bb:=zE bb
        have eW:=bC.le bI
        have cK:=eW.le bR
        refine zx Z Z Z (wT Z bb) (br.ldC (f:=0) cK (v:=.pointer (some ⟨ah,0,none⟩)) Z cH ZK Z) Z (zx Z Z Z (wT Z bb) (br.ldB (j:=3) Z Z cI zQ (v:=jV (↑ab:Int)) Z) Z (zW Z Z Z (wT Z bb) Z Z (rU Z (wT Z bb) (ZH Z Z) (rU Z (wT Z bb) (zU Z Z zf Z Zp) (rU Z (wT Z bb) (ZT Z Z Z Za Zd (wCV aU) (wCW aU)) (bnK dU fun _ bo gS=>rU Z (wT Z bb) (ZT Z Z Z ZO zN (wCV bo) (wCW bo)) ?_))))))
        have gG:=Arr.at_ a303 (k:=(ab * 8 + aW.toNat)) (by have hz0:=wAe aU;have hz1:=wAe bo;omega)
        refine zx rfl rfl rfl (zC rfl rfl (ZX bb.out)) (br.ldB (j:=1) rfl rfl ((rfl:ev _ _=.pointer (some ⟨ah,4 + ab * 8 + aW.toNat * 1,none⟩)).trans (wDf (by omega))) zQ (wDe (n:=4) rfl (wHg (sz:=1) (fun _=>rfl) _ _ 0 _ gG rfl))) rfl (zX rfl rfl rfl (zC rfl rfl (ZX bb.out)) (fun _=>ZR rfl rfl rfl) (zX rfl rfl rfl rfl (fun _=>zR rfl (ZX bb.out) rfl) (zW rfl rfl rfl rfl rfl rfl (ifc gS ?_ ?_))))
        ·intro bq gT
         have eX:=dQ.le bz
         have eY:=eX.le bE
         have eZ:=eY.le bI
         have dC:=eZ.le bR
         refine zx Z Z Z (wT Z bq) (br.ldC (f:=0) dC (v:=.func (.func 100) #[] #[.pointer (some ⟨bl,0,none⟩),.pointer (some ⟨bu,0,none⟩)]) Z eH Tryz.isAgg98 Z) Z (zW Z Z Z (wT Z bq) Z Z ?_)
         have fb:=dz.le bR
         have fc:=dA.le bR
         have fd:=dB.le bR
         have q:=bnd gT
         obtain ⟨⟨i0,aS⟩,fe,dV⟩:=q
         try dsimp only at dV
         have fP:St bA cg [.blk ah 118 ([.slice ai p1.Bout.Shots.length aj,.slice ak p1.Bout.Down.length ap,.slice am p1.Bout.Across.length aq,.map (some ae)] ++ ((hH KL.encI a303.l) ++ ((hH KL.encI a304.l) ++ (hH KL.encT a305.l)))),.obj ae (.map au az),.obj bD bJ,.blk aZ 3 B2,B1,B0,mks ba] cX:=br.pick [1,2,0,3,4,5,6] _ (by decide) rfl
         refine zK 2 Z Z Z (wT Z bq) (zJ Z Z Tryz.call100 (zB Z zP) Z) fP (fun hs=>ih aW (⟨p1.Bout,p1.may,a303,a304,a305⟩:wAF) bl ah ai aj ak ap am aq ae au az () bu cX cg hs cK fb fc fd b9 dC fe) (.inl Z) ?_
         rintro bT ir iX cy ie fQ ⟨rfl,rfl⟩
         have dI:St bA bT [.blk ah 118 ([.slice ai p1.Bout.Shots.length aj,.slice ak p1.Bout.Down.length ap,.slice am p1.Bout.Across.length aq,.map (some ae)] ++ ((hH KL.encI aS.1.l) ++ ((hH KL.encI aS.2.1.l) ++ (hH KL.encT aS.2.2.l)))),.obj ae (.map au az),.obj bD bJ,.blk aZ 3 B2,B1,B0,mks ba] cy:=fQ
         refine oR Z (zR Z (ZX bq.out) Z) (eN (ifc dV ?_ ?_))
         ·intro cD gU
          refine zt (congrArg nB cD.out) (zD (ZP ZL [1,1,3,3,3,3,3,1,3,3,3,3,3,0] (wHy (.fx 13 .nil .stop)) (by kernel_rfl) ?_))
          have bO:=dI.drew
          generalize hw_W398:({ cy with drawn:=cy.drawn + 1 }:World)=iz at bO ⊢
          have dD:=cK.le ie
          refine oL Z (bO.ldC (f:=0) dD (v:=.pointer (some ⟨ah,0,none⟩)) Z cH ZK Z) (oL Z (bO.ldB (j:=3) Z Z cI zQ (v:=jV (↑ab:Int)) Z) (oM Z Z (oR Z (ZH Z Z) (oR Z (zU Z Z zf Z Zp) (oR Z (ZT Z Z Z Za Zd (wCV aU) (wCW aU)) (oR Z (ZT Z Z Z ZO zN (wCV bo) (wCW bo)) ?_))))))
          have gH:=Arr.at_ aS.1 (k:=(ab * 8 + aW.toNat)) (by have hz0:=wAe aU;have hz1:=wAe bo;omega)
          refine zx rfl rfl rfl rfl (bO.ldB (j:=0) rfl rfl ((rfl:ev _ _=.pointer (some ⟨ah,4 + ab * 8 + aW.toNat * 1,none⟩)).trans (wDf (by omega))) zQ (wDe (n:=4) rfl (wHg (sz:=1) (fun _=>rfl) _ _ 0 _ gH rfl))) rfl (zX rfl rfl rfl rfl (fun _=>ZY rfl rfl rfl) (zX rfl rfl rfl rfl (fun _=>ZH rfl rfl) (zX rfl rfl rfl rfl (fun _=>zU rfl rfl zf rfl Zp) (zX rfl rfl rfl rfl (fun _=>ZT rfl rfl rfl Za Zd (wCV aU) (wCW aU)) (zX rfl rfl rfl rfl (fun _=>ZT rfl rfl rfl ZO zN (wCV bo) (wCW bo)) ?_)))))
          have gI:=Arr.at_ aS.1 (k:=(ab * 8 + aW.toNat)) (by have hz0:=wAe aU;have hz1:=wAe bo;omega)
          refine Zg (j:=0) (vs:=[jV (w64 ((aS.1.get (ab * 8 + aW.toNat)) - 1))]) (cs':=[.slice ai p1.Bout.Shots.length aj,.slice ak p1.Bout.Down.length ap,.slice am p1.Bout.Across.length aq,.map (some ae)] ++ ((hH KL.encI (aS.1.set (ab * 8 + aW.toNat) (w64 ((aS.1.get (ab * 8 + aW.toNat)) - 1))).l) ++ ((hH KL.encI aS.2.1.l) ++ (hH KL.encT aS.2.2.l)))) rfl rfl rfl rfl bO rfl ((rfl:ev _ _=.pointer (some ⟨ah,4 + ab * 8 + aW.toNat * 1,none⟩)).trans (wDf (by omega))) rfl rfl zN (by have hz0:=wAe aU;have hz1:=wAe bo;simp only [nG,nE,nH,wAK (f:=KL.encI) (sz:=1) (N:=64) aS.1 (fun _=>rfl) rfl,wAK (f:=KL.encI) (sz:=1) (N:=8) aS.2.1 (fun _=>rfl) rfl,wAK (f:=KL.encT) (sz:=1) (N:=16) aS.2.2 (fun _=>rfl) rfl];omega) rfl (wCS (n:=4) rfl (wKO (sz:=1) (fo:=0) (fun _=>rfl) _ _ _ _ gI (zg rfl) rfl)) rfl ?_
          intro cz fR
          have fS:St bA bT [.blk ah 118 ([.slice ai p1.Bout.Shots.length aj,.slice ak p1.Bout.Down.length ap,.slice am p1.Bout.Across.length aq,.map (some ae)] ++ ((hH KL.encI (aS.1.set (ab * 8 + aW.toNat) (w64 ((aS.1.get (ab * 8 + aW.toNat)) - 1))).l) ++ ((hH KL.encI aS.2.1.l) ++ (hH KL.encT aS.2.2.l)))),.obj ae (.map au az),.obj bD bJ,.blk aZ 3 B2,B1,B0,mks ba] cz:=fR
          refine eN (zD (CK.fresh fun cp bQ=>?_))
          have eJ:cp 1=.pointer (some ⟨bl,0,none⟩):=(bQ 1).trans cH
          have eK:cp 3=.pointer (some ⟨b6,0,none⟩):=(bQ 3).trans du
          have eL:cp 4=.pointer (some ⟨bm,0,none⟩):=(bQ 4).trans eI
          have eM:cp 5=.pointer (some ⟨aZ,0,none⟩):=(bQ 5).trans cI
          clear bQ
          refine ZP ZL [1,1,1,3,3,3,3,1,3,3,3,3,3,0] (wHy (.fx 13 .nil .stop)) (by kernel_rfl) ?_
          have bH:=fS.drew
          generalize hw_W412:({ cz with drawn:=cz.drawn + 1 }:World)=iA at bH ⊢
          refine oL Z (bH.ldC (f:=0) dD (v:=.pointer (some ⟨ah,0,none⟩)) Z eJ ZK Z) (oL Z (bH.ldB (j:=3) Z Z eM zQ (v:=jV (↑ab:Int)) Z) (oL Z (bH.ldB (j:=5) Z Z eK zQ (v:=jV p0) Z) (oR Z (ZH Z Z) (oR Z (zU Z Z zf Z Zp) (oR Z (ZT Z Z Z Za Zd (wCV aU) (wCW aU)) (oR Z (ZT Z Z Z ZO zN (wCV bh) (wCW bh)) ?_))))))
          have gJ:=Arr.at_ (aS.1.set (ab * 8 + aW.toNat) (w64 ((aS.1.get (ab * 8 + aW.toNat)) - 1))) (k:=(ab * 8 + p0.toNat)) (by have hz0:=wAe aU;have hz1:=wAe bh;omega)
          refine zx rfl rfl rfl rfl (bH.ldB (j:=0) rfl rfl ((rfl:ev _ _=.pointer (some ⟨ah,4 + ab * 8 + p0.toNat * 1,none⟩)).trans (wDf (by omega))) zQ (wDe (n:=4) rfl (wHg (sz:=1) (fun _=>rfl) _ _ 0 _ gJ rfl))) rfl (zX rfl rfl rfl rfl (fun _=>zo rfl rfl rfl) (zX rfl rfl rfl rfl (fun _=>ZH rfl rfl) (zX rfl rfl rfl rfl (fun _=>zU rfl rfl zf rfl Zp) (zX rfl rfl rfl rfl (fun _=>ZT rfl rfl rfl Za Zd (wCV aU) (wCW aU)) (zX rfl rfl rfl rfl (fun _=>ZT rfl rfl rfl ZO zN (wCV bh) (wCW bh)) ?_)))))
          have gK:=Arr.at_ (aS.1.set (ab * 8 + aW.toNat) (w64 ((aS.1.get (ab * 8 + aW.toNat)) - 1))) (k:=(ab * 8 + p0.toNat)) (by have hz0:=wAe aU;have hz1:=wAe bh;omega)
          refine Zg (j:=0) (vs:=[jV (w64 (((aS.1.set (ab * 8 + aW.toNat) (w64 ((aS.1.get (ab * 8 + aW.toNat)) - 1))).get (ab * 8 + p0.toNat)) + 1))]) (cs':=[.slice ai p1.Bout.Shots.length aj,.slice ak p1.Bout.Down.length ap,.slice am p1.Bout.Across.length aq,.map (some ae)] ++ ((hH KL.encI ((aS.1.set (ab * 8 + aW.toNat) (w64 ((aS.1.get (ab * 8 + aW.toNat)) - 1))).set (ab * 8 + p0.toNat) (w64 (((aS.1.set (ab * 8 + aW.toNat) (w64 ((aS.1.get (ab * 8 + aW.toNat)) - 1))).get (ab * 8 + p0.toNat)) + 1))).l) ++ ((hH KL.encI aS.2.1.l) ++ (hH KL.encT aS.2.2.l)))) rfl rfl rfl rfl bH rfl ((rfl:ev _ _=.pointer (some ⟨ah,4 + ab * 8 + p0.toNat * 1,none⟩)).trans (wDf (by omega))) rfl rfl zN (by have hz0:=wAe aU;have hz1:=wAe bh;simp only [nG,nE,nH,wAK (f:=KL.encI) (sz:=1) (N:=64) (aS.1.set (ab * 8 + aW.toNat) (w64 ((aS.1.get (ab * 8 + aW.toNat)) - 1))) (fun _=>rfl) rfl,wAK (f:=KL.encI) (sz:=1) (N:=8) aS.2.1 (fun _=>rfl) rfl,wAK (f:=KL.encT) (sz:=1) (N:=16) aS.2.2 (fun _=>rfl) rfl];omega) rfl (wCS (n:=4) rfl (wKO (sz:=1) (fo:=0) (fun _=>rfl) _ _ _ _ gK (zg rfl) rfl)) rfl ?_
          intro ei fT
          have fU:St bA bT [.blk ah 118 ([.slice ai p1.Bout.Shots.length aj,.slice ak p1.Bout.Down.length ap,.slice am p1.Bout.Across.length aq,.map (some ae)] ++ ((hH KL.encI ((aS.1.set (ab * 8 + aW.toNat) (w64 ((aS.1.get (ab * 8 + aW.toNat)) - 1))).set (ab * 8 + p0.toNat) (w64 (((aS.1.set (ab * 8 + aW.toNat) (w64 ((aS.1.get (ab * 8 + aW.toNat)) - 1))).get (ab * 8 + p0.toNat)) + 1))).l) ++ ((hH KL.encI aS.2.1.l) ++ (hH KL.encT aS.2.2.l)))),.obj ae (.map au az),.obj bD bJ,.blk aZ 3 B2,B1,B0,mks ba] ei:=fT
          refine eN (sR (.fx 0 .nil .stop) Z (Zg (j:=4) (vs:=[.bool true]) Z Z Z Z fU Z eL Z Z Zq (zg Z) Z Z Z ?_))
          intro ej fV
          have fW:St bA bT [.blk ah 118 ([.slice ai p1.Bout.Shots.length aj,.slice ak p1.Bout.Down.length ap,.slice am p1.Bout.Across.length aq,.map (some ae)] ++ ((hH KL.encI ((aS.1.set (ab * 8 + aW.toNat) (w64 ((aS.1.get (ab * 8 + aW.toNat)) - 1))).set (ab * 8 + p0.toNat) (w64 (((aS.1.set (ab * 8 + aW.toNat) (w64 ((aS.1.get (ab * 8 + aW.toNat)) - 1))).get (ab * 8 + p0.toNat)) + 1))).l) ++ ((hH KL.encI aS.2.1.l) ++ (hH KL.encT aS.2.2.l)))),.obj ae (.map au az),.obj bD bJ,.blk aZ 3 B2,.blk bm 4 [.bool true],B0,mks ba] ej:=fV
          refine eN (zI (zV ?_))
          have q:=nA gU
          obtain rfl:=q
          exact ⟨_,_,(fW.pick [2,0,1,3,4,5,6] _ (by decide) rfl),rfl,rfl⟩
         ·intro cD gW
          refine zp (congrArg nB (nD.2 cD.out)) (ZG (zj ?_))
          have q:=nA gW
          obtain rfl:=q
          exact ⟨_,_,(dI.pick [2,0,1,3,4,5,6] _ (by decide) rfl),rfl,rfl⟩
        ·intro bq gX
         refine oF Z bq (oF Z bq (ZF Z Z Z (zF Z Z (zk bq.out) Z) (oR Z (zM Z (zk bq.out) Z) (eN (zp Z (ZG (zj ?_)))))))
         have q:=nA gX
         obtain rfl:=q
         exact ⟨_,_,br,Z,Z⟩
      ·rintro bK bB it bV ig dJ
       rcases dZ with ⟨d4,d5,d6⟩ | ⟨ci,cj,cm,d7⟩
       ·try dsimp only at cf
        rintro rfl
        have fY:SW w [.blk ah 118 ([.slice ai p1.Bout.Shots.length aj,.slice ak p1.Bout.Down.length ap,.slice am p1.Bout.Across.length aq,.map (some ae)] ++ ((hH KL.encI p1.hits.l) ++ ((hH KL.encI p1.used.l) ++ (hH KL.encT p1.met.l)))),.obj ae (.map au az)] U bB [.blk ah 118 ([.slice ai p1.Bout.Shots.length aj,.slice ak p1.Bout.Down.length ap,.slice am p1.Bout.Across.length aq,.map (some ae)] ++ ((hH KL.encI d4.l) ++ ((hH KL.encI d5.l) ++ (hH KL.encT d6.l)))),.obj ae (.map au az),.blk aZ 3 B2,B1,B0,mks ba,.obj bK (.deferred (some []))] bV:=dJ
        have fZ:SW w [.blk ah 118 ([.slice ai p1.Bout.Shots.length aj,.slice ak p1.Bout.Down.length ap,.slice am p1.Bout.Across.length aq,.map (some ae)] ++ ((hH KL.encI p1.hits.l) ++ ((hH KL.encI p1.used.l) ++ (hH KL.encT p1.met.l)))),.obj ae (.map au az)] U bB [mks (bK :: ba),.blk ah 118 ([.slice ai p1.Bout.Shots.length aj,.slice ak p1.Bout.Down.length ap,.slice am p1.Bout.Across.length aq,.map (some ae)] ++ ((hH KL.encI d4.l) ++ ((hH KL.encI d5.l) ++ (hH KL.encT d6.l)))),.obj ae (.map au az),.blk aZ 3 B2,B1,B0] bV:=(fY.pick [5,6,0,1,2,3,4] _ (by decide) rfl).mksAdd
        refine zj (zj (zG (rR fL2 Z (oR Z (ZB (zo Z dt Z) (congrArg (jV) cO.out)) (oM Z Z (zq ?_))))))
        have q:=nA cf
        obtain rfl:=q
        exact zG ⟨_,rfl,⟨bB,(bK :: ba),rfl,rfl,dm,dp,dq,cG,dr,(((bz.trans bE).trans bI).trans ig),(fZ.pick [4,5,0,1,2] _ (by decide) rfl)⟩⟩
       ·try dsimp only at cf
        rintro rfl
        let B4:Res:=.blk bm 4 [.bool d7]
        have ga:SW w [.blk ah 118 ([.slice ai p1.Bout.Shots.length aj,.slice ak p1.Bout.Down.length ap,.slice am p1.Bout.Across.length aq,.map (some ae)] ++ ((hH KL.encI p1.hits.l) ++ ((hH KL.encI p1.used.l) ++ (hH KL.encT p1.met.l)))),.obj ae (.map au az)] U bB [.blk ah 118 ([.slice ai p1.Bout.Shots.length aj,.slice ak p1.Bout.Down.length ap,.slice am p1.Bout.Across.length aq,.map (some ae)] ++ ((hH KL.encI ci.l) ++ ((hH KL.encI cj.l) ++ (hH KL.encT cm.l)))),.obj ae (.map au az),.blk aZ 3 B2,B4,B0,mks ba,.obj bK (.deferred (some []))] bV:=dJ
        have gb:SW w [.blk ah 118 ([.slice ai p1.Bout.Shots.length aj,.slice ak p1.Bout.Down.length ap,.slice am p1.Bout.Across.length aq,.map (some ae)] ++ ((hH KL.encI p1.hits.l) ++ ((hH KL.encI p1.used.l) ++ (hH KL.encT p1.met.l)))),.obj ae (.map au az)] U bB [mks (bK :: ba),.blk ah 118 ([.slice ai p1.Bout.Shots.length aj,.slice ak p1.Bout.Down.length ap,.slice am p1.Bout.Across.length aq,.map (some ae)] ++ ((hH KL.encI ci.l) ++ ((hH KL.encI cj.l) ++ (hH KL.encT cm.l)))),.obj ae (.map au az),.blk aZ 3 B2,B4,B0] bV:=(ga.pick [5,6,0,1,2,3,4] _ (by decide) rfl).mksAdd
        refine zV (zV (zH ?_))
        have q:=wAI cf
        obtain ⟨ik,gZ,eC⟩:=q
        have q:=wBI cd b5 (dR ik eC)
        obtain rfl:=q
        refine zH (zV (zH (wIJ (by first | exact .inl rfl | exact .inr rfl) (rbs:=(bK :: ba)) (L:=[.blk ah 118 ([.slice ai p1.Bout.Shots.length aj,.slice ak p1.Bout.Down.length ap,.slice am p1.Bout.Across.length aq,.map (some ae)] ++ ((hH KL.encI ci.l) ++ ((hH KL.encI cj.l) ++ (hH KL.encT cm.l)))),.obj ae (.map au az),.blk aZ 3 B2,B4,B0]) gb fun en gc=>?_)))
        have dK:SW w [.blk ah 118 ([.slice ai p1.Bout.Shots.length aj,.slice ak p1.Bout.Down.length ap,.slice am p1.Bout.Across.length aq,.map (some ae)] ++ ((hH KL.encI p1.hits.l) ++ ((hH KL.encI p1.used.l) ++ (hH KL.encT p1.met.l)))),.obj ae (.map au az)] U bB [.blk ah 118 ([.slice ai p1.Bout.Shots.length aj,.slice ak p1.Bout.Down.length ap,.slice am p1.Bout.Across.length aq,.map (some ae)] ++ ((hH KL.encI ci.l) ++ ((hH KL.encI cj.l) ++ (hH KL.encT cm.l)))),.obj ae (.map au az),.blk aZ 3 B2,B4,B0] en:=gc
        cases gZ
        exact ⟨_,(wKx (v:=.bool d7) ⟨⟨_,cG,(wPY Tryz.isAgg4 (dK.blkAt (k:=3) rfl) rfl)⟩,trivial⟩),bB,_,(dK.pick [0,1] _ (by decide) rfl),rfl,rfl⟩
    ·intro cE g6
     refine zt (nF (cE.out)) (ZC (zh (zy (zG (rR fL2 Z (oR Z (ZB (zo Z bM Z) (congrArg (jV) cO.out)) (oM Z Z (zq ?_))))))))
     have q:=nA g6
     obtain rfl:=q
     exact zG ⟨_,rfl,⟨bp,ba,rfl,rfl,bn,cJ,bL,bW,bX,(bz.trans bE),(dM.pick [3,4,5,0,1] _ (by decide) rfl)⟩⟩
  ·rintro ⟨cS,cU,cV⟩ D_ i6 iC ⟨cr,dY,rfl,eP,iK,iL,iM,dw,eO,iO,ge⟩ gx
   have dW:=wCR cd b5 gx
   try dsimp only at dW
   have ez:Hid (¬ ((↑(((↑p1.Bout.Shots.length:Int):Int) - 0).toNat:Int) < (↑p1.Bout.Shots.length:Int))):=zE (wBO)
   refine sR fL1 Z (oR Z (ze Z eP eO) (eN (zD (cF Z ez (ZC (zh (zh (zy (zG (sR (.fx 0 .nil .stop) Z (Zg (j:=0) (vs:=[.bool false]) Z Z Z Z ge Z dw Z Z Zq (zg Z) Z Z Z ?_)))))))))))
   intro eu gf
   have gg:SW w [.blk ah 118 ([.slice ai p1.Bout.Shots.length aj,.slice ak p1.Bout.Down.length ap,.slice am p1.Bout.Across.length aq,.map (some ae)] ++ ((hH KL.encI p1.hits.l) ++ ((hH KL.encI p1.used.l) ++ (hH KL.encT p1.met.l)))),.obj ae (.map au az)] U cr [B1,B0,mks dY,.blk ah 118 ([.slice ai p1.Bout.Shots.length aj,.slice ak p1.Bout.Down.length ap,.slice am p1.Bout.Across.length aq,.map (some ae)] ++ ((hH KL.encI cS.l) ++ ((hH KL.encI cU.l) ++ (hH KL.encT cV.l)))),.obj ae (.map au az)] eu:=gf
   refine eN (zI (wIJ (by first | exact .inl rfl | exact .inr rfl) (rbs:=dY) (L:=[B1,B0,.blk ah 118 ([.slice ai p1.Bout.Shots.length aj,.slice ak p1.Bout.Down.length ap,.slice am p1.Bout.Across.length aq,.map (some ae)] ++ ((hH KL.encI cS.l) ++ ((hH KL.encI cU.l) ++ (hH KL.encT cV.l)))),.obj ae (.map au az)]) (gg.pick [2,0,1,3,4] _ (by decide) rfl) fun ey gh=>?_))
   have dL:SW w [.blk ah 118 ([.slice ai p1.Bout.Shots.length aj,.slice ak p1.Bout.Down.length ap,.slice am p1.Bout.Across.length aq,.map (some ae)] ++ ((hH KL.encI p1.hits.l) ++ ((hH KL.encI p1.used.l) ++ (hH KL.encT p1.met.l)))),.obj ae (.map au az)] U cr [B1,B0,.blk ah 118 ([.slice ai p1.Bout.Shots.length aj,.slice ak p1.Bout.Down.length ap,.slice am p1.Bout.Across.length aq,.map (some ae)] ++ ((hH KL.encI cS.l) ++ ((hH KL.encI cU.l) ++ (hH KL.encT cV.l)))),.obj ae (.map au az)] ey:=gh
   cases dW
   exact ⟨_,(wKx (v:=.bool false) ⟨⟨_,dw,(wPY Tryz.isAgg4 (dL.blkAt (k:=0) rfl) rfl)⟩,trivial⟩),cr,_,(dL.pick [2,3] _ (by decide) rfl),rfl,rfl⟩
end Go.Proofs.YtfcmijinklojbaaGreat
namespace Go.Proofs.YtfcmijinklojbaaGreat
open Go.KL
set_option maxHeartbeats 4000000
theorem wEq (p0:wAF) (ah:Nat) (ak:Option Addr) (ap:Nat) (ai:Option Addr) (aj:Nat) (am:Option Addr) (aq:Nat) (ab:Nat) (au:Array MapEntry) (az:Nat) (w:World) (U:PHeap) (hS:St0 w U [.blk ah 118 ([.slice ak p0.Bout.Shots.length ap,.slice ai p0.Bout.Down.length aj,.slice am p0.Bout.Across.length aq,.map (some ab)] ++ ((hH KL.encI p0.hits.l) ++ ((hH KL.encI p0.used.l) ++ (hH KL.encT p0.met.l)))),.obj ab (.map au az)]) (bU:Sl U 1 ak ap p0.Bout.Shots.length (hH KL.encI p0.Bout.Shots)) (bV:Sl U 1 ai aj p0.Bout.Down.length (hH KL.encI p0.Bout.Down)) (bW:Sl U 2 am aq p0.Bout.Across.length (hH wAA p0.Bout.Across)) (bX:MpR au wDP wDl p0.may) {r:(List Int)} (hm:wAx p0=some r):Gv Tryz.prog 102 [.pointer (some ⟨ah,0,none⟩)] w (wCb w [.blk ah 118 ([.slice ak p0.Bout.Shots.length ap,.slice ai p0.Bout.Down.length aj,.slice am p0.Bout.Across.length aq,.map (some ab)] ++ ((hH KL.encI p0.hits.l) ++ ((hH KL.encI p0.used.l) ++ (hH KL.encT p0.met.l)))),.obj ab (.map au az)] U (fun U_ L_ v=>∃ (A0:Option Addr) (c0:Nat),v=.slice A0 r.length c0/\L_=[.row A0 c0 3 1 (hH KL.encI r),.blk ah 118 ([.slice ak p0.Bout.Shots.length ap,.slice ai p0.Bout.Down.length aj,.slice am p0.Bout.Across.length aq,.map (some ab)] ++ ((hH KL.encI p0.hits.l) ++ ((hH KL.encI p0.used.l) ++ (hH KL.encT p0.met.l)))),.obj ab (.map au az)])):=by
 unfold wAx at hm
 refine Gv.of Tryz.func102 Z Tryz.ntmps102 Tryz.results102 Z (sR fL1 Z (oA Z Z (eN (sR fL1 Z (oA Z Z (eN (zD (sR fL7 Z (oM Z Z (oR Z (ZH Z Z) (oR Z (zU Z Z zf Z zr) (oR Z (zU Z Z zO Z zS) (oL Z (hS.ldB (j:=0) Z Z Z zY (v:=.slice ai p0.Bout.Down.length aj) Z) (oR Z (zi Z Z zA) (oM Z Z (eN (zd (bnK hm fun b5 bI bL=>?_))))))))))))))))))
 have q:=wDI bI
 obtain ⟨bf,bJ⟩:=q
 replace bf:=zE bf
 refine CK.forN' (fun ae aU σ_ w_=>∃ (U_:PHeap) (aS:Option Addr) (aT:Nat),σ_ 11=jV (↑ae:Int)/\σ_ 0=.pointer (some ⟨ah,0,none⟩)/\σ_ 3=.slice aS aU.length aT/\σ_ 10=jV (↑p0.Bout.Down.length:Int)/\PHeap.Le U U_/\SW w [.blk ah 118 ([.slice ak p0.Bout.Shots.length ap,.slice ai p0.Bout.Down.length aj,.slice am p0.Bout.Across.length aq,.map (some ab)] ++ ((hH KL.encI p0.hits.l) ++ ((hH KL.encI p0.used.l) ++ (hH KL.encT p0.met.l)))),.obj ab (.map au az)] U U_ [.blk ah 118 ([.slice ak p0.Bout.Shots.length ap,.slice ai p0.Bout.Down.length aj,.slice am p0.Bout.Across.length aq,.map (some ab)] ++ ((hH KL.encI p0.hits.l) ++ ((hH KL.encI p0.used.l) ++ (hH KL.encT p0.met.l)))),.obj ab (.map au az),.row aS aT 3 1 (hH KL.encI aU)] w_) bJ ?_ ?_ ?_
 have bD:=hS.nilrow 3 1
 exact ⟨U,none,0,rfl,rfl,rfl,rfl,(zZ _),(bD.pick [1,2,0] _ (by decide) rfl)⟩
 rintro ae aU bZ b8 bR be ⟨aV,aS,aT,aW,aY,bm,aZ,bp,bb⟩ bQ
 have bk:Hid ((↑ae:Int) < (↑p0.Bout.Down.length:Int)):=zE (wBz be)
 replace be:=zE be
 have bo:Hid (w64 ((↑ae:Int) + 1)=(↑(ae + 1):Int)):=zE (by have h1:=bf.out;have h2:=bk.out;rw [wAO] <;> omega)
 refine sR fL1 rfl (zX rfl rfl rfl rfl (fun _=>ze rfl aW aZ) (eN (zD (cT Z bk (kN (zD (zd (sR fL2 rfl (zW rfl rfl rfl rfl rfl aW (OKS.ra rfl rfl rfl rfl rfl rfl (eN (sR fL7 rfl (zW rfl rfl rfl rfl rfl aY (zW rfl rfl rfl rfl rfl rfl (zX rfl rfl rfl rfl (fun _=>ZH rfl rfl) (zX rfl rfl rfl rfl (fun _=>zU rfl rfl zf rfl Tryz.sizeOf116) (zX rfl rfl rfl rfl (fun _=>ZB (ZT rfl rfl rfl Zr Tryz.sizeOf115 (by decide) (by decide)) rfl) (bnK bQ fun _ ba bM=>zX rfl rfl rfl rfl (fun _=>ZT rfl rfl rfl Tryz.runUnderlying115 Zq (wCV ba) (wCW ba)) ?_))))))))))))))))))
 have bK:=Arr.at_ p0.met (k:=(8 + ae)) (by have hz0:=wAe ba;omega)
 refine zx rfl rfl rfl rfl (bb.ldB (j:=0) rfl rfl ((rfl:ev _ _=.pointer (some ⟨ah,84 + ae * 1,none⟩)).trans (wDf (by omega))) Tryz.isAgg4 (wDe (n:=4) rfl (wDe (n:=64) (wAK (f:=KL.encI) (sz:=1) (N:=64) p0.hits (fun _=>rfl) rfl) (wDe (n:=8) (wAK (f:=KL.encI) (sz:=1) (N:=8) p0.used (fun _=>rfl) rfl) (wRK (sz:=1) (fun _=>rfl) _ _ 0 _ bK rfl))))) rfl (eN (ifc bM ?_ ?_))
 intro aX bN
 refine zt (congrArg nB aX.out) (rR (.fl 0 (.fl 1 (.fx 2 (.fx 3 (.fl 4 .nil) .stop) .stop))) Z (oM Z bm (oM Z Z (OKS.buildSlice (pv:=[(0,jV (↑ae:Int))]) (zs:=[jV 0]) (cs:=[jV (↑ae:Int)]) Z Z Z Z Z (wBq Z wDL) zA zN Tryz.zeroValue3 Z Z Z Z Z bb ?_))))
 intro bs bu bE
 let B0:Res:=.row (some ⟨bu,0,none⟩) 1 3 1 (hH KL.encI [(↑ae:Int)])
 have bn:SW w [.blk ah 118 ([.slice ak p0.Bout.Shots.length ap,.slice ai p0.Bout.Down.length aj,.slice am p0.Bout.Across.length aq,.map (some ab)] ++ ((hH KL.encI p0.hits.l) ++ ((hH KL.encI p0.used.l) ++ (hH KL.encT p0.met.l)))),.obj ab (.map au az)] U aV [B0,.blk ah 118 ([.slice ak p0.Bout.Shots.length ap,.slice ai p0.Bout.Down.length aj,.slice am p0.Bout.Across.length aq,.map (some ab)] ++ ((hH KL.encI p0.hits.l) ++ ((hH KL.encI p0.used.l) ++ (hH KL.encT p0.met.l)))),.obj ab (.map au az),.row aS aT 3 1 (hH KL.encI aU)] bs:=bE
 refine bnK bN fun x53 bC bO=>OKS.append (j:=3) (enc:=KL.encI) (xs:=aU) (ys:=[(↑ae:Int)]) (zs:=x53) rfl rfl rfl rfl rfl Tryz.underlying22 wQV rfl rfl rfl rfl rfl rfl bn rfl rfl rfl (bn.srcR (j:=0) rfl (by decide) (wAJ (f:=KL.encI) (sz:=1) (fun _=>rfl) [(↑ae:Int)])) (fun _=>rfl) (fun _=>rfl) bC rfl ?_
 intro bh bl bt bF
 have bG:SW w [.blk ah 118 ([.slice ak p0.Bout.Shots.length ap,.slice ai p0.Bout.Down.length aj,.slice am p0.Bout.Across.length aq,.map (some ab)] ++ ((hH KL.encI p0.hits.l) ++ ((hH KL.encI p0.used.l) ++ (hH KL.encT p0.met.l)))),.obj ab (.map au az)] U aV [B0,.blk ah 118 ([.slice ak p0.Bout.Shots.length ap,.slice ai p0.Bout.Down.length aj,.slice am p0.Bout.Across.length aq,.map (some ab)] ++ ((hH KL.encI p0.hits.l) ++ ((hH KL.encI p0.used.l) ++ (hH KL.encT p0.met.l)))),.obj ab (.map au az),.row bh bl 3 1 (hH KL.encI x53)] bt:=bF
 refine oA Z Z (zq (zj (zG (rR fL2 Z (oR Z (ZB (zo Z aW Z) (congrArg (jV) bo.out)) (oM Z Z (zq ?_)))))))
 cases bO
 exact zG ⟨rfl,⟨aV,bh,bl,rfl,aY,rfl,aZ,bp,(bG.pick [1,2,3] _ (by decide) rfl)⟩⟩
 intro aX bP
 refine zp (congrArg nB (nD.2 aX.out)) (ZG (zj (zG (rR fL2 Z (oR Z (ZB (zo Z aW Z) (congrArg (jV) bo.out)) (oM Z Z (zq ?_)))))))
 cases bP
 exact zG ⟨Z,⟨aV,aS,aT,Z,aY,bm,aZ,bp,bb⟩⟩
 rintro b9 bS ⟨br,bq,bv,bB,bT,bz,bA,bY,bH⟩
 have bw:Hid (¬ ((↑(((↑p0.Bout.Down.length:Int):Int) - 0).toNat:Int) < (↑p0.Bout.Down.length:Int))):=zE (wBO)
 refine sR fL1 Z (oR Z (ze Z bB bA) (eN (zD (cF Z bw (ZC (zh (zh (zy (zG (sR fL2 Z (oM Z bz (oA Z Z (eN (zI ?_))))))))))))))
 have hE:=nA bL;first | subst r | cases hE
 exact ⟨rfl,_,(zn rfl),br,_,(bH.pick [2,0,1] _ (by decide) rfl),bq,bv,rfl,rfl⟩
theorem wDS (p0:wAF) (ah:Nat) (aj:Option Addr) (am:Nat) (ae:Option Addr) (ai:Nat) (ak:Option Addr) (ap:Nat) (ab:Nat) (aq:Array MapEntry) (au:Nat) (w:World) (U:PHeap) (hS:St0 w U [.blk ah 118 ([.slice aj p0.Bout.Shots.length am,.slice ae p0.Bout.Down.length ai,.slice ak p0.Bout.Across.length ap,.map (some ab)] ++ ((hH KL.encI p0.hits.l) ++ ((hH KL.encI p0.used.l) ++ (hH KL.encT p0.met.l)))),.obj ab (.map aq au)]) (dJ:Sl U 1 aj am p0.Bout.Shots.length (hH KL.encI p0.Bout.Shots)) (dK:Sl U 1 ae ai p0.Bout.Down.length (hH KL.encI p0.Bout.Down)) (dL:Sl U 2 ak ap p0.Bout.Across.length (hH wAA p0.Bout.Across)) (cj:MpR aq wDP wDl p0.may) {r:(List Int) × (Arr Int 64 × Arr Int 8 × Arr Bool 16)} (hm:wBJ p0=some r):Gv Tryz.prog 67 [.pointer (some ⟨ah,0,none⟩)] w (wCb w [.blk ah 118 ([.slice aj p0.Bout.Shots.length am,.slice ae p0.Bout.Down.length ai,.slice ak p0.Bout.Across.length ap,.map (some ab)] ++ ((hH KL.encI p0.hits.l) ++ ((hH KL.encI p0.used.l) ++ (hH KL.encT p0.met.l)))),.obj ab (.map aq au)] U (fun U_ L_ v=>∃ (A0:Option Addr) (c0:Nat),v=.slice A0 r.1.length c0/\L_=[.row A0 c0 3 1 (hH KL.encI r.1),.blk ah 118 ([.slice aj p0.Bout.Shots.length am,.slice ae p0.Bout.Down.length ai,.slice ak p0.Bout.Across.length ap,.map (some ab)] ++ ((hH KL.encI r.2.1.l) ++ ((hH KL.encI r.2.2.1.l) ++ (hH KL.encT r.2.2.2.l)))),.obj ab (.map aq au)]/\(r.1=[]->A0=none))):=by
 unfold wBJ at hm
 refine Gv.of Tryz.func67 Z Tryz.ntmps67 Tryz.results67 Z (sR gAw Z ?_)
 let B0:List Value:=[.pointer (some ⟨ah,0,none⟩)]
 refine ZI (cs:=B0) rfl rfl rfl rfl rfl rfl (by rfl) hS ?_
 intro W3 b4 dI
 have q:=dI.freeze (k:=0) rfl
 obtain ⟨U7,bC,aX,du⟩:=q
 replace aX:=Cl.of aX
 have dw:SW w [.blk ah 118 ([.slice aj p0.Bout.Shots.length am,.slice ae p0.Bout.Down.length ai,.slice ak p0.Bout.Across.length ap,.map (some ab)] ++ ((hH KL.encI p0.hits.l) ++ ((hH KL.encI p0.used.l) ++ (hH KL.encT p0.met.l)))),.obj ab (.map aq au)] U U7 [.blk ah 118 ([.slice aj p0.Bout.Shots.length am,.slice ae p0.Bout.Down.length ai,.slice ak p0.Bout.Across.length ap,.map (some ab)] ++ ((hH KL.encI p0.hits.l) ++ ((hH KL.encI p0.used.l) ++ (hH KL.encT p0.met.l)))),.obj ab (.map aq au)] W3:=du
 replace aX:Cl U7 b4 0 B0:=aX
 refine oA Z Z (eN (sR (.fx 0 .nil .stop) Z (ZE (cs:=[.nilFunc]) Z Z Z Z Z Tryz.zeroValue98 Z dw ?_)))
 intro eb aV dz
 refine eN (sR (.fl 0 (.fx 1 .nil .stop)) Z (oR Z (Runs.mkf Z zP (zB Z (zB Z zP))) ?_))
 let B1:List Value:=[.func (.func 100) #[] #[.pointer (some ⟨b4,0,none⟩),.pointer (some ⟨aV,0,none⟩)]]
 refine Zg (j:=0) (vs:=B1) Z Z Z Z dz Z Z Z Z Tryz.sizeOf98 (zg Z) Z Z Z ?_
 intro bK dC
 have bs:SW w [.blk ah 118 ([.slice aj p0.Bout.Shots.length am,.slice ae p0.Bout.Down.length ai,.slice ak p0.Bout.Across.length ap,.map (some ab)] ++ ((hH KL.encI p0.hits.l) ++ ((hH KL.encI p0.used.l) ++ (hH KL.encT p0.met.l)))),.obj ab (.map aq au)] U U7 [.blk aV 98 B1,.blk ah 118 ([.slice aj p0.Bout.Shots.length am,.slice ae p0.Bout.Down.length ai,.slice ak p0.Bout.Across.length ap,.map (some ab)] ++ ((hH KL.encI p0.hits.l) ++ ((hH KL.encI p0.used.l) ++ (hH KL.encT p0.met.l)))),.obj ab (.map aq au)] bK:=dC
 refine eN (zD (sR fL7 Z (oL Z (bs.ldC (f:=0) aX (v:=.pointer (some ⟨ah,0,none⟩)) Z Z ZK Z) (oR Z (ZH Z Z) (oR Z (zU Z Z zf Z zr) (oR Z (zU Z Z zO Z zS) (oL Z (bs.ldB (j:=1) Z Z Z zY (v:=.slice ae p0.Bout.Down.length ai) Z) (oR Z (zi Z Z zA) (oM Z Z (eN (zd ?_)))))))))))
 have q:=bs.freeze (k:=0) rfl
 obtain ⟨bg,bj,ba,dG⟩:=q
 replace ba:=Cl.of ba
 have dH:SW w [.blk ah 118 ([.slice aj p0.Bout.Shots.length am,.slice ae p0.Bout.Down.length ai,.slice ak p0.Bout.Across.length ap,.map (some ab)] ++ ((hH KL.encI p0.hits.l) ++ ((hH KL.encI p0.used.l) ++ (hH KL.encT p0.met.l)))),.obj ab (.map aq au)] U bg [.blk ah 118 ([.slice aj p0.Bout.Shots.length am,.slice ae p0.Bout.Down.length ai,.slice ak p0.Bout.Across.length ap,.map (some ab)] ++ ((hH KL.encI p0.hits.l) ++ ((hH KL.encI p0.used.l) ++ (hH KL.encT p0.met.l)))),.obj ab (.map aq au)] bK:=dG
 replace ba:Cl bg aV 0 B1:=ba
 have q:=wBp hm
 obtain ⟨eE,bt⟩:=q
 have q:=wCA bt
 obtain ⟨bz,dQ⟩:=q
 replace bz:=zE bz
 refine Zf (fun aS (bL,bM,bN) σ_ w_=>∃ (U_:PHeap),σ_ 13=jV (↑aS:Int)/\σ_ 1=.pointer (some ⟨b4,0,none⟩)/\σ_ 3=.pointer (some ⟨aV,0,none⟩)/\σ_ 11=.slice ae p0.Bout.Down.length ai/\σ_ 12=jV (↑p0.Bout.Down.length:Int)/\PHeap.Le bg U_/\SW w [.blk ah 118 ([.slice aj p0.Bout.Shots.length am,.slice ae p0.Bout.Down.length ai,.slice ak p0.Bout.Across.length ap,.map (some ab)] ++ ((hH KL.encI p0.hits.l) ++ ((hH KL.encI p0.used.l) ++ (hH KL.encT p0.met.l)))),.obj ab (.map aq au)] U U_ [.blk ah 118 ([.slice aj p0.Bout.Shots.length am,.slice ae p0.Bout.Down.length ai,.slice ak p0.Bout.Across.length ap,.map (some ab)] ++ ((hH KL.encI bL.l) ++ ((hH KL.encI bM.l) ++ (hH KL.encT bN.l)))),.obj ab (.map aq au)] w_) dQ ?_ ?_ ?_
 exact ⟨bg,Z,Z,Z,Z,Z,(zZ _),dH⟩
 rintro aS ⟨bL,bM,bN⟩ eK eV eh bv ⟨bG,bi,cN,cO,bV,bW,aY,cg⟩ cq dO
 try dsimp only at cq
 have bR:Hid ((↑aS:Int) < (↑p0.Bout.Down.length:Int)):=zE (wBz bv)
 replace bv:=zE bv
 have dT:Hid (w64 ((↑aS:Int) + 1)=(↑(aS + 1):Int)):=zE (by have h1:=bz.out;have h2:=bR.out;rw [wAO] <;> omega)
 refine sR fL1 Z (oR Z (ze Z bi bW) (eN (zD (cT Z bR (kN (zD (zd (sR fL5 Z (oM Z bi (bnK cq fun bf b9 bB=>?_))))))))))
 have dp:=dK.le bC
 have dq:=dp.le bj
 have cd:=dq.le aY
 have q:=cd.el (fun _=>rfl) (wAN b9)
 obtain ⟨ej,eD,dr,dt⟩:=q
 refine oR Z (zu Z bV dr bi zA zN (wBP b9)) (oL Z (cg.ldC (f:=0) dt (v:=jV bf) Z Z zQ Z) (oA Z Z (oA Z Z (eN (sR fL2 Z (oM Z Z (oM Z Z (eN (zd ?_)))))))))
 have q:=wBp bB
 obtain ⟨eF,bu⟩:=q
 have q:=wCA bu
 obtain ⟨bA,dR⟩:=q
 replace bA:=zE bA
 refine Zf (fun bb (aT,aU,bh) σ_ w_=>∃ (U_:PHeap),σ_ 19=jV (↑bb:Int)/\σ_ 1=.pointer (some ⟨b4,0,none⟩)/\σ_ 3=.pointer (some ⟨aV,0,none⟩)/\σ_ 4=jV (↑aS:Int)/\σ_ 11=.slice ae p0.Bout.Down.length ai/\σ_ 12=jV (↑p0.Bout.Down.length:Int)/\σ_ 13=jV (↑aS:Int)/\σ_ 18=jV bf/\PHeap.Le bG U_/\SW w [.blk ah 118 ([.slice aj p0.Bout.Shots.length am,.slice ae p0.Bout.Down.length ai,.slice ak p0.Bout.Across.length ap,.map (some ab)] ++ ((hH KL.encI p0.hits.l) ++ ((hH KL.encI p0.used.l) ++ (hH KL.encT p0.met.l)))),.obj ab (.map aq au)] U U_ [.blk ah 118 ([.slice aj p0.Bout.Shots.length am,.slice ae p0.Bout.Down.length ai,.slice ak p0.Bout.Across.length ap,.map (some ab)] ++ ((hH KL.encI aT.l) ++ ((hH KL.encI aU.l) ++ (hH KL.encT bh.l)))),.obj ab (.map aq au)] w_) dR ?_ ?_ ?_
 exact ⟨bG,Z,cN,cO,Z,bV,bW,bi,Z,(zZ _),cg⟩
 rintro bb ⟨aT,aU,bh⟩ eL eW ei bw ⟨bH,bX,bp,bS,bT,cC,cD,cE,bU,aZ,ci⟩ cr dP
 try dsimp only at cr
 have bP:Hid ((↑bb:Int) < bf):=zE (wBz bw)
 replace bw:=zE bw
 have dS:Hid (w64 ((↑bb:Int) + 1)=(↑(bb + 1):Int)):=zE (by have h1:=bA.out;have h2:=bP.out;rw [wAO] <;> omega)
 refine sR fL1 Z (oR Z (ze Z bX bU) (eN (zD (cT Z bP (kN (zD (zd (sR (wIf (.fx 4 .nil .stop)) Z ?_))))))))
 have cR:=aX.le bj
 have cS:=cR.le aY
 have bq:=cS.le aZ
 refine zx rfl rfl rfl rfl (ci.ldC (f:=0) bq (v:=.pointer (some ⟨ah,0,none⟩)) rfl bp ZK rfl) rfl (zX rfl rfl rfl rfl (fun _=>ZH rfl rfl) (zX rfl rfl rfl rfl (fun _=>zU rfl rfl zf rfl Tryz.sizeOf116) (zX rfl rfl rfl rfl (fun _=>Runs.slA rfl rfl Zr Tryz.sizeOf115) (OKS.clearB (j:=0) (off:=76) (vs:=hH KL.encT (Arr.fill 16 false).l) (cs':=[.slice aj p0.Bout.Shots.length am,.slice ae p0.Bout.Down.length ai,.slice ak p0.Bout.Across.length ap,.map (some ab)] ++ ((hH KL.encI aT.l) ++ ((hH KL.encI aU.l) ++ (hH KL.encT (Arr.fill 16 false).l)))) rfl rfl rfl rfl ci rfl rfl Tryz.runUnderlying161 Tryz.zeroValue115 (by kernel_rfl) (by simp only [nG,nE,nH,wAK (f:=KL.encI) (sz:=1) (N:=64) aT (fun _=>rfl) rfl,wAK (f:=KL.encI) (sz:=1) (N:=8) aU (fun _=>rfl) rfl,wAK (f:=KL.encT) (sz:=1) (N:=16) bh (fun _=>rfl) rfl,wAK (f:=KL.encT) (sz:=1) (N:=16) (Arr.fill 16 false) (fun _=>rfl) rfl];omega) (wIo (fun _=>rfl) _) (wCS (n:=4) rfl (wCS (n:=64) (wAK (f:=KL.encI) (sz:=1) (N:=64) aT (fun _=>rfl) rfl) (wCS (n:=8) (wAK (f:=KL.encI) (sz:=1) (N:=8) aU (fun _=>rfl) rfl) (wOG _ _ (by rw [wAK (f:=KL.encT) (sz:=1) (N:=16) (Arr.fill 16 false) (fun _=>rfl) rfl,wAK (f:=KL.encT) (sz:=1) (N:=16) bh (fun _=>rfl) rfl]))))) rfl ?_))))
 intro bI dx
 have cf:SW w [.blk ah 118 ([.slice aj p0.Bout.Shots.length am,.slice ae p0.Bout.Down.length ai,.slice ak p0.Bout.Across.length ap,.map (some ab)] ++ ((hH KL.encI p0.hits.l) ++ ((hH KL.encI p0.used.l) ++ (hH KL.encT p0.met.l)))),.obj ab (.map aq au)] U bH [.blk ah 118 ([.slice aj p0.Bout.Shots.length am,.slice ae p0.Bout.Down.length ai,.slice ak p0.Bout.Across.length ap,.map (some ab)] ++ ((hH KL.encI aT.l) ++ ((hH KL.encI aU.l) ++ (hH KL.encT (Arr.fill 16 false).l)))),.obj ab (.map aq au)] bI:=dx
 refine eN (sR gBc Z ?_)
 have cU:=ba.le aY
 have bY:=cU.le aZ
 refine oL Z (cf.ldC (f:=0) bY (v:=.func (.func 100) #[] #[.pointer (some ⟨b4,0,none⟩),.pointer (some ⟨aV,0,none⟩)]) Z bS Tryz.isAgg98 Z) (oM Z bT ?_)
 have cV:=dJ.le bC
 have cW:=cV.le bj
 have cX:=cW.le aY
 have bZ:=cX.le aZ
 have b5:=cd.le aZ
 have cY:=dL.le bC
 have cZ:=cY.le bj
 have da:=cZ.le aY
 have b8:=da.le aZ
 have q:=bnd cr
 obtain ⟨⟨eI,az⟩,db,cm⟩:=q
 try dsimp only at cm
 refine zK 2 Z Z Z Z (zJ Z Z Tryz.call100 (zB Z zP) Z) cf (fun hs=>wEc 1000 (↑aS:Int) (⟨p0.Bout,p0.may,aT,aU,(Arr.fill 16 false)⟩:wAF) b4 ah aj am ae ai ak ap ab aq au () aV bI bH hs bq bZ b5 b8 cj bY db) (.inl Z) ?_
 rintro bm d8 eG bJ be dy ⟨rfl,rfl⟩
 have br:SW w [.blk ah 118 ([.slice aj p0.Bout.Shots.length am,.slice ae p0.Bout.Down.length ai,.slice ak p0.Bout.Across.length ap,.map (some ab)] ++ ((hH KL.encI p0.hits.l) ++ ((hH KL.encI p0.used.l) ++ (hH KL.encT p0.met.l)))),.obj ab (.map aq au)] U bm [.blk ah 118 ([.slice aj p0.Bout.Shots.length am,.slice ae p0.Bout.Down.length ai,.slice ak p0.Bout.Across.length ap,.map (some ab)] ++ ((hH KL.encI az.1.l) ++ ((hH KL.encI az.2.1.l) ++ (hH KL.encT az.2.2.l)))),.obj ab (.map aq au)] bJ:=dy
 refine oR Z (ZQ Z Z) (eN (ifc cm ?_ ?_))
 intro bo dU
 refine zp (nC bo.out) (ZG (zj (zG (rR fL2 Z (oR Z (ZB (zo Z bX Z) (congrArg (jV) dS.out)) (oM Z Z (zq ?_)))))))
 have q:=nA dU
 obtain rfl:=q
 exact zG ⟨Z,_,Z,⟨bm,Z,bp,bS,bT,cC,cD,cE,bU,(aZ.trans be),br⟩⟩
 intro bo dV
 refine zt (nF (bo.out)) (sR gAy Z ?_)
 have de:=bq.le be
 refine oL Z (br.ldC (f:=0) de (v:=.pointer (some ⟨ah,0,none⟩)) Z bp ZK Z) ?_
 have df:=bZ.le be
 have dg:=b5.le be
 have dh:=b8.le be
 refine bnK dV fun d7 dk dW=>zK 2 Z Z Z Z (zJ Z Z Tryz.call102 (zB Z zP) Z) br (fun hs=>wEq (⟨p0.Bout,p0.may,az.1,az.2.1,az.2.2⟩:wAF) ah aj am ae ai ak ap ab aq au bJ bm hs df dg dh cj dk) (.inl Z) ?_
 rintro bF d9 eH cw eA dA ⟨bD,bQ,rfl,rfl⟩
 have dB:SW w [.blk ah 118 ([.slice aj p0.Bout.Shots.length am,.slice ae p0.Bout.Down.length ai,.slice ak p0.Bout.Across.length ap,.map (some ab)] ++ ((hH KL.encI p0.hits.l) ++ ((hH KL.encI p0.used.l) ++ (hH KL.encT p0.met.l)))),.obj ab (.map aq au)] U bF [.row bD bQ 3 1 (hH KL.encI d7),.blk ah 118 ([.slice aj p0.Bout.Shots.length am,.slice ae p0.Bout.Down.length ai,.slice ak p0.Bout.Across.length ap,.map (some ab)] ++ ((hH KL.encI az.1.l) ++ ((hH KL.encI az.2.1.l) ++ (hH KL.encT az.2.2.l)))),.obj ab (.map aq au)] cw:=dA
 refine oA Z Z (eN (zI (zV (zH ?_))))
 have q:=wAI dW
 obtain ⟨d5,dX,cA⟩:=q
 have q:=wBI bB bu (dP d5 cA)
 obtain rfl:=q
 refine zH (zV (zV (zH ?_)))
 have q:=wAI dX
 obtain ⟨d6,dY,cB⟩:=q
 have q:=wBI hm bt (dO d6 cB)
 obtain rfl:=q
 refine zH (zV (zH (bnK dY fun eJ dm dZ=>?_)))
 cases dZ
 exact ⟨Z,_,(zn Z),bF,_,dB,bD,bQ,Z,Z,(fun h=>absurd h (wOM dm))⟩
 rintro ⟨eM,eO,eP⟩ eT ed ⟨ct,cP,cG,cH,en,cI,cJ,cK,cL,d4,dD⟩ dM
 have cn:=wCR bB bu dM
 try dsimp only at cn
 have cy:Hid (¬ ((↑((bf:Int) - 0).toNat:Int) < bf)):=zE (wBO)
 refine sR fL1 Z (oR Z (ze Z cP cL) (eN (zD (cF Z cy (ZC (zh (zh (zy (zj (zG (rR fL2 Z (oR Z (ZB (zo Z cK Z) (congrArg (jV) dT.out)) (oM Z Z (zq ?_))))))))))))))
 have q:=nA cn
 obtain rfl:=q
 exact zG ⟨Z,_,Z,⟨ct,Z,cG,cH,cI,cJ,(aY.trans d4),dD⟩⟩
 rintro ⟨eQ,eR,eS⟩ eU ef ⟨cu,cQ,eu,ey,ez,cM,eC,dE⟩ dN
 have cp:=wCR hm bt dN
 try dsimp only at cp
 have cz:Hid (¬ ((↑(((↑p0.Bout.Down.length:Int):Int) - 0).toNat:Int) < (↑p0.Bout.Down.length:Int))):=zE (wBO)
 refine sR fL1 Z (oR Z (ze Z cQ cM) (eN (zD (cF Z cz (ZC (zh (zh (zy (zG (sR fL1 Z (oA Z Z (eN (zI ?_)))))))))))))
 have dF:=dE.nilrow 3 1
 cases cp
 exact ⟨Z,_,(zn Z),cu,_,dF,none,0,Z,Z,(fun _=>Z)⟩
theorem wHL (p0:wAB) (be:Option Addr) (bh:Nat) (bf:Option Addr) (bi:Nat) (bg:Option Addr) (bj:Nat) (w:World) (U:PHeap) (hS:St0 w U []) (bN:Sl U 1 be bh p0.Shots.length (hH KL.encI p0.Shots)) (bO:Sl U 1 bf bi p0.Down.length (hH KL.encI p0.Down)) (bP:Sl U 2 bg bj p0.Across.length (hH wAA p0.Across)) {r:(Option wAF) × Int} (hm:wCY p0=some r):Gv Tryz.prog 65 [.agg #[.slice be p0.Shots.length bh,.slice bf p0.Down.length bi,.slice bg p0.Across.length bj]] w (wCb w [] U (fun U_ L_ v=>match r.1 with | none=>v=.tuple #[.pointer none,jV r.2]/\L_=[] | some d=>∃ (b0:Nat) (A0p00:Option Addr) (c0p00:Nat) (A0p01:Option Addr) (c0p01:Nat) (A0p02:Option Addr) (c0p02:Nat) (m0p1:Nat) (es0p1:Array MapEntry) (ck0p1:Nat),v=.tuple #[.pointer (some ⟨b0,0,none⟩),jV r.2]/\L_=[.blk b0 118 ([.slice A0p00 d.Bout.Shots.length c0p00,.slice A0p01 d.Bout.Down.length c0p01,.slice A0p02 d.Bout.Across.length c0p02,.map (some m0p1)] ++ ((hH KL.encI d.hits.l) ++ ((hH KL.encI d.used.l) ++ (hH KL.encT d.met.l)))),.obj m0p1 (.map es0p1 ck0p1)]/\Sl U_ 1 A0p00 c0p00 d.Bout.Shots.length (hH KL.encI d.Bout.Shots)/\Sl U_ 1 A0p01 c0p01 d.Bout.Down.length (hH KL.encI d.Bout.Down)/\Sl U_ 2 A0p02 c0p02 d.Bout.Across.length (hH wAA d.Bout.Across)/\MpR es0p1 wDP wDl d.may)):=by
 unfold wCY at hm
 refine Gv.of Tryz.func65 Z Tryz.ntmps65 Tryz.results65 Z (sR gAz Z ?_)
 let B0:List Value:=[.slice be p0.Shots.length bh,.slice bf p0.Down.length bi,.slice bg p0.Across.length bj]
 refine ZI (cs:=B0) rfl rfl rfl rfl rfl rfl (by rfl) hS ?_
 intro W1 b2 bt
 refine oA Z Z (oA Z Z (eN (sR (.fl 0 (.fx 1 (wJL (.nil)) .stop)) Z (oL Z (bt.ldBA (j:=0) Z Z Z ZJ zr (vs:=B0) Z Z) ?_))))
 have q:=bnd hm
 obtain ⟨⟨x5,x6⟩,h7,aX⟩:=q
 try dsimp only at aX
 refine zK 0 Z Z Z Z (zJ Z Z Tryz.call53 (zB Z zP) Z) bt (fun hs=>wDA p0 be bh bf bi bg bj W1 U hs bN bO bP h7) (.inr Z) ?_
 rintro U9 bX b5 bl bZ bs br
 rcases x5 with _ | ab
 try dsimp only at aX
 obtain ⟨rfl,rfl⟩:=br
 have bL:sW w U U9 [.blk b2 25 B0] bl:=bs
 refine oM Z Z (oR Z (zz Z Z (v:=.pointer none) Z) (oR Z (zz Z Z (v:=jV x6) Z) (oA Z Z (oA Z Z (eN (zD (sR (wIf gBa) Z (oM Z Z (oR Z (Ze Z Z Z) (oM Z Z (ifc aX ?_ ?_)))))))))))
 intro aS bQ
 refine zW Z Z Z (wT Z aS) Z Z ?_
 cases bQ
 intro aS bR
 refine oF Z aS (ZF Z Z Z (zF Z Z (zk aS.out) Z) (oF Z aS (oR Z (zM Z (zk aS.out) Z) (eN (zp Z (kN (sR fL4 Z (oM Z Z (oM Z Z (oA Z Z (oA Z Z (eN (zI ?_)))))))))))))
 cases bR
 exact ⟨rfl,_,(wDX rfl rfl),U9,_,(bL.pick [] _ (by decide) rfl),rfl,rfl⟩
 try dsimp only at aX
 obtain ⟨ai,aj,ap,ak,aq,am,au,ah,aT,az,rfl,rfl,aY,aZ,ba,bb⟩:=br
 have bu:sW w U U9 [.blk ai 118 ([.slice aj ab.Bout.Shots.length ap,.slice ak ab.Bout.Down.length aq,.slice am ab.Bout.Across.length au,.map (some ah)] ++ ((hH KL.encI ab.hits.l) ++ ((hH KL.encI ab.used.l) ++ (hH KL.encT ab.met.l)))),.obj ah (.map aT az),.blk b2 25 B0] bl:=bs
 refine oM Z Z (oR Z (zz Z Z (v:=.pointer (some ⟨ai,0,none⟩)) Z) (oR Z (zz Z Z (v:=jV x6) Z) (oA Z Z (oA Z Z (eN (zD (sR (wIf gBa) Z (oM Z Z (oR Z (Ze Z Z Z) (oM Z Z (ifc aX ?_ ?_)))))))))))
 intro ae bS
 refine zW Z Z Z (wT Z ae) Z Z ?_
 have q:=bnd bS
 obtain ⟨⟨x40,x41⟩,bB,bv⟩:=q
 try dsimp only at bv
 refine zK 2 Z Z Z (wT Z ae) (zJ Z Z Tryz.call67 (zB Z zP) Z) bu (fun hs=>wDS ab ai aj ap ak aq am au ah aT az bl U9 hs aY aZ ba bb bB) (.inl Z) ?_
 rintro bk bY b8 bz aU bM ⟨bp,bA,rfl,rfl,bC⟩
 have bo:sW w U bk [.row bp bA 3 1 (hH KL.encI x40),.blk ai 118 ([.slice aj ab.Bout.Shots.length ap,.slice ak ab.Bout.Down.length aq,.slice am ab.Bout.Across.length au,.map (some ah)] ++ ((hH KL.encI x41.1.l) ++ ((hH KL.encI x41.2.1.l) ++ (hH KL.encT x41.2.2.l)))),.obj ah (.map aT az),.blk b2 25 B0] bz:=bM
 have bD:bp.isNone=decide (x40=[]):=wMS (j:=0) bo rfl (fun _=>rfl) (by decide) bC
 refine zX rfl rfl rfl (zC rfl rfl (ZX ae.out)) (fun _=>Runs.neNilR (b:=decide (¬ (x40=[]))) rfl rfl rfl zA (by simp [bD])) (zX rfl rfl rfl rfl (fun _=>zR rfl (ZX ae.out) rfl) (eN (ifc bv ?_ ?_)))
 intro bn bT
 refine zp (zk (fun h=>h bn.out)) (kN (sR fL4 Z (oM Z Z (oM Z Z (oA Z Z (oA Z Z (eN (zI ?_))))))))
 have bE:=aY.le aU
 have bF:=aZ.le aU
 have bG:=ba.le aU
 cases bT
 exact ⟨rfl,_,(wDX rfl rfl),bk,_,(bo.pick [1,2] _ (by decide) rfl),ai,aj,ap,ak,aq,am,au,ah,aT,az,rfl,rfl,bE,bF,bG,bb⟩
 intro bn bU
 refine cT Z bn (rR fL1 Z (oA Z Z (eN (sR fL4 Z (oM Z Z (oM Z Z (oA Z Z (oA Z Z (eN (zI ?_))))))))))
 have bH:=aY.le aU
 have bI:=aZ.le aU
 have bJ:=ba.le aU
 cases bU
 exact ⟨rfl,_,(wDX rfl rfl),bk,_,(bo.pick [1,2] _ (by decide) rfl),ai,aj,ap,ak,aq,am,au,ah,aT,az,rfl,rfl,bH,bI,bJ,bb⟩
 intro ae bV
 refine oF Z ae (ZF Z Z Z (zF Z Z (zk ae.out) Z) (oF Z ae (oR Z (zM Z (zk ae.out) Z) (eN (zp Z (kN (sR fL4 Z (oM Z Z (oM Z Z (oA Z Z (oA Z Z (eN (zI ?_)))))))))))))
 cases bV
 exact ⟨rfl,_,(wDX rfl rfl),U9,_,(bu.pick [0,1] _ (by decide) rfl),ai,aj,ap,ak,aq,am,au,ah,aT,az,rfl,rfl,aY,aZ,ba,bb⟩
theorem wHM (p0:wAB) (bk:Option Addr) (bn:Nat) (bl:Option Addr) (bo:Nat) (bm:Option Addr) (bp:Nat) (w:World) (U:PHeap) (hS:St0 w U []) (cV:Sl U 1 bk bn p0.Shots.length (hH KL.encI p0.Shots)) (cW:Sl U 1 bl bo p0.Down.length (hH KL.encI p0.Down)) (cX:Sl U 2 bm bp p0.Across.length (hH wAA p0.Across)) {r:(List (List Int)) × Int} (hm:wBx p0=some r):Gv Tryz.prog 17 [.agg #[.slice bk p0.Shots.length bn,.slice bl p0.Down.length bo,.slice bm p0.Across.length bp]] w (wCb w [] U (fun U_ L_ v=>∃ (A0:Option Addr) (c0:Nat) (bN:List Value),v=.tuple #[.slice A0 r.1.length c0,jV r.2]/\L_=[.row A0 c0 22 1 bN]/\RlL U_ wEV r.1 bN)):=by
 unfold wBx at hm
 refine Gv.of Tryz.func17 Z Tryz.ntmps17 Tryz.results17 Z (sR gAz Z ?_)
 let B0:List Value:=[.slice bk p0.Shots.length bn,.slice bl p0.Down.length bo,.slice bm p0.Across.length bp]
 refine ZI (cs:=B0) rfl rfl rfl rfl rfl rfl (by rfl) hS ?_
 intro W1 b2 bU
 refine oA Z Z (oA Z Z (eN (sR (.fl 0 (.fx 1 (wJL (.nil)) .stop)) Z (oL Z (bU.ldBA (j:=0) Z Z Z ZJ zr (vs:=B0) Z Z) ?_))))
 have q:=bnd hm
 obtain ⟨⟨x5,x6⟩,h7,ba⟩:=q
 try dsimp only at ba
 refine zK 0 Z Z Z Z (zJ Z Z Tryz.call65 (zB Z zP) Z) bU (fun hs=>wHL p0 bk bn bl bo bm bp W1 U hs cV cW cX h7) (.inr Z) ?_
 rintro U9 dD dR bH dP bT bR
 rcases x5 with _ | aa
 try dsimp only at ba
 obtain ⟨rfl,rfl⟩:=bR
 have cQ:sW w U U9 [.blk b2 25 B0] bH:=bT
 refine oM Z Z (oR Z (zz Z Z (v:=.pointer none) Z) (oR Z (zz Z Z (v:=jV x6) Z) (oA Z Z (oA Z Z (eN (zD (sR fL2 Z (oM Z Z (oR Z (zw Z Z Z) (eN (ifc ba ?_ ?_)))))))))))
 intro br dh
 refine zp (zk (fun h=>h br.out)) (kN (sR fL1 Z (oA Z Z (eN (zD (sR fL7 Z (oM Z Z ?_)))))))
 cases dh
 intro br dk
 refine cT Z br (sR fL3 Z (oM Z Z (oA Z Z (oA Z Z (eN (zI (zH ?_)))))))
 have cR:=cQ.nilrow 22 1
 cases dk
 exact ⟨rfl,_,(wDX rfl rfl),U9,_,(cR.pick [0] _ (by decide) rfl),none,0,[],rfl,rfl,RlL.nil⟩
 try dsimp only at ba
 obtain ⟨ai,au,aS,az,aT,aU,aW,ab,ap,am,rfl,rfl,dI,dJ,dK,dL⟩:=bR
 have bw:sW w U U9 [.blk ai 118 ([.slice au aa.Bout.Shots.length aS,.slice az aa.Bout.Down.length aT,.slice aU aa.Bout.Across.length aW,.map (some ab)] ++ ((hH KL.encI aa.hits.l) ++ ((hH KL.encI aa.used.l) ++ (hH KL.encT aa.met.l)))),.obj ab (.map ap am),.blk b2 25 B0] bH:=bT
 refine oM Z Z (oR Z (zz Z Z (v:=.pointer (some ⟨ai,0,none⟩)) Z) (oR Z (zz Z Z (v:=jV x6) Z) (oA Z Z (oA Z Z (eN (zD (sR fL2 Z (oM Z Z (oR Z (zw Z Z Z) (eN (ifc ba ?_ ?_)))))))))))
 intro bs dm
 refine zp (zk (fun h=>h bs.out)) (kN (sR fL1 Z (oA Z Z (eN (zD (sR fL7 Z (oM Z Z (oR Z (ZH Z Z) (oR Z (zU Z Z zf Z zr) (oR Z (zU Z Z zO Z zS) (oL Z (bw.ldB (j:=0) Z Z Z zY (v:=.slice au aa.Bout.Shots.length aS) Z) (oR Z (zi Z Z zA) (oM Z Z (eN (zd (bnK dm fun dU cZ dp=>?_))))))))))))))))
 have q:=wDI cZ
 obtain ⟨bB,da⟩:=q
 replace bB:=zE bB
 refine CK.forN' (fun aj bj σ_ w_=>∃ (U_:PHeap) (be:Option Addr) (bh:Nat) (bi:List Value),σ_ 22=jV (↑aj:Int)/\σ_ 4=.pointer (some ⟨ai,0,none⟩)/\σ_ 6=.slice be bj.length bh/\σ_ 21=jV (↑aa.Bout.Shots.length:Int)/\PHeap.Le U9 U_/\sW w U U_ [.blk ai 118 ([.slice au aa.Bout.Shots.length aS,.slice az aa.Bout.Down.length aT,.slice aU aa.Bout.Across.length aW,.map (some ab)] ++ ((hH KL.encI aa.hits.l) ++ ((hH KL.encI aa.used.l) ++ (hH KL.encT aa.met.l)))),.obj ab (.map ap am),.blk b2 25 B0,.row be bh 22 1 bi] w_/\RlL U_ wEV bj bi) da ?_ ?_ ?_
 have cS:=bw.nilrow 22 1
 exact ⟨U9,none,0,[],rfl,rfl,rfl,rfl,(zZ _),(cS.pick [1,2,3,0] _ (by decide) rfl),RlL.nil⟩
 rintro aj bj dT dW bI bA ⟨dF,be,bh,bi,bu,bt,cr,bP,dz,cU,cA⟩ dx
 have bM:Hid ((↑aj:Int) < (↑aa.Bout.Shots.length:Int)):=zE (wBz bA)
 replace bA:=zE bA
 have db:Hid (w64 ((↑aj:Int) + 1)=(↑(aj + 1):Int)):=zE (by have h1:=bB.out;have h2:=bM.out;rw [wAO] <;> omega)
 refine sR fL1 rfl (zX rfl rfl rfl rfl (fun _=>ze rfl bu bP) (eN (zD (cT Z bM (kN (zD (zd (sR fL2 rfl (zW rfl rfl rfl rfl rfl bu (OKS.ra rfl rfl rfl rfl rfl rfl (eN (ZP ZL [3,3,3,3,3,3,3,3,3,3,1,3,3,2,2,0,3] (wHy (.fx 13 (.fx 14 (.fx 15 (.fl 16 .nil) .stop) .stop) .stop)) (by kernel_rfl) ?_))))))))))))
 have bz:=cU.drew
 generalize hw_W88:({ bI with drawn:=bI.drawn + 1 }:World)=bJ at bz ⊢
 refine oM Z cr (oM Z bt (oM Z Z (oR Z (ZH Z Z) (oR Z (zU Z Z zf Z Zp) (bnK dx fun _ bv dq=>oR Z (ZT Z Z Z Za Zd (wCV bv) (wCW bv)) (oM Z bt (oR Z (ZH Z Z) (oR Z (zU Z Z zf Z zr) (oR Z (zU Z Z zO Z zS) (oL Z (bz.ldB (j:=0) Z Z Z zY (v:=.slice az aa.Bout.Down.length aT) Z) (oR Z (zi Z Z zA) (bnK dq fun x91 cB dr=>?_))))))))))))
 have q:=wRO cB
 obtain ⟨dM,dN,aX,cY,bV⟩:=q
 have aX:aa.Bout.Down.length <= 8:=by have h1:=aX;rw [List.length_take] at h1;omega
 refine zX (v:=.slice (some ⟨ai,4 + aj * 8,none⟩) x91.length 8) rfl rfl rfl rfl (fun _=>ZB (Runs.slAh (k:=aa.Bout.Down.length) rfl rfl rfl ZO zN aX) (by rw [bV];rfl)) ?_
 obtain ⟨bG,dO,du,cC,dA⟩:=St.freezeTP (c:=8) (xs:=x91) (off:=4 + aj * 8) (f:=KL.encI) (sz:=1) bz (k:=0) rfl (fun _=>rfl) (wPi (f:=KL.encI) (sz:=1) (s:=(aj * 8)) (n:=aa.Bout.Down.length) (len:=8) (fun _=>rfl) (by first | omega | (simp only [nE,nH];omega) | (show _=4 + _;omega) | (simp;done)) cY aX (by have h9:=aa.hits.h;have h8:(aj * 8) < 64:=(by have hz0:=wAe bv;omega);have h7:=aX;rw [h9];omega)) (by rw [bV];exact aX)
 let B1:Res:=.row be bh 22 1 bi
 have cD:sW w U bG [.obj ab (.map ap am),.blk b2 25 B0,B1] bJ:=cC
 refine bnK dr fun aq cu de=>zK 0 Z Z Z Z (zJ Z Z Tryz.call56 (zB Z zP) Z) cD (fun hs=>wBY x91 (some ⟨ai,4 + aj * 8,none⟩) 8 bJ bG hs du cu) (.inr Z) ?_
 rintro b5 dE dS bq dy cE ⟨bb,bg,rfl,rfl⟩
 let B2:Res:=.row bb bg 3 1 (hH KL.encI aq)
 have cG:sW w U b5 [B2,.obj ab (.map ap am),.blk b2 25 B0,B1] bq:=cE
 have q:=dA _ _ _ dy cG
 obtain ⟨b8,bX,cH⟩:=q
 have cI:sW w U b8 [.blk ai 118 ([.slice au aa.Bout.Shots.length aS,.slice az aa.Bout.Down.length aT,.slice aU aa.Bout.Across.length aW,.map (some ab)] ++ ((hH KL.encI aa.hits.l) ++ ((hH KL.encI aa.used.l) ++ (hH KL.encT aa.met.l)))),B2,.obj ab (.map ap am),.blk b2 25 B0,B1] bq:=cH
 have q:=cI.freezeR (k:=1) (n:=aq.length) rfl (wAJ (f:=KL.encI) (sz:=1) (fun _=>rfl) aq) (by decide)
 obtain ⟨aZ,bY,dw,cK⟩:=q
 have cL:sW w U aZ [.blk ai 118 ([.slice au aa.Bout.Shots.length aS,.slice az aa.Bout.Down.length aT,.slice aU aa.Bout.Across.length aW,.map (some ab)] ++ ((hH KL.encI aa.hits.l) ++ ((hH KL.encI aa.used.l) ++ (hH KL.encT aa.met.l)))),.obj ab (.map ap am),.blk b2 25 B0,B1] bq:=cK
 let B3:List Value:=[.slice bb aq.length bg]
 refine OKS.buildSlice (pv:=[(0,.slice bb aq.length bg)]) (zs:=[.slice none 0 0]) (cs:=B3) Z Z Z Z Z (wBq Z wDL) zl zS Tryz.zeroValue22 Z Z Z Z Z cL ?_
 intro cf ci cJ
 have bW:RlL aZ wEV [aq] B3:=(RlL.cons (R:=wEV) (x:=aq) (vs:=B3) ⟨bb,bg,rfl,dw⟩ RlL.nil)
 let B4:Res:=.row (some ⟨ci,0,none⟩) 1 22 1 B3
 have bS:sW w U aZ [B4,.blk ai 118 ([.slice au aa.Bout.Shots.length aS,.slice az aa.Bout.Down.length aT,.slice aU aa.Bout.Across.length aW,.map (some ab)] ++ ((hH KL.encI aa.hits.l) ++ ((hH KL.encI aa.used.l) ++ (hH KL.encT aa.met.l)))),.obj ab (.map ap am),.blk b2 25 B0,B1] cf:=cJ
 refine bnK de fun dB cw df=>?_
 have cx:=cA.le bX
 have cy:=cx.le bY
 refine OKS.appendR (R:=wEV) (j:=4) (xs:=bj) (ys:=[aq]) (zs:=dB) rfl rfl rfl rfl rfl Tryz.underlying26 wPM rfl rfl rfl rfl rfl rfl rfl bS rfl rfl rfl cy bW (bS.srcR (j:=0) rfl (by decide) (RlL.len bW)) cw rfl ?_
 intro bD bL bO cg cM dt
 have cN:sW w U aZ [B4,.blk ai 118 ([.slice au aa.Bout.Shots.length aS,.slice az aa.Bout.Down.length aT,.slice aU aa.Bout.Across.length aW,.map (some ab)] ++ ((hH KL.encI aa.hits.l) ++ ((hH KL.encI aa.used.l) ++ (hH KL.encT aa.met.l)))),.obj ab (.map ap am),.blk b2 25 B0,.row bD bL 22 1 bO] cg:=cM
 refine oA Z Z (zq (zj (zG (rR fL2 Z (oR Z (ZB (zo Z bu Z) (congrArg (jV) db.out)) (oM Z Z (zq ?_)))))))
 cases df
 exact zG ⟨rfl,⟨aZ,bD,bL,bO,rfl,bt,rfl,bP,((dz.trans bX).trans bY),(cN.pick [1,2,3,4] _ (by decide) rfl),dt⟩⟩
 rintro dV dG ⟨b9,bZ,cj,cm,ct,dH,cp,cq,dQ,cO,cz⟩
 have cn:Hid (¬ ((↑(((↑aa.Bout.Shots.length:Int):Int) - 0).toNat:Int) < (↑aa.Bout.Shots.length:Int))):=zE (wBO)
 refine sR fL1 Z (oR Z (ze Z ct cq) (eN (zD (cF Z cn (ZC (zh (zh (zy (zG (sR fL3 Z (oM Z cp (oA Z Z (oA Z Z (eN (zI ?_)))))))))))))))
 cases dp
 exact ⟨rfl,_,(wDX rfl rfl),b9,_,(cO.pick [3] _ (by decide) rfl),bZ,cj,cm,rfl,rfl,cz⟩
 intro bs dg
 refine cT Z bs (sR fL3 Z (oM Z Z (oA Z Z (oA Z Z (eN (zI (zH ?_)))))))
 have cP:=bw.nilrow 22 1
 cases dg
 exact ⟨rfl,_,(wDX rfl rfl),U9,_,(cP.pick [0] _ (by decide) rfl),none,0,[],rfl,rfl,RlL.nil⟩
theorem wFO (p0:wAE) (ak:Option Addr) (ap:Nat) (ae:Option Addr) (ah:Nat) (am:Option Addr) (aq:Nat) (w:World) (U:PHeap) (hS:St0 w U []) (bj:Sl U 1 ak ap p0.Shots.length (hH KL.encI p0.Shots)) (bk:Sl U 1 ae ah p0.Down.length (hH KL.encI p0.Down)) (bl:Sl U 2 am aq p0.Across.length (hH wAD p0.Across)) {r:Int} (hm:wBy p0=some r):Gv Tryz.prog 99 [.agg #[.slice ak p0.Shots.length ap,.slice ae p0.Down.length ah,.slice am p0.Across.length aq]] w (wCb w [] U (fun U_ L_ v=>v=jV r/\L_=[])):=by
 unfold wBy at hm
 refine Gv.of Tryz.func99 Z Tryz.ntmps99 Tryz.results99 Z (sR gAw Z ?_)
 let B0:List Value:=[.slice ak p0.Shots.length ap,.slice ae p0.Down.length ah,.slice am p0.Across.length aq]
 refine ZI (cs:=B0) rfl rfl rfl rfl rfl rfl (by rfl) hS ?_
 intro W1 b2 ba
 refine oA Z Z (eN (sR fL1 Z (oA Z Z (eN (zD (sR fL1 Z (oA Z Z (eN (zd (CK.iter (fun (aY,x12) σ_ w_=>∃ (U_:PHeap),σ_ 1=.pointer (some ⟨b2,0,none⟩)/\σ_ 3=jV aY/\σ_ 4=jV x12/\PHeap.Le U U_/\sW w U U_ [.blk b2 34 B0] w_) hm ?_ ?_))))))))))
 exact ⟨U,Z,Z,Z,(zZ _),ba⟩
 rintro ⟨aY,x12⟩ bm bn bi ⟨az,aT,aU,aV,bf,ai⟩ aj bb
 try dsimp only at aj
 refine zD (sR fL5 Z (oM Z aV (oR Z (zU Z aT zm Z zS) (oL Z (ai.ldB (j:=0) Z Z Z zY (v:=.slice ae p0.Down.length ah) Z) (oR Z (zi Z Z zA) (oR Z (ze Z Z Z) (eN ?_)))))))
 by_cases ab:x12 < (↑p0.Down.length:Int)
 have aW:=aj;rw [if_pos ab] at aW;replace ab:=zE ab
 refine cT Z ab (kN (zD (zd (rR fL3 Z (oM Z aU (oR Z (Runs.mulw Z Z Z) (oA Z Z (zq (zj (zG (rR fL3 Z (oM Z aV (oR Z (zo Z Z Z) (oA Z Z (zq ?_)))))))))))))))
 have q:=nA aW
 obtain rfl:=q
 exact zG ⟨Z,_,Z,⟨az,aT,Z,Z,bf,ai⟩⟩
 have aX:=aj;rw [if_neg ab] at aX;replace ab:=zE ab
 refine cF Z ab (ZC (zh ?_))
 have q:=wAI aX
 obtain ⟨bg,be,aZ⟩:=q
 have q:=bb bg aZ
 obtain rfl:=q
 refine zh (zy (zG (sR fL2 Z (oM Z aU (oA Z Z (eN (zI ?_)))))))
 have hE:=nA be;first | subst r | cases hE
 exact ⟨rfl,_,(zn rfl),az,_,(ai.pick [] _ (by decide) rfl),rfl,rfl⟩
end Go.Proofs.YtfcmijinklojbaaGreat
namespace Go.Proofs.YtfcmijinklojbaaGreat
open Go.KL
set_option maxHeartbeats 4000000
theorem wEB (p0:wAE) (ae:Option Addr) (aj:Nat) (ah:Option Addr) (ak:Nat) (ai:Option Addr) (am:Nat) (p1:Int) (p2:Int) (w:World) (U:PHeap) (hS:St0 w U []) (bB:Sl U 1 ae aj p0.Shots.length (hH KL.encI p0.Shots)) (bC:Sl U 1 ah ak p0.Down.length (hH KL.encI p0.Down)) (bD:Sl U 2 ai am p0.Across.length (hH wAD p0.Across)) {r:Bool} (hm:wBU p0 p1 p2=some r):Gv Tryz.prog 66 [.agg #[.slice ae p0.Shots.length aj,.slice ah p0.Down.length ak,.slice ai p0.Across.length am],jV p1,jV p2] w (wCb w [] U (fun U_ L_ v=>v=.bool r/\L_=[])):=by
 unfold wBU at hm
 refine Gv.of Tryz.func66 Z Tryz.ntmps66 Tryz.results66 Z (sR gAw Z ?_)
 let B0:List Value:=[.slice ae p0.Shots.length aj,.slice ah p0.Down.length ak,.slice ai p0.Across.length am]
 refine ZI (cs:=B0) rfl rfl rfl rfl rfl rfl (by rfl) hS ?_
 intro W1 b2 bw
 refine oA Z Z (eN (zD (sR fL1 Z (oA Z Z (eN (zd (CK.iter (fun x8 σ_ w_=>∃ (U_:PHeap),σ_ 1=jV p1/\σ_ 2=jV p2/\σ_ 3=.pointer (some ⟨b2,0,none⟩)/\σ_ 7=jV x8/\PHeap.Le U U_/\sW w U U_ [.blk b2 34 B0] w_) hm ?_ ?_)))))))
 exact ⟨U,Z,Z,Z,Z,(zZ _),bw⟩
 rintro x8 bW bX bn ⟨bm,be,bf,aX,aY,aq,bj⟩ bM bl
 refine zD (sR gBc Z (oM Z aY (oL Z (bj.ldBA (j:=0) Z Z aX ZN ZD (vs:=B0) Z Z) ?_)))
 have bg:=bB.le aq
 have bh:=bC.le aq
 have bi:=bD.le aq
 refine bnK bM fun bV br bE=>zK 0 Z Z Z Z (zJ Z Z Tryz.call99 (zB Z zP) Z) bj (fun hs=>wFO p0 ae aj ah ak ai am bn bm hs bg bh bi br) (.inr Z) ?_
 rintro aT bQ bT bb au bz ⟨rfl,rfl⟩
 have aZ:sW w U aT [.blk b2 34 B0] bb:=bz
 refine oR Z (ze Z Z Z) (eN (ifc bE ?_ ?_))
 intro aV bF
 refine cT Z aV (kN (zD (zd (sR (wIf (.fx 4 (.fl 5 .nil) .stop)) Z (oL Z (aZ.ldBA (j:=0) Z Z aX ZN ZD (vs:=B0) Z Z) (oM Z aY (oM Z be (oM Z bf ?_))))))))
 have bs:=bg.le au
 have bt:=bh.le au
 have bu:=bi.le au
 refine bnK bF fun x41 bv bG=>zK 0 Z Z Z Z (zJ Z Z Tryz.call64 (zB Z (zB Z (zB Z (zB Z (zB Z zP))))) Z) aZ (fun hs=>wCs p0 ae aj ah ak ai am x8 (-1) p1 p2 bb aT hs bs bt bu bv) (.inr Z) ?_
 rintro aU bR bU bo bN bA ⟨rfl,rfl⟩
 have bk:sW w U aU [.blk b2 34 B0] bo:=bA
 refine oR Z (ZR Z Z Z) (eN (ifc bG ?_ ?_))
 intro aW bH
 refine cT Z aW (sR fL1 Z (oA Z Z (eN (zI (zV (zH ?_))))))
 have q:=wAI bH
 obtain ⟨bO,bI,bp⟩:=q
 have q:=bl bO bp
 obtain rfl:=q
 refine zH (zV (zH ?_))
 have hE:=nA bI;first | subst r | cases hE
 exact ⟨rfl,_,(zn rfl),aU,_,(bk.pick [] _ (by decide) rfl),rfl,rfl⟩
 intro aW bJ
 refine cF Z aW (ZG (zj (zG (rR fL3 Z (oM Z aY (oR Z (zo Z Z Z) (oA Z Z (zq ?_))))))))
 have q:=nA bJ
 obtain rfl:=q
 exact zG ⟨Z,_,Z,⟨aU,be,bf,aX,Z,((aq.trans au).trans bN),bk⟩⟩
 intro aV bK
 refine cF Z aV (ZC (zh ?_))
 have q:=wAI bK
 obtain ⟨bP,bL,bq⟩:=q
 have q:=bl bP bq
 obtain rfl:=q
 refine zh (zy (zG (sR fL1 Z (oA Z Z (eN (zI ?_))))))
 have hE:=nA bL;first | subst r | cases hE
 exact ⟨rfl,_,(zn rfl),aT,_,(aZ.pick [] _ (by decide) rfl),rfl,rfl⟩
theorem wEC (p0:wAE) (ae:Option Addr) (aj:Nat) (ah:Option Addr) (ak:Nat) (ai:Option Addr) (am:Nat) (w:World) (U:PHeap) (hS:St0 w U []) (aY:Sl U 1 ae aj p0.Shots.length (hH KL.encI p0.Shots)) (aZ:Sl U 1 ah ak p0.Down.length (hH KL.encI p0.Down)) (ba:Sl U 2 ai am p0.Across.length (hH wAD p0.Across)) {r:Int} (hm:wAY p0=some r):Gv Tryz.prog 18 [.agg #[.slice ae p0.Shots.length aj,.slice ah p0.Down.length ak,.slice ai p0.Across.length am]] w (wCb w [] U (fun U_ L_ v=>v=jV r/\L_=[])):=by
 unfold wAY at hm
 refine Gv.of Tryz.func18 Z Tryz.ntmps18 Tryz.results18 Z (sR gAw Z ?_)
 let B0:List Value:=[.slice ae p0.Shots.length aj,.slice ah p0.Down.length ak,.slice ai p0.Across.length am]
 refine ZI (cs:=B0) rfl rfl rfl rfl rfl rfl (by rfl) hS ?_
 intro W1 b2 aX
 refine oA Z Z (eN (zD (sR gAy Z (oL Z (aX.ldBA (j:=0) Z Z Z ZN ZD (vs:=B0) Z Z) (bnK hm fun x5 h6 br=>zK 0 Z Z Z Z (zJ Z Z Tryz.call11 (zB Z zP) Z) aX (fun hs=>wCG p0 ae aj ah ak ai am W1 U hs aY aZ ba h6) (.inr Z) ?_)))))
 rintro U8 L9 bv aU aT bk ⟨rfl,rfl⟩
 have aS:sW w U U8 [.blk b2 34 B0] aU:=bk
 refine oA Z Z (eN (sR fL2 Z (oM Z Z (oR Z (zw Z Z Z) (eN (ifc br ?_ ?_))))))
 intro au bm
 refine zp (zk (fun h=>h au.out)) (kN (zD (sR gAy Z (oL Z (aS.ldBA (j:=0) Z Z Z ZN ZD (vs:=B0) Z Z) ?_))))
 have bf:=aY.le aT
 have bg:=aZ.le aT
 have bh:=ba.le aT
 refine bnK bm fun bz bi bn=>zK 0 Z Z Z Z (zJ Z Z Tryz.call66 (zB Z (zB Z (zB Z zP))) Z) aS (fun hs=>wEB p0 ae aj ah ak ai am (-1) (-1) aU U8 hs bf bg bh bi) (.inr Z) ?_
 rintro ap bs bw be bu bl ⟨rfl,rfl⟩
 have aW:sW w U ap [.blk b2 34 B0] be:=bl
 refine oR Z (ZQ Z Z) (eN (ifc bn ?_ ?_))
 intro az bo
 refine zp (nC az.out) (kN (sR fL1 Z (oA Z Z (eN (zI ?_)))))
 cases bo
 exact ⟨rfl,_,(zn rfl),ap,_,(aW.pick [] _ (by decide) rfl),rfl,rfl⟩
 intro az bp
 refine zt (nF (az.out)) (sR fL1 Z (oA Z Z (eN (zI (zH ?_)))))
 cases bp
 exact ⟨rfl,_,(zn rfl),ap,_,(aW.pick [] _ (by decide) rfl),rfl,rfl⟩
 intro au bq
 refine cT Z au (sR fL2 Z (oM Z Z (oA Z Z (eN (zI (zH ?_))))))
 have hE:=nA bq;first | subst r | cases hE
 exact ⟨rfl,_,(zn rfl),U8,_,(aS.pick [] _ (by decide) rfl),rfl,rfl⟩
theorem wEu (p0:wAB) (am:Option Addr) (au:Nat) (ap:Option Addr) (az:Nat) (aq:Option Addr) (aS:Nat) (w:World) (U:PHeap) (hS:St0 w U []) (bK:Sl U 1 am au p0.Shots.length (hH KL.encI p0.Shots)) (bL:Sl U 1 ap az p0.Down.length (hH KL.encI p0.Down)) (bM:Sl U 2 aq aS p0.Across.length (hH wAA p0.Across)) {r:(List Int) × Int} (hm:wBd p0=some r):Gv Tryz.prog 19 [.agg #[.slice am p0.Shots.length au,.slice ap p0.Down.length az,.slice aq p0.Across.length aS]] w (wCb w [] U (fun U_ L_ v=>∃ (A0:Option Addr) (c0:Nat),v=.tuple #[.slice A0 r.1.length c0,jV r.2]/\L_=[.row A0 c0 3 1 (hH KL.encI r.1)])):=by
 unfold wBd at hm
 refine Gv.of Tryz.func19 Z Tryz.ntmps19 Tryz.results19 Z (sR gAz Z ?_)
 let B0:List Value:=[.slice am p0.Shots.length au,.slice ap p0.Down.length az,.slice aq p0.Across.length aS]
 refine ZI (cs:=B0) rfl rfl rfl rfl rfl rfl (by rfl) hS ?_
 intro W1 b2 bq
 refine oA Z Z (oA Z Z (eN (sR (.fl 0 (.fx 1 (wJL (.nil)) .stop)) Z (oL Z (bq.ldBA (j:=0) Z Z Z ZJ zr (vs:=B0) Z Z) ?_))))
 have q:=bnd hm
 obtain ⟨⟨x5,x6⟩,h7,ai⟩:=q
 try dsimp only at ai
 refine zK 0 Z Z Z Z (zJ Z Z Tryz.call53 (zB Z zP) Z) bq (fun hs=>wDA p0 am au ap az aq aS W1 U hs bK bL bM h7) (.inr Z) ?_
 rintro U9 bU bY aY bW bp bo
 rcases x5 with _ | ab
 try dsimp only at ai
 obtain ⟨rfl,rfl⟩:=bo
 have bF:sW w U U9 [.blk b2 25 B0] aY:=bp
 refine oM Z Z (oR Z (zz Z Z (v:=.pointer none) Z) (oR Z (zz Z Z (v:=jV x6) Z) (oA Z Z (oA Z Z (eN (zD (sR fL2 Z (oM Z Z (oR Z (zw Z Z Z) (eN (ifc ai ?_ ?_)))))))))))
 intro bg bN
 refine zp (zk (fun h=>h bg.out)) (kN (zD (sR gAy Z (oM Z Z ?_))))
 cases bN
 intro bg bO
 refine cT Z bg (sR fL3 Z (oM Z Z (oA Z Z (oA Z Z (eN (zI (zH ?_)))))))
 have bG:=bF.nilrow 3 1
 cases bO
 exact ⟨rfl,_,(wDX rfl rfl),U9,_,(bG.pick [0] _ (by decide) rfl),none,0,rfl,rfl⟩
 try dsimp only at ai
 obtain ⟨ak,aT,ba,aU,bb,aV,be,aj,bj,bf,rfl,rfl,bv,bw,bz,bA⟩:=bo
 have br:sW w U U9 [.blk ak 118 ([.slice aT ab.Bout.Shots.length ba,.slice aU ab.Bout.Down.length bb,.slice aV ab.Bout.Across.length be,.map (some aj)] ++ ((hH KL.encI ab.hits.l) ++ ((hH KL.encI ab.used.l) ++ (hH KL.encT ab.met.l)))),.obj aj (.map bj bf),.blk b2 25 B0] aY:=bp
 refine oM Z Z (oR Z (zz Z Z (v:=.pointer (some ⟨ak,0,none⟩)) Z) (oR Z (zz Z Z (v:=jV x6) Z) (oA Z Z (oA Z Z (eN (zD (sR fL2 Z (oM Z Z (oR Z (zw Z Z Z) (eN (ifc ai ?_ ?_)))))))))))
 intro bh bP
 refine zp (zk (fun h=>h bh.out)) (kN (zD (sR gAy Z (oM Z Z ?_))))
 have q:=bnd bP
 obtain ⟨⟨x42,x43⟩,bB,bs⟩:=q
 try dsimp only at bs
 refine zK 2 Z Z Z Z (zJ Z Z Tryz.call67 (zB Z zP) Z) br (fun hs=>wDS ab ak aT ba aU bb aV be aj bj bf aY U9 hs bv bw bz bA bB) (.inl Z) ?_
 rintro aX bV bZ bu bX bH ⟨aW,bn,rfl,rfl,bC⟩
 have bk:sW w U aX [.row aW bn 3 1 (hH KL.encI x42),.blk ak 118 ([.slice aT ab.Bout.Shots.length ba,.slice aU ab.Bout.Down.length bb,.slice aV ab.Bout.Across.length be,.map (some aj)] ++ ((hH KL.encI x43.1.l) ++ ((hH KL.encI x43.2.1.l) ++ (hH KL.encT x43.2.2.l)))),.obj aj (.map bj bf),.blk b2 25 B0] bu:=bH
 refine oA Z Z (eN (sR fL2 Z (oM Z Z ?_)))
 have bD:aW.isNone=decide (x42=[]):=wMS (j:=0) bk rfl (fun _=>rfl) (by decide) bC
 refine zX rfl rfl rfl rfl (fun _=>Runs.neNilR (b:=decide (¬ (x42=[]))) rfl rfl rfl zA (by simp [bD])) (eN (ifc bs ?_ ?_))
 intro bi bQ
 refine zp (zk (fun h=>h bi.out)) (kN (sR fL2 Z (oA Z Z (oA Z Z (eN (zI ?_))))))
 have bI:=bk.nilrow 3 1
 cases bQ
 exact ⟨rfl,_,(wDX rfl rfl),aX,_,(bI.pick [0] _ (by decide) rfl),none,0,rfl,rfl⟩
 intro bi bR
 refine cT Z bi (sR fL3 Z (oM Z Z (oA Z Z (oA Z Z (eN (zI (zH ?_)))))))
 cases bR
 exact ⟨rfl,_,(wDX rfl rfl),aX,_,(bk.pick [0] _ (by decide) rfl),aW,bn,rfl,rfl⟩
 intro bh bS
 refine cT Z bh (sR fL3 Z (oM Z Z (oA Z Z (oA Z Z (eN (zI (zH ?_)))))))
 have bJ:=br.nilrow 3 1
 cases bS
 exact ⟨rfl,_,(wDX rfl rfl),U9,_,(bJ.pick [0] _ (by decide) rfl),none,0,rfl,rfl⟩
theorem wBZ (p0:List Int) (aS:Option Addr) (aU:Nat) (p1:List Int) (aT:Option Addr) (aV:Nat) (w:World) (U:PHeap) (hS:St0 w U []) (bw:Sl U 1 aS aU p0.length (hH KL.encI p0)) (bz:Sl U 1 aT aV p1.length (hH KL.encI p1)) {r:Bool} (hm:wAQ p0 p1=some r):Gv Tryz.prog 22 [.slice aS p0.length aU,.slice aT p1.length aV] w (wCb w [] U (fun U_ L_ v=>v=.bool r/\L_=[])):=by
 unfold wAQ at hm
 refine Gv.of Tryz.func22 Z Tryz.ntmps22 Tryz.results22 Z (sR fL1 Z (oA Z Z (eN (zD (sR fL5 Z (oM Z Z (oR Z (zi Z Z zA) (oM Z Z (oR Z (zi Z Z zA) (oR Z (zw Z Z Z) (eN ?_)))))))))))
 by_cases c1:(↑p0.length:Int)=(↑p1.length:Int)
 have aj:=hm;rw [if_pos c1] at aj;replace c1:=zE c1
 refine zp (zk (fun h=>h c1.out)) (kN (zD (sR fL3 Z (oM Z Z (oR Z (zi Z Z zA) (oM Z Z (eN (zd ?_))))))))
 have q:=wBp aj
 obtain ⟨r5,ap⟩:=q
 have q:=wCA ap
 obtain ⟨au,bC⟩:=q
 replace au:=zE au
 refine Zf (fun k4 _ σ_ w_=>∃ (U_:PHeap),σ_ 13=jV (↑k4:Int)/\σ_ 0=.slice aS p0.length aU/\σ_ 1=.slice aT p1.length aV/\σ_ 12=jV (↑p0.length:Int)/\PHeap.Le U U_/\sW w U U_ [] w_) bC ?_ ?_ ?_
 exact ⟨U,Z,Z,Z,Z,(zZ _),hS⟩
 rintro k4 ⟨⟩ bV bX aX aq ⟨aW,am,aZ,ba,bb,az,bu⟩ bi bA
 try dsimp only at bi
 have aY:Hid ((↑k4:Int) < (↑p0.length:Int)):=zE (wBz aq)
 replace aq:=zE aq
 have bD:Hid (w64 ((↑k4:Int) + 1)=(↑(k4 + 1):Int)):=zE (by have h1:=au.out;have h2:=aY.out;rw [wAO] <;> omega)
 refine sR fL1 rfl (zX rfl rfl rfl rfl (fun _=>ze rfl am bb) (eN (zD (cT Z aY (kN (zD (zd (sR fL2 rfl (zW rfl rfl rfl rfl rfl am (OKS.ra rfl rfl rfl rfl rfl rfl (eN (zD (ZP ZL [3,3,3,1,3,3,3,1,3] fL9 (by kernel_rfl) ?_)))))))))))))
 have ah:=bu.drew
 generalize hw_W25:({ aX with drawn:=aX.drawn + 1 }:World)=bL at ah ⊢
 refine oM Z aZ (oM Z Z (bnK bi fun bK be bE=>?_))
 have bo:=bw.le az
 have q:=bo.el (fun _=>rfl) (wAN be)
 obtain ⟨bN,bS,bq,bs⟩:=q
 refine oR Z (zu Z Z bq Z zA zN (wBP be)) (oL Z (ah.ldC (f:=0) bs (v:=jV bK) Z Z zQ Z) (oM Z ba (oM Z Z (bnK bE fun x34 bf bF=>?_))))
 have bp:=bz.le az
 have q:=bp.el (fun _=>rfl) (wAN bf)
 obtain ⟨bO,bT,br,bt⟩:=q
 refine oR Z (zu Z Z br Z zA zN (wBP bf)) (oL Z (ah.ldC (f:=0) bt (v:=jV x34) Z Z zQ Z) (oR Z (zw Z Z Z) (eN (ifc bF ?_ ?_))))
 intro ak bG
 refine zp (zk (fun h=>h ak.out)) (ZG (zj (zG (rR fL2 Z (oR Z (ZB (zo Z am Z) (congrArg (jV) bD.out)) (oM Z Z (zq ?_)))))))
 have q:=nA bG
 obtain rfl:=q
 exact zG ⟨Z,_,Z,⟨aW,Z,aZ,ba,bb,az,ah⟩⟩
 intro ak bH
 refine cT Z ak (sR fL1 Z (oA Z Z (eN (zI (zV (zH ?_))))))
 have q:=wAI bH
 obtain ⟨bJ,bI,bl⟩:=q
 have q:=wBI aj ap (bA bJ bl)
 obtain rfl:=q
 refine zH (zV (zH ?_))
 have hE:=nA bI;first | subst r | cases hE
 exact ⟨Z,_,(zn Z),aW,_,ah,Z,Z⟩
 rintro ⟨⟩ bW bM ⟨bj,bn,bP,bQ,bm,bR,bv⟩ bB
 have bg:=wCR aj ap bB
 try dsimp only at bg
 have bk:Hid (¬ ((↑(((↑p0.length:Int):Int) - 0).toNat:Int) < (↑p0.length:Int))):=zE (wBO)
 refine sR fL1 Z (oR Z (ze Z bn bm) (eN (zD (cF Z bk (ZC (zh (zh (zy (zG (sR fL1 Z (oA Z Z (eN (zI ?_)))))))))))))
 have hE:=nA bg;first | subst r | cases hE
 exact ⟨Z,_,(zn Z),bj,_,bv,Z,Z⟩
 have bh:=hm;rw [if_neg c1] at bh;replace c1:=zE c1
 refine cT Z c1 (sR fL1 Z (oA Z Z (eN (zI (zH ?_)))))
 have hE:=nA bh;first | subst r | cases hE
 exact ⟨Z,_,(zn Z),U,_,hS,Z,Z⟩
theorem wDF (p0:List wAC) (aS:Option Addr) (aU:Nat) (p1:List wAC) (aT:Option Addr) (aV:Nat) (w:World) (U:PHeap) (hS:St0 w U []) (bz:Sl U 2 aS aU p0.length (hH wAA p0)) (bA:Sl U 2 aT aV p1.length (hH wAA p1)) {r:Bool} (hm:wAg p0 p1=some r):Gv Tryz.prog 36 [.slice aS p0.length aU,.slice aT p1.length aV] w (wCb w [] U (fun U_ L_ v=>v=.bool r/\L_=[])):=by
 unfold wAg at hm
 refine Gv.of Tryz.func36 Z Tryz.ntmps36 Tryz.results36 Z (sR fL1 Z (oA Z Z (eN (zD (sR fL5 Z (oM Z Z (oR Z (zi Z Z ZA) (oM Z Z (oR Z (zi Z Z ZA) (oR Z (zw Z Z Z) (eN ?_)))))))))))
 by_cases c1:(↑p0.length:Int)=(↑p1.length:Int)
 have aj:=hm;rw [if_pos c1] at aj;replace c1:=zE c1
 refine zp (zk (fun h=>h c1.out)) (kN (zD (sR fL3 Z (oM Z Z (oR Z (zi Z Z ZA) (oM Z Z (eN (zd ?_))))))))
 have q:=wBp aj
 obtain ⟨r5,ap⟩:=q
 have q:=wCA ap
 obtain ⟨au,bD⟩:=q
 replace au:=zE au
 refine Zf (fun k4 _ σ_ w_=>∃ (U_:PHeap),σ_ 13=jV (↑k4:Int)/\σ_ 0=.slice aS p0.length aU/\σ_ 1=.slice aT p1.length aV/\σ_ 12=jV (↑p0.length:Int)/\PHeap.Le U U_/\sW w U U_ [] w_) bD ?_ ?_ ?_
 exact ⟨U,Z,Z,Z,Z,(zZ _),hS⟩
 rintro k4 ⟨⟩ bV bX aY aq ⟨aX,am,ba,bb,be,az,bv⟩ bj bB
 try dsimp only at bj
 have aZ:Hid ((↑k4:Int) < (↑p0.length:Int)):=zE (wBz aq)
 replace aq:=zE aq
 have bE:Hid (w64 ((↑k4:Int) + 1)=(↑(k4 + 1):Int)):=zE (by have h1:=au.out;have h2:=aZ.out;rw [wAO] <;> omega)
 refine sR fL1 rfl (zX rfl rfl rfl rfl (fun _=>ze rfl am be) (eN (zD (cT Z aZ (kN (zD (zd (sR fL2 rfl (zW rfl rfl rfl rfl rfl am (OKS.ra rfl rfl rfl rfl rfl rfl (eN (zD (ZP ZL [3,3,3,1,3,3,3,1,3] fL9 (by kernel_rfl) ?_)))))))))))))
 have ah:=bv.drew
 generalize hw_W25:({ aY with drawn:=aY.drawn + 1 }:World)=bL at ah ⊢
 refine oM Z ba (oM Z Z (bnK bj fun aW bf bF=>?_))
 have bp:=bz.le az
 have q:=bp.el (fun _=>rfl) (wAN bf)
 obtain ⟨bN,bS,br,bt⟩:=q
 refine oR Z (zu Z Z br Z ZA ZM (wBP bf)) (oL Z (ah.ldCA (f:=0) bt Z Z Zl ZM (us:=[jV aW.Skier,jV aW.Lane]) Z Z) (oM Z bb (oM Z Z (bnK bF fun x34 bg bG=>?_))))
 have bq:=bA.le az
 have q:=bq.el (fun _=>rfl) (wAN bg)
 obtain ⟨bO,bT,bs,bu⟩:=q
 refine oR Z (zu Z Z bs Z ZA ZM (wBP bg)) (oL Z (ah.ldCA (f:=0) bu Z Z Zl ZM (us:=[jV x34.Skier,jV x34.Lane]) Z Z) (oR Z (ZB (Runs.neS (enc:=wAA) (a:=aW) (b:=x34) Z Z Z eqT59 eqG59) (congrArg nB (decide_not).symm)) (eN (ifc bG ?_ ?_))))
 intro ak bH
 refine zp (zk (fun h=>h ak.out)) (ZG (zj (zG (rR fL2 Z (oR Z (ZB (zo Z am Z) (congrArg (jV) bE.out)) (oM Z Z (zq ?_)))))))
 have q:=nA bH
 obtain rfl:=q
 exact zG ⟨Z,_,Z,⟨aX,Z,ba,bb,be,az,ah⟩⟩
 intro ak bI
 refine cT Z ak (sR fL1 Z (oA Z Z (eN (zI (zV (zH ?_))))))
 have q:=wAI bI
 obtain ⟨bK,bJ,bm⟩:=q
 have q:=wBI aj ap (bB bK bm)
 obtain rfl:=q
 refine zH (zV (zH ?_))
 have hE:=nA bJ;first | subst r | cases hE
 exact ⟨Z,_,(zn Z),aX,_,ah,Z,Z⟩
 rintro ⟨⟩ bW bM ⟨bk,bo,bP,bQ,bn,bR,bw⟩ bC
 have bh:=wCR aj ap bC
 try dsimp only at bh
 have bl:Hid (¬ ((↑(((↑p0.length:Int):Int) - 0).toNat:Int) < (↑p0.length:Int))):=zE (wBO)
 refine sR fL1 Z (oR Z (ze Z bo bn) (eN (zD (cF Z bl (ZC (zh (zh (zy (zG (sR fL1 Z (oA Z Z (eN (zI ?_)))))))))))))
 have hE:=nA bh;first | subst r | cases hE
 exact ⟨Z,_,(zn Z),bk,_,bw,Z,Z⟩
 have bi:=hm;rw [if_neg c1] at bi;replace c1:=zE c1
 refine cT Z c1 (sR fL1 Z (oA Z Z (eN (zI (zH ?_)))))
 have hE:=nA bi;first | subst r | cases hE
 exact ⟨Z,_,(zn Z),U,_,hS,Z,Z⟩
theorem wDT (p0:wAB) (ai:Option Addr) (au:Nat) (aj:Option Addr) (az:Nat) (ak:Option Addr) (aS:Nat) (p1:wAB) (am:Option Addr) (aT:Nat) (ap:Option Addr) (aU:Nat) (aq:Option Addr) (aV:Nat) (w:World) (U:PHeap) (hS:St0 w U []) (bE:Sl U 1 ai au p0.Shots.length (hH KL.encI p0.Shots)) (bF:Sl U 1 aj az p0.Down.length (hH KL.encI p0.Down)) (bG:Sl U 2 ak aS p0.Across.length (hH wAA p0.Across)) (bH:Sl U 1 am aT p1.Shots.length (hH KL.encI p1.Shots)) (bI:Sl U 1 ap aU p1.Down.length (hH KL.encI p1.Down)) (bJ:Sl U 2 aq aV p1.Across.length (hH wAA p1.Across)) {r:Bool} (hm:wBK p0 p1=some r):Gv Tryz.prog 20 [.agg #[.slice ai p0.Shots.length au,.slice aj p0.Down.length az,.slice ak p0.Across.length aS],.agg #[.slice am p1.Shots.length aT,.slice ap p1.Down.length aU,.slice aq p1.Across.length aV]] w (wCb w [] U (fun U_ L_ v=>v=.bool r/\L_=[])):=by
 unfold wBK at hm
 refine Gv.of Tryz.func20 Z Tryz.ntmps20 Tryz.results20 Z (sR gAx Z ?_)
 let B0:List Value:=[.slice ai p0.Shots.length au,.slice aj p0.Down.length az,.slice ak p0.Across.length aS]
 refine ZI (cs:=B0) rfl rfl rfl rfl rfl rfl (by rfl) hS ?_
 intro W1 b2 bA
 let B1:List Value:=[.slice am p1.Shots.length aT,.slice ap p1.Down.length aU,.slice aq p1.Across.length aV]
 refine ZI (cs:=B1) rfl rfl rfl rfl rfl rfl (by rfl) bA ?_
 intro W5 b6 bh
 refine oA Z Z (eN (sR (wIf (.fx 4 (wQn (.fx 10 (wQo (.fx 17 (.fl 18 (.fl 19 .nil)) .stop)) .stop)) .stop)) Z (oR Z (zU Z Z zO Z zS) (oL Z (bh.ldB (j:=1) Z Z Z zY (v:=.slice ai p0.Shots.length au) Z) (oR Z (zU Z Z zO Z zS) (oL Z (bh.ldB (j:=0) Z Z Z zY (v:=.slice am p1.Shots.length aT) Z) (bnK hm fun x9 bo bK=>zK 0 Z Z Z Z (zJ Z Z Tryz.call22 (zB Z (zB Z zP)) Z) bh (fun hs=>wBZ p0.Shots ai au p1.Shots am aT W5 U hs bE bH bo) (.inr Z) ?_)))))))
 rintro bb bR bW bj ba bz ⟨rfl,rfl⟩
 have aY:sW w U bb [.blk b6 25 B1,.blk b2 25 B0] bj:=bz
 refine oM Z Z (ifc bK ?_ ?_)
 intro ae bL
 refine zX Z Z Z (zC Z Z (congrArg nB ae.out)) (fun _=>zU Z Z zO Z zS) (zx Z Z Z (zC Z Z (congrArg nB ae.out)) (aY.ldB (j:=1) Z Z Z zY (v:=.slice aj p0.Down.length az) Z) Z (zX Z Z Z (zC Z Z (congrArg nB ae.out)) (fun _=>zU Z Z zO Z zS) (zx Z Z Z (zC Z Z (congrArg nB ae.out)) (aY.ldB (j:=0) Z Z Z zY (v:=.slice ap p1.Down.length aU) Z) Z ?_)))
 have bp:=bF.le ba
 have bq:=bI.le ba
 refine bnK bL fun bZ br bM=>zK 0 Z Z Z (zC Z Z (congrArg nB ae.out)) (zJ Z Z Tryz.call22 (zB Z (zB Z zP)) Z) aY (fun hs=>wBZ p0.Down aj az p1.Down ap aU bj bb hs bp bq br) (.inr Z) ?_
 rintro be bS bX bk bl bB ⟨rfl,rfl⟩
 have aZ:sW w U be [.blk b6 25 B1,.blk b2 25 B0] bk:=bB
 refine oR Z (zR Z (congrArg nB ae.out) Z) (oM Z Z (ifc bM ?_ ?_))
 intro ah bN
 refine zX Z Z Z (zC Z Z (congrArg nB ah.out)) (fun _=>zU Z Z zO Z Zh) (zx Z Z Z (zC Z Z (congrArg nB ah.out)) (aZ.ldB (j:=1) Z Z Z Zj (v:=.slice ak p0.Across.length aS) Z) Z (zX Z Z Z (zC Z Z (congrArg nB ah.out)) (fun _=>zU Z Z zO Z Zh) (zx Z Z Z (zC Z Z (congrArg nB ah.out)) (aZ.ldB (j:=0) Z Z Z Zj (v:=.slice aq p1.Across.length aV) Z) Z ?_)))
 have bs:=bG.le ba
 have bt:=bs.le bl
 have bu:=bJ.le ba
 have bv:=bu.le bl
 refine bnK bN fun x39 bw bO=>zK 0 Z Z Z (zC Z Z (congrArg nB ah.out)) (zJ Z Z Tryz.call36 (zB Z (zB Z zP)) Z) aZ (fun hs=>wDF p0.Across ak aS p1.Across aq aV bk be hs bt bv bw) (.inr Z) ?_
 rintro bi bT bY bm bV bC ⟨rfl,rfl⟩
 have bD:sW w U bi [.blk b6 25 B1,.blk b2 25 B0] bm:=bC
 refine oR Z (zR Z (congrArg nB ah.out) Z) (oA Z Z (eN (zI ?_)))
 have hE:=nA bO;first | subst r | cases hE
 exact ⟨rfl,_,(zn rfl),bi,_,(bD.pick [] _ (by decide) rfl),rfl,rfl⟩
 intro ah bP
 refine zL Z Z Z (zF Z Z (congrArg nB (nD.2 ah.out)) Z) (zL Z Z Z (zF Z Z (congrArg nB (nD.2 ah.out)) Z) (zL Z Z Z (zF Z Z (congrArg nB (nD.2 ah.out)) Z) (zL Z Z Z (zF Z Z (congrArg nB (nD.2 ah.out)) Z) (ZF Z Z Z (zF Z Z (congrArg nB (nD.2 ah.out)) Z) (oR Z (zM Z (congrArg nB (nD.2 ah.out)) Z) (oA Z Z (eN (zI ?_))))))))
 have hE:=nA bP;first | subst r | cases hE
 exact ⟨rfl,_,(zn rfl),be,_,(aZ.pick [] _ (by decide) rfl),rfl,rfl⟩
 intro ae bQ
 refine zL Z Z Z (zF Z Z (congrArg nB (nD.2 ae.out)) Z) (zL Z Z Z (zF Z Z (congrArg nB (nD.2 ae.out)) Z) (zL Z Z Z (zF Z Z (congrArg nB (nD.2 ae.out)) Z) (zL Z Z Z (zF Z Z (congrArg nB (nD.2 ae.out)) Z) (ZF Z Z Z (zF Z Z (congrArg nB (nD.2 ae.out)) Z) (oR Z (zM Z (congrArg nB (nD.2 ae.out)) Z) (oM Z Z (oN Z (oN Z (oN Z (oN Z (ZF Z Z Z (zF Z Z Z Z) (oR Z (zM Z Z Z) (oA Z Z (eN (zI ?_)))))))))))))))
 have hE:=nA bQ;first | subst r | cases hE
 exact ⟨rfl,_,(zn rfl),bb,_,(aY.pick [] _ (by decide) rfl),rfl,rfl⟩
theorem wCd (p0:List (List Int)) (aW:Option Addr) (ba:Nat) (p1:List (List Int)) (aX:Option Addr) (bb:Nat) (w:World) (U:PHeap) (hS:St0 w U []) (bN:SlR U wEV aW ba p0) (bO:SlR U wEV aX bb p1) {r:Bool} (hm:wAa p0 p1=some r):Gv Tryz.prog 21 [.slice aW p0.length ba,.slice aX p1.length bb] w (wCb w [] U (fun U_ L_ v=>v=.bool r/\L_=[])):=by
 unfold wAa at hm
 refine Gv.of Tryz.func21 Z Tryz.ntmps21 Tryz.results21 Z (sR fL1 Z (oA Z Z (eN (zD (sR fL5 Z (oM Z Z (oR Z (zi Z Z zl) (oM Z Z (oR Z (zi Z Z zl) (oR Z (zw Z Z Z) (eN ?_)))))))))))
 by_cases c1:(↑p0.length:Int)=(↑p1.length:Int)
 have aj:=hm;rw [if_pos c1] at aj;replace c1:=zE c1
 refine zp (zk (fun h=>h c1.out)) (kN (zD (sR fL3 Z (oM Z Z (oR Z (zi Z Z zl) (oM Z Z (eN (zd ?_))))))))
 have q:=wBp aj
 obtain ⟨r5,aS⟩:=q
 have q:=wCA aS
 obtain ⟨aU,bR⟩:=q
 replace aU:=zE aU
 refine Zf (fun k4 _ σ_ w_=>∃ (U_:PHeap),σ_ 13=jV (↑k4:Int)/\σ_ 0=.slice aW p0.length ba/\σ_ 1=.slice aX p1.length bb/\σ_ 12=jV (↑p0.length:Int)/\PHeap.Le U U_/\sW w U U_ [] w_) bR ?_ ?_ ?_
 exact ⟨U,Z,Z,Z,Z,(zZ _),hS⟩
 rintro k4 ⟨⟩ cu cx bh aT ⟨ak,aq,bj,bk,bl,aV,bK⟩ br bP
 try dsimp only at br
 have bi:Hid ((↑k4:Int) < (↑p0.length:Int)):=zE (wBz aT)
 replace aT:=zE aT
 have bS:Hid (w64 ((↑k4:Int) + 1)=(↑(k4 + 1):Int)):=zE (by have h1:=aU.out;have h2:=bi.out;rw [wAO] <;> omega)
 refine sR fL1 rfl (zX rfl rfl rfl rfl (fun _=>ze rfl aq bl) (eN (zD (cT Z bi (kN (zD (zd (sR fL2 rfl (zW rfl rfl rfl rfl rfl aq (OKS.ra rfl rfl rfl rfl rfl rfl (eN (zD (ZP ZL [3,3,3,1,3,3,3,1,2,3] (wQm (.fx 8 (.fl 9 .nil) .stop)) (by kernel_rfl) ?_)))))))))))))
 have ai:=bK.drew
 generalize hw_W25:({ bh with drawn:=bh.drawn + 1 }:World)=bt at ai ⊢
 refine oM Z bj (oM Z Z (bnK br fun bg bm bT=>?_))
 have bD:=bN.le aV
 have q:=bD.el (wAN bm)
 obtain ⟨bv,b9,cr,bI,au,bZ⟩:=q
 obtain ⟨aY,be,rfl,bE⟩:=bZ
 replace au:Cl ak bv (b9 + k4 * 1) [.slice aY bg.length be]:=au
 refine oR Z (zu Z Z bI Z zl zS (wBP bm)) (oL Z (ai.ldC (f:=0) au (v:=.slice aY bg.length be) Z Z zY Z) (oM Z bk (oM Z Z (bnK bT fun x39 bn bU=>?_))))
 have bF:=bO.le aV
 have q:=bF.el (wAN bn)
 obtain ⟨bw,cd,ct,bJ,az,b5⟩:=q
 obtain ⟨aZ,bf,rfl,bG⟩:=b5
 replace az:Cl ak bw (cd + k4 * 1) [.slice aZ x39.length bf]:=az
 refine oR Z (zu Z Z bJ Z zl zS (wBP bn)) (oL Z (ai.ldC (f:=0) az (v:=.slice aZ x39.length bf) Z Z zY Z) (bnK bU fun x52 bH bV=>zK 0 Z Z Z Z (zJ Z Z Tryz.call22 (zB Z (zB Z zP)) Z) ai (fun hs=>wBZ bg aY be x39 aZ bf bt ak hs bE bG bH) (.inr Z) ?_))
 rintro am cg cq bu b8 bL ⟨rfl,rfl⟩
 have bo:sW w U am [] bu:=bL
 refine oR Z (ZQ Z Z) (eN (ifc bV ?_ ?_))
 intro ap bW
 refine zp (nC ap.out) (ZG (zj (zG (rR fL2 Z (oR Z (ZB (zo Z aq Z) (congrArg (jV) bS.out)) (oM Z Z (zq ?_)))))))
 have q:=nA bW
 obtain rfl:=q
 exact zG ⟨Z,_,Z,⟨am,Z,bj,bk,bl,(aV.trans b8),bo⟩⟩
 intro ap bX
 refine zt (nF (ap.out)) (sR fL1 Z (oA Z Z (eN (zI (zV (zH ?_))))))
 have q:=wAI bX
 obtain ⟨cf,bY,bA⟩:=q
 have q:=wBI aj aS (bP cf bA)
 obtain rfl:=q
 refine zH (zV (zH ?_))
 have hE:=nA bY;first | subst r | cases hE
 exact ⟨Z,_,(zn Z),am,_,bo,Z,Z⟩
 rintro ⟨⟩ cw ci ⟨bs,bC,cj,cm,bB,cn,bM⟩ bQ
 have bp:=wCR aj aS bQ
 try dsimp only at bp
 have bz:Hid (¬ ((↑(((↑p0.length:Int):Int) - 0).toNat:Int) < (↑p0.length:Int))):=zE (wBO)
 refine sR fL1 Z (oR Z (ze Z bC bB) (eN (zD (cF Z bz (ZC (zh (zh (zy (zG (sR fL1 Z (oA Z Z (eN (zI ?_)))))))))))))
 have hE:=nA bp;first | subst r | cases hE
 exact ⟨Z,_,(zn Z),bs,_,bM,Z,Z⟩
 have bq:=hm;rw [if_neg c1] at bq;replace c1:=zE c1
 refine cT Z c1 (sR fL1 Z (oA Z Z (eN (zI (zH ?_)))))
 have hE:=nA bq;first | subst r | cases hE
 exact ⟨Z,_,(zn Z),U,_,hS,Z,Z⟩
theorem wDa (p0:wAB) (bs:Option Addr) (bv:Nat) (bt:Option Addr) (bw:Nat) (bu:Option Addr) (bz:Nat) (p1:List (List Int)) (am:Option Addr) (ap:Nat) (p2:List Int) (aq:Option Addr) (au:Nat) (w:World) (U:PHeap) (hS:St0 w U []) (cj:Sl U 1 bs bv p0.Shots.length (hH KL.encI p0.Shots)) (cm:Sl U 1 bt bw p0.Down.length (hH KL.encI p0.Down)) (cn:Sl U 2 bu bz p0.Across.length (hH wAA p0.Across)) (fh:SlR U wEV am ap p1) (gU:Sl U 1 aq au p2.length (hH KL.encI p2)) {r:Bool} (hm:wBX p0 p1 p2=some r):Gv Tryz.prog 3 [.agg #[.slice bs p0.Shots.length bv,.slice bt p0.Down.length bw,.slice bu p0.Across.length bz],.slice am p1.length ap,.slice aq p2.length au] w (wCb w [] U (fun U_ L_ v=>v=.bool r/\L_=[])):=by
 unfold wBX at hm
 refine Gv.of Tryz.func3 Z Tryz.ntmps3 Tryz.results3 Z (sR gAw Z ?_)
 let B0:List Value:=[.slice bs p0.Shots.length bv,.slice bt p0.Down.length bw,.slice bu p0.Across.length bz]
 refine ZI (cs:=B0) rfl rfl rfl rfl rfl rfl (by rfl) hS ?_
 intro W1 b2 sV
 refine oA Z Z (eN (zD (sR (.fl 0 (.fx 1 (wSJ (.nil)) .stop)) Z (oL Z (sV.ldBA (j:=0) Z Z Z ZJ zr (vs:=B0) Z Z) (bnK hm fun x5 h6 Mf=>zK 0 Z Z Z Z (zJ Z Z Tryz.call5 (zB Z (zB Z zP)) Z) sV (fun hs=>wEl p0 bs bv bt bw bu bz 8 W1 U hs cj cm cn h6) (.inr Z) ?_)))))
 rintro U8 L9 Oz iK aU Ik ⟨rfl,rfl⟩
 have jt:sW w U U8 [.blk b2 25 B0] iK:=Ik
 refine oM Z Z (ifc Mf ?_ ?_)
 intro cG Kn
 refine zL Z Z Z (zF Z Z (congrArg nB cG.out) Z) (zL Z Z Z (zF Z Z (congrArg nB cG.out) Z) (zL Z Z Z (zF Z Z (congrArg nB cG.out) Z) (oR Z (zR Z (congrArg nB cG.out) Z) (oM Z Z (oN Z (oN Z (oN Z (oR Z (zR Z Z Z) (eN (zt Z (sR gAw Z (bnK Kn fun Py z9 Ko=>zK 0 Z Z Z Z (zJ Z Z Tryz.call6 zP Z) jt (fun hs=>wBV iK U8 hs z9) (.inr Z) ?_))))))))))))
 rintro ot Na OJ uX Oo Jn ⟨rfl,rfl⟩
 have Jv:sW w U ot [.blk b2 25 B0] uX:=Jn
 refine oA Z Z (eN (zI (zH ?_)))
 have hE:=nA Ko;first | subst r | cases hE
 exact ⟨rfl,_,(zn rfl),ot,_,(Jv.pick [] _ (by decide) rfl),rfl,rfl⟩
 intro cG Ks
 refine zW Z Z Z (zC Z Z (congrArg nB (nD.2 cG.out))) Z Z (zX Z Z Z (zC Z Z (congrArg nB (nD.2 cG.out))) (fun _=>zi Z Z zl) (zX Z Z Z (zC Z Z (congrArg nB (nD.2 cG.out))) (fun _=>ZR Z Z Z) (oR Z (zM Z (congrArg nB (nD.2 cG.out)) Z) (oM Z Z (ifc Ks ?_ ?_)))))
 intro cM KE
 refine oT Z cM (oT Z cM (oT Z cM (oR Z (zR Z (ZX cM.out) Z) (eN (zt Z (sR gAw Z (bnK KE fun x30 ER Ln=>zK 0 Z Z Z Z (zJ Z Z Tryz.call6 zP Z) jt (fun hs=>wBV iK U8 hs ER) (.inr Z) ?_)))))))
 rintro o9 ND Pu ve Ow Kd ⟨rfl,rfl⟩
 have Ke:sW w U o9 [.blk b2 25 B0] ve:=Kd
 refine oA Z Z (eN (zI (zH ?_)))
 have hE:=nA Ln;first | subst r | cases hE
 exact ⟨rfl,_,(zn rfl),o9,_,(Ke.pick [] _ (by decide) rfl),rfl,rfl⟩
 intro cM L7
 refine zW Z Z Z (wF Z cM) Z Z (rU Z (wF Z cM) (zi Z Z zA) (rU Z (wF Z cM) (ZR Z Z Z) (oR Z (zM Z (zk cM.out) Z) (eN (ifc L7 ?_ ?_)))))
 intro lH L8
 refine cT Z lH (sR gAw Z (bnK L8 fun x43 H7 Ma=>zK 0 Z Z Z Z (zJ Z Z Tryz.call6 zP Z) jt (fun hs=>wBV iK U8 hs H7) (.inr Z) ?_))
 rintro pb NH Pv vh Ox Kf ⟨rfl,rfl⟩
 have Kg:sW w U pb [.blk b2 25 B0] vh:=Kf
 refine oA Z Z (eN (zI (zH ?_)))
 have hE:=nA Ma;first | subst r | cases hE
 exact ⟨rfl,_,(zn rfl),pb,_,(Kg.pick [] _ (by decide) rfl),rfl,rfl⟩
 intro lH mp
 refine cF Z lH (kN (zD (sR fL3 Z (oM Z Z (oR Z (zi Z Z zl) (oM Z Z (eN (zd ?_))))))))
 have q:=wBp mp
 obtain ⟨Oy,mi⟩:=q
 have q:=wCA mi
 obtain ⟨mo,Kj⟩:=q
 replace mo:=zE mo
 refine Zf (fun fm _ σ_ w_=>∃ (U_:PHeap),σ_ 42=jV (↑fm:Int)/\σ_ 1=.slice am p1.length ap/\σ_ 2=.slice aq p2.length au/\σ_ 3=.pointer (some ⟨b2,0,none⟩)/\σ_ 40=.slice am p1.length ap/\σ_ 41=jV (↑p1.length:Int)/\PHeap.Le U8 U_/\sW w U U_ [.blk b2 25 B0] w_) Kj ?_ ?_ ?_
 exact ⟨U8,Z,Z,Z,Z,Z,Z,(zZ _),jt⟩
 rintro fm ⟨⟩ PL P7 vi mn ⟨j4,lV,yq,yr,yt,rE,rF,tY,mh⟩ tD Ki
 try dsimp only at tD
 have p6:Hid ((↑fm:Int) < (↑p1.length:Int)):=zE (wBz mn)
 replace mn:=zE mn
 have Kk:Hid (w64 ((↑fm:Int) + 1)=(↑(fm + 1):Int)):=zE (by have h1:=mo.out;have h2:=p6.out;rw [wAO] <;> omega)
 refine sR fL1 Z (oR Z (ze Z lV rF) (eN (zD (cT Z p6 (kN (zD (zd (sR fL3 Z (bnK tD fun x77 sF Mg=>?_)))))))))
 have H9:=fh.le aU
 have Ia:=H9.le tY
 have q:=Ia.el (wAN sF)
 obtain ⟨vF,MN,Px,Ic,l8,Mj⟩:=q
 obtain ⟨tZ,t7,rfl,Om⟩:=Mj
 replace l8:Cl j4 vF (MN + fm * 1) [.slice tZ x77.length t7]:=l8
 refine oR Z (zu Z rE Ic lV zl zS (wBP sF)) (oL Z (mh.ldC (f:=0) l8 (v:=.slice tZ x77.length t7) Z Z zY Z) (oA Z Z (eN (sR fL3 Z (oM Z Z (oR Z (zi Z Z zA) (oR Z (ZR Z Z Z) (eN (ifc Mg ?_ ?_)))))))))
 intro lI Mh
 refine cT Z lI (sR gAw Z (bnK Mh fun x93 Ib Mi=>zK 0 Z Z Z Z (zJ Z Z Tryz.call6 zP Z) mh (fun hs=>wBV vi j4 hs Ib) (.inr Z) ?_))
 rintro pe NJ Pw vj On Ie ⟨rfl,rfl⟩
 have If:sW w U pe [.blk b2 25 B0] vj:=Ie
 refine oA Z Z (eN (zI (zV (zH ?_))))
 have q:=wAI Mi
 obtain ⟨MQ,Kl,vP⟩:=q
 have q:=wBI mp mi (Ki MQ vP)
 obtain rfl:=q
 refine zH (zV (zH ?_))
 have hE:=nA Kl;first | subst r | cases hE
 exact ⟨rfl,_,(zn rfl),pe,_,(If.pick [] _ (by decide) rfl),rfl,rfl⟩
 intro lI Km
 refine cF Z lI (ZG (zj (zG (rR fL2 Z (oR Z (ZB (zo Z lV Z) (congrArg (jV) Kk.out)) (oM Z Z (zq ?_)))))))
 have q:=nA Km
 obtain rfl:=q
 exact zG ⟨Z,_,Z,⟨j4,Z,yq,yr,yt,rE,rF,tY,mh⟩⟩
 rintro ⟨⟩ PM pf ⟨bf,yu,bG,bH,bn,N9,wb,aW,Ig⟩ Kh
 have s8:=wCR mp mi Kh
 try dsimp only at s8
 have vG:Hid (¬ ((↑(((↑p1.length:Int):Int) - 0).toNat:Int) < (↑p1.length:Int))):=zE (wBO)
 refine sR fL1 Z (oR Z (ze Z yu wb) (eN (zD (cF Z vG (ZC (zh (zh (zy (zG ?_)))))))))
 have q:=bnd s8
 obtain ⟨⟨bo,bp,bq,cw,bI,cd,cf,bR⟩,Mt,s9⟩:=q
 try dsimp only at s9
 refine CK.cut (fun σ_ w_=>∃ (U_:PHeap) (aS:Nat) (bA:Option Addr) (bD:Nat) (bB:Option Addr) (bE:Nat) (bC:Option Addr) (bF:Nat) (bU:Option Addr) (bY:Nat) (bP:Option Addr) (bQ:Nat) (aV:Nat) (bV:Option Addr) (bZ:Nat) (bW:Option Addr) (b5:Nat) (bX:Option Addr) (b8:Nat),σ_ 1=.slice am p1.length ap/\σ_ 2=.slice aq p2.length au/\σ_ 3=.pointer (some ⟨b2,0,none⟩)/\σ_ 9=.pointer (some ⟨aS,0,none⟩)/\σ_ 10=.slice bU cw.length bY/\σ_ 11=.slice bP bI.length bQ/\σ_ 12=.pointer (some ⟨aV,0,none⟩)/\PHeap.Le bf U_/\sW w U U_ [.blk b2 25 B0,.blk aS 25 [.slice bA bo.length bD,.slice bB bp.length bE,.slice bC bq.length bF],.row bA bD 3 1 (hH KL.encI bo),.row bB bE 3 1 (hH KL.encI bp),.row bC bF 59 2 (hH wAA bq),.row bP bQ 3 1 (hH KL.encI bI),.blk aV 34 [.slice bV cd.length bZ,.slice bW cf.length b5,.slice bX bR.length b8],.row bX b8 95 2 (hH wAD bR)] w_/\SlR U_ wEV bU bY cw/\Sl U_ 1 bV bZ cd.length (hH KL.encI cd)/\Sl U_ 1 bW b5 cf.length (hH KL.encI cf)) ?_ ?_
 refine bnK Mt fun aa jo Mb=>bnK Mb fun aX jp Mc=>bnK Mc fun ba jq Md=>bnK Md fun ai jr Me=>ZP ZL [1,2,3,2,3,2,1,2,2,2,0,3,3,0] (.fl 0 (.fl 2 (.fl 4 (.fl 6 (.fx 1 (.fx 3 (.fx 5 (.fx 7 (.fx 8 gBe (.fx 9 gBf .stop)) (.fx 8 gBj (.fx 9 gBk .stop))) (.fx 8 gBm (.fx 9 gBn .stop))) (.fx 8 gBp (.fx 9 gBq .stop))) (.fx 8 (.fx 1 gBp (.fx 9 gBo .stop)) (.fx 9 (.fx 1 gBq (.fx 8 gBo .stop)) .stop))))))) (by kernel_rfl) ?_
 have fg:=Ig.drew
 generalize hw_W464:({ pf with drawn:=pf.drawn + 1 }:World)=vg at fg ⊢
 refine Zo (s:=.nil) (M:=fun σ_ w_=>∃ (U_:PHeap) (iL:Nat) (fq:Option Addr) (gq:Nat) (ft:Option Addr) (gt:Nat) (fu:Option Addr) (gu:Nat) (g7:Option Addr) (iP:Nat) (fw:Option Addr) (gv:Nat) (iM:Nat) (g8:Option Addr) (iQ:Nat) (g9:Option Addr) (iU:Nat) (fy:Option Addr) (gw:Nat) (jJ:Option Addr) (lh:Nat) (jK:Option Addr) (li:Nat) (jL:Option Addr) (lj:Nat),σ_ 1=.slice am p1.length ap/\σ_ 2=.slice aq p2.length au/\σ_ 3=.pointer (some ⟨b2,0,none⟩)/\σ_ 9=.pointer (some ⟨iL,0,none⟩)/\σ_ 10=.slice g7 aX.length iP/\σ_ 11=.slice fw ba.length gv/\σ_ 12=.pointer (some ⟨iM,0,none⟩)/\σ_ 51=.agg B0.toArray/\σ_ 52=.agg #[.slice fq aa.Shots.length gq,.slice ft aa.Down.length gt,.slice fu aa.Across.length gu]/\σ_ 53=.slice am p1.length ap/\σ_ 54=.slice jJ aX.length lh/\σ_ 55=.slice aq p2.length au/\σ_ 56=.slice fw ba.length gv/\σ_ 57=.agg B0.toArray/\σ_ 58=.agg #[.slice jK ai.Shots.length li,.slice jL ai.Down.length lj,.slice fy ai.Across.length gw]/\PHeap.Le bf U_/\sW w U U_ [.blk b2 25 B0,.blk iL 25 [.slice fq aa.Shots.length gq,.slice ft aa.Down.length gt,.slice fu aa.Across.length gu],.row fq gq 3 1 (hH KL.encI aa.Shots),.row ft gt 3 1 (hH KL.encI aa.Down),.row fu gu 59 2 (hH wAA aa.Across),.row fw gv 3 1 (hH KL.encI ba),.blk iM 34 [.slice g8 ai.Shots.length iQ,.slice g9 ai.Down.length iU,.slice fy ai.Across.length gw],.row fy gw 95 2 (hH wAD ai.Across)] w_/\SlR U_ wEV g7 iP aX/\Sl U_ 1 g8 iQ ai.Shots.length (hH KL.encI ai.Shots)/\Sl U_ 1 g9 iU ai.Down.length (hH KL.encI ai.Down)/\SlR U_ wEV jJ lh aX/\Sl U_ 1 jK li ai.Shots.length (hH KL.encI ai.Shots)/\Sl U_ 1 jL lj ai.Down.length (hH KL.encI ai.Down)) ?_ fun Mv=>?_
 rintro PN NL ⟨uk,iL,fq,gq,ft,gt,fu,gu,g7,iP,fw,gv,iM,g8,iQ,g9,iU,fy,gw,jJ,lh,jK,li,jL,lj,wc,wd,we,wg,wh,wi,wj,Oa,Ob,Oc,Od,Oe,Of,Og,Oh,Mx,Ih,yv,yw,yy,Oj,Ok,Ol⟩
 refine zq ?_
 cases Me
 exact zG ⟨Z,⟨uk,iL,fq,gq,ft,gt,fu,gu,g7,iP,fw,gv,iM,g8,iQ,g9,iU,fy,gw,wc,wd,we,wg,wh,wi,wj,Mx,Ih,yv,yw,yy⟩⟩
 let B1:List Value:=[.slice none 0 0,.slice none 0 0,.slice none 0 0]
 refine Zo (s:=gBb) (M:=fun σ_ w_=>∃ (U_:PHeap) (gc:Nat) (dm:Option Addr) (dw:Nat) (dp:Option Addr) (dx:Nat) (dq:Option Addr) (dy:Nat) (ge:Nat) (fz:Option Addr) (gx:Nat) (fA:Option Addr) (gy:Nat) (dF:Option Addr) (eu:Nat) (dG:Option Addr) (ey:Nat) (dH:Option Addr) (ez:Nat),σ_ 1=.slice am p1.length ap/\σ_ 2=.slice aq p2.length au/\σ_ 3=.pointer (some ⟨b2,0,none⟩)/\σ_ 9=.pointer (some ⟨gc,0,none⟩)/\σ_ 12=.pointer (some ⟨ge,0,none⟩)/\σ_ 51=.agg B0.toArray/\σ_ 52=.agg #[.slice dm aa.Shots.length dw,.slice dp aa.Down.length dx,.slice dq aa.Across.length dy]/\σ_ 53=.slice am p1.length ap/\σ_ 54=.slice fz aX.length gx/\σ_ 55=.slice aq p2.length au/\σ_ 56=.slice fA ba.length gy/\σ_ 57=.agg B0.toArray/\σ_ 58=.agg #[.slice dF ai.Shots.length eu,.slice dG ai.Down.length ey,.slice dH ai.Across.length ez]/\PHeap.Le bf U_/\sW w U U_ [.blk b2 25 B0,.blk gc 25 [.slice dm aa.Shots.length dw,.slice dp aa.Down.length dx,.slice dq aa.Across.length dy],.row dm dw 3 1 (hH KL.encI aa.Shots),.row dp dx 3 1 (hH KL.encI aa.Down),.row dq dy 59 2 (hH wAA aa.Across),.blk ge 34 B1,.row fA gy 3 1 (hH KL.encI ba),.row dH ez 95 2 (hH wAD ai.Across)] w_/\SlR U_ wEV fz gx aX/\Sl U_ 1 dF eu ai.Shots.length (hH KL.encI ai.Shots)/\Sl U_ 1 dG ey ai.Down.length (hH KL.encI ai.Down)) ?_ fun Mw=>?_
 rintro PO NM ⟨oa,gc,dm,dw,dp,dx,dq,dy,ge,fz,gx,fA,gy,dF,eu,dG,ey,dH,ez,wk,wl,wn,wo,p7,wp,wq,wt,p8,wu,p9,wv,qa,My,Ii,rG,rH,rI⟩
 refine oA Z p8 (oA Z p9 ?_)
 let B2:List Value:=[.slice dF ai.Shots.length eu,.slice dG ai.Down.length ey,.slice dH ai.Across.length ez]
 refine Zg (j:=5) (vs:=B2) Z Z Z Z Ii Z p7 qa Z ZD (zg Z) Z Z Z ?_
 intro uE Ij
 have Il:sW w U oa [.blk b2 25 B0,.blk gc 25 [.slice dm aa.Shots.length dw,.slice dp aa.Down.length dx,.slice dq aa.Across.length dy],.row dm dw 3 1 (hH KL.encI aa.Shots),.row dp dx 3 1 (hH KL.encI aa.Down),.row dq dy 59 2 (hH wAA aa.Across),.blk ge 34 B2,.row fA gy 3 1 (hH KL.encI ba),.row dH ez 95 2 (hH wAD ai.Across)] uE:=Ij
 exact Mv _ _ ⟨oa,gc,dm,dw,dp,dx,dq,dy,fz,gx,fA,gy,ge,dF,eu,dG,ey,dH,ez,fz,gx,dF,eu,dG,ey,wk,wl,wn,wo,rfl,rfl,p7,wp,wq,wt,p8,wu,p9,wv,qa,My,(Il.pick [0,1,2,3,4,6,5,7] _ (by decide) rfl),rG,rH,rI,rG,rH,rI⟩
 refine Zo (s:=gBd) (M:=fun σ_ w_=>∃ (U_:PHeap) (gf:Nat) (gg:Nat) (dI:Option Addr) (eA:Nat) (dJ:Option Addr) (eC:Nat) (dK:Option Addr) (eD:Nat) (ib:Option Addr) (iV:Nat) (fB:Option Addr) (gz:Nat) (ic:Option Addr) (iW:Nat) (ie:Option Addr) (iX:Nat) (fC:Option Addr) (gA:Nat),σ_ 1=.slice am p1.length ap/\σ_ 2=.slice aq p2.length au/\σ_ 3=.pointer (some ⟨b2,0,none⟩)/\σ_ 9=.pointer (some ⟨gf,0,none⟩)/\σ_ 12=.pointer (some ⟨gg,0,none⟩)/\σ_ 51=.agg B0.toArray/\σ_ 52=.agg #[.slice dI aa.Shots.length eA,.slice dJ aa.Down.length eC,.slice dK aa.Across.length eD]/\σ_ 53=.slice am p1.length ap/\σ_ 54=.slice ib aX.length iV/\σ_ 55=.slice aq p2.length au/\σ_ 56=.slice fB ba.length gz/\σ_ 57=.agg B0.toArray/\σ_ 58=.agg #[.slice ic ai.Shots.length iW,.slice ie ai.Down.length iX,.slice fC ai.Across.length gA]/\PHeap.Le bf U_/\sW w U U_ [.blk b2 25 B0,.blk gf 25 B1,.blk gg 34 B1,.row dI eA 3 1 (hH KL.encI aa.Shots),.row dJ eC 3 1 (hH KL.encI aa.Down),.row dK eD 59 2 (hH wAA aa.Across),.row fB gz 3 1 (hH KL.encI ba),.row fC gA 95 2 (hH wAD ai.Across)] w_/\SlR U_ wEV ib iV aX/\Sl U_ 1 ic iW ai.Shots.length (hH KL.encI ai.Shots)/\Sl U_ 1 ie iX ai.Down.length (hH KL.encI ai.Down)) ?_ fun mr=>?_
 rintro PP NN ⟨oc,gf,gg,dI,eA,dJ,eC,dK,eD,ib,iV,fB,gz,ic,iW,ie,iX,fC,gA,ww,wx,wy,qb,wz,wA,qc,wB,wC,wD,wE,wG,wH,Mz,Im,yz,yA,yB⟩
 let B3:List Value:=[.slice dI aa.Shots.length eA,.slice dJ aa.Down.length eC,.slice dK aa.Across.length eD]
 refine Zg (j:=1) (vs:=B3) Z Z Z Z Im Z qb qc Z zr (zg Z) Z Z Z ?_
 intro uF In
 have Io:sW w U oc [.blk b2 25 B0,.blk gf 25 B3,.blk gg 34 B1,.row dI eA 3 1 (hH KL.encI aa.Shots),.row dJ eC 3 1 (hH KL.encI aa.Down),.row dK eD 59 2 (hH wAA aa.Across),.row fB gz 3 1 (hH KL.encI ba),.row fC gA 95 2 (hH wAD ai.Across)] uF:=In
 exact Mw _ _ ⟨oc,gf,dI,eA,dJ,eC,dK,eD,gg,ib,iV,fB,gz,ic,iW,ie,iX,fC,gA,ww,wx,wy,qb,wz,wA,qc,wB,wC,wD,wE,wG,wH,Mz,(Io.pick [0,1,3,4,5,2,6,7] _ (by decide) rfl),yz,yA,yB⟩
 refine Zo (s:=gBg) (M:=fun σ_ w_=>∃ (U_:PHeap) (gh:Nat) (gi:Nat) (fD:Option Addr) (gB:Nat) (fE:Option Addr) (gC:Nat) (fG:Option Addr) (gD:Nat) (ig:Option Addr) (iY:Nat) (fH:Option Addr) (gE:Nat),σ_ 1=.slice am p1.length ap/\σ_ 2=.slice aq p2.length au/\σ_ 3=.pointer (some ⟨b2,0,none⟩)/\σ_ 9=.pointer (some ⟨gh,0,none⟩)/\σ_ 12=.pointer (some ⟨gi,0,none⟩)/\σ_ 51=.agg B0.toArray/\σ_ 52=.agg #[.slice fD aa.Shots.length gB,.slice fE aa.Down.length gC,.slice fG aa.Across.length gD]/\σ_ 53=.slice am p1.length ap/\σ_ 54=.slice ig aX.length iY/\σ_ 55=.slice aq p2.length au/\σ_ 56=.slice fH ba.length gE/\σ_ 57=.agg B0.toArray/\PHeap.Le bf U_/\sW w U U_ [.blk b2 25 B0,.blk gh 25 B1,.blk gi 34 B1,.row fD gB 3 1 (hH KL.encI aa.Shots),.row fE gC 3 1 (hH KL.encI aa.Down),.row fG gD 59 2 (hH wAA aa.Across),.row fH gE 3 1 (hH KL.encI ba)] w_/\SlR U_ wEV ig iY aX) ?_ fun ms=>?_
 rintro PQ uG ⟨ul,gh,gi,fD,gB,fE,gC,fG,gD,ig,iY,fH,gE,wI,wJ,wK,wL,wM,wN,wO,wP,wQ,wR,wS,qd,jz,Ip,yC⟩
 have yD:=cj.le aU
 have yE:=yD.le aW
 have yF:=yE.le jz
 have yG:=cm.le aU
 have yH:=yG.le aW
 have yI:=yH.le jz
 have yJ:=cn.le aU
 have yK:=yJ.le aW
 have yL:=yK.le jz
 refine zK 0 Z Z Z Z (zJ Z Z Tryz.call10 (zB qd zP) Z) Ip (fun hs=>wCL p0 bs bv bt bw bu bz uG ul hs yF yI yL jr) (.inr Z) ?_
 rintro od M3 OA uH tO Iq ⟨ue,vH,uf,vJ,mE,pG,rfl,rfl,yM,yN⟩
 have Ir:sW w U od [.row mE pG 95 2 (hH wAD ai.Across),.blk b2 25 B0,.blk gh 25 B1,.blk gi 34 B1,.row fD gB 3 1 (hH KL.encI aa.Shots),.row fE gC 3 1 (hH KL.encI aa.Down),.row fG gD 59 2 (hH wAA aa.Across),.row fH gE 3 1 (hH KL.encI ba)] uH:=Iq
 have yO:=yC.le tO
 exact mr _ _ ⟨od,gh,gi,fD,gB,fE,gC,fG,gD,ig,iY,fH,gE,ue,vH,uf,vJ,mE,pG,wI,wJ,wK,wL,wM,wN,wO,wP,wQ,wR,wS,qd,rfl,(jz.trans tO),(Ir.pick [1,2,3,4,5,6,7,0] _ (by decide) rfl),yO,yM,yN⟩
 refine Zo (s:=gBf) (M:=fun σ_ w_=>∃ (U_:PHeap) (iN:Nat) (ii:Option Addr) (iZ:Nat) (ij:Option Addr) (i0:Nat) (ik:Option Addr) (i4:Nat) (il:Option Addr) (i5:Nat) (im:Option Addr) (i6:Nat) (io:Option Addr) (i7:Nat) (ip:Option Addr) (i8:Nat) (iq:Option Addr) (i9:Nat),σ_ 1=.slice am p1.length ap/\σ_ 2=.slice aq p2.length au/\σ_ 3=.pointer (some ⟨b2,0,none⟩)/\σ_ 12=.pointer (some ⟨iN,0,none⟩)/\σ_ 51=.agg B0.toArray/\σ_ 52=.agg #[.slice ii aa.Shots.length iZ,.slice ij aa.Down.length i0,.slice ik aa.Across.length i4]/\σ_ 53=.slice am p1.length ap/\σ_ 54=.slice il aX.length i5/\σ_ 55=.slice aq p2.length au/\σ_ 56=.slice im ba.length i6/\σ_ 57=.agg B0.toArray/\σ_ 58=.agg #[.slice io ai.Shots.length i7,.slice ip ai.Down.length i8,.slice iq ai.Across.length i9]/\PHeap.Le bf U_/\sW w U U_ [.blk b2 25 B0,.blk iN 34 B1,.row ii iZ 3 1 (hH KL.encI aa.Shots),.row ij i0 3 1 (hH KL.encI aa.Down),.row ik i4 59 2 (hH wAA aa.Across),.row im i6 3 1 (hH KL.encI ba),.row iq i9 95 2 (hH wAD ai.Across)] w_/\SlR U_ wEV il i5 aX/\Sl U_ 1 io i7 ai.Shots.length (hH KL.encI ai.Shots)/\Sl U_ 1 ip i8 ai.Down.length (hH KL.encI ai.Down)) ?_ fun tE=>?_
 rintro PR NO ⟨um,iN,ii,iZ,ij,i0,ik,i4,il,i5,im,i6,io,i7,ip,i8,iq,i9,wU,wV,wW,wX,wY,wZ,w5,w6,w7,w8,w9,xa,MA,Is,yP,yQ,yR⟩
 refine ZE (cs:=B1) Z Z Z Z Z ZW Z Is ?_
 intro NP vk It
 exact mr _ _ ⟨um,vk,iN,ii,iZ,ij,i0,ik,i4,il,i5,im,i6,io,i7,ip,i8,iq,i9,wU,wV,wW,rfl,wX,wY,wZ,w5,w6,w7,w8,w9,xa,MA,(It.pick [1,0,2,3,4,5,6,7] _ (by decide) rfl),yP,yQ,yR⟩
 refine Zo (s:=gBe) (M:=fun σ_ w_=>∃ (U_:PHeap) (iO:Nat) (ir:Option Addr) (ja:Nat) (it:Option Addr) (jb:Nat) (iu:Option Addr) (jc:Nat) (iv:Option Addr) (jd:Nat) (iw:Option Addr) (je:Nat) (iy:Option Addr) (jf:Nat) (iz:Option Addr) (jg:Nat) (iA:Option Addr) (jh:Nat),σ_ 1=.slice am p1.length ap/\σ_ 2=.slice aq p2.length au/\σ_ 3=.pointer (some ⟨b2,0,none⟩)/\σ_ 9=.pointer (some ⟨iO,0,none⟩)/\σ_ 51=.agg B0.toArray/\σ_ 52=.agg #[.slice ir aa.Shots.length ja,.slice it aa.Down.length jb,.slice iu aa.Across.length jc]/\σ_ 53=.slice am p1.length ap/\σ_ 54=.slice iv aX.length jd/\σ_ 55=.slice aq p2.length au/\σ_ 56=.slice iw ba.length je/\σ_ 57=.agg B0.toArray/\σ_ 58=.agg #[.slice iy ai.Shots.length jf,.slice iz ai.Down.length jg,.slice iA ai.Across.length jh]/\PHeap.Le bf U_/\sW w U U_ [.blk b2 25 B0,.blk iO 25 B1,.row ir ja 3 1 (hH KL.encI aa.Shots),.row it jb 3 1 (hH KL.encI aa.Down),.row iu jc 59 2 (hH wAA aa.Across),.row iw je 3 1 (hH KL.encI ba),.row iA jh 95 2 (hH wAD ai.Across)] w_/\SlR U_ wEV iv jd aX/\Sl U_ 1 iy jf ai.Shots.length (hH KL.encI ai.Shots)/\Sl U_ 1 iz jg ai.Down.length (hH KL.encI ai.Down)) ?_ fun tF=>?_
 rintro PS NQ ⟨uo,iO,ir,ja,it,jb,iu,jc,iv,jd,iw,je,iy,jf,iz,jg,iA,jh,xb,xc,xd,xe,xf,xg,xh,xi,xj,xk,xl,xm,MB,Iu,yS,yT,yU⟩
 refine ZE (cs:=B1) Z Z Z Z Z ZS Z Iu ?_
 intro NR vl Iv
 exact mr _ _ ⟨uo,iO,vl,ir,ja,it,jb,iu,jc,iv,jd,iw,je,iy,jf,iz,jg,iA,jh,xb,xc,xd,xe,rfl,xf,xg,xh,xi,xj,xk,xl,xm,MB,(Iv.pick [1,2,0,3,4,5,6,7] _ (by decide) rfl),yS,yT,yU⟩
 refine Zo (s:=gBh) (M:=fun σ_ w_=>∃ (U_:PHeap) (gj:Nat) (gk:Nat) (fJ:Option Addr) (gF:Nat) (fK:Option Addr) (gG:Nat) (fL:Option Addr) (gH:Nat) (iB:Option Addr) (ji:Nat),σ_ 1=.slice am p1.length ap/\σ_ 2=.slice aq p2.length au/\σ_ 3=.pointer (some ⟨b2,0,none⟩)/\σ_ 9=.pointer (some ⟨gj,0,none⟩)/\σ_ 12=.pointer (some ⟨gk,0,none⟩)/\σ_ 51=.agg B0.toArray/\σ_ 52=.agg #[.slice fJ aa.Shots.length gF,.slice fK aa.Down.length gG,.slice fL aa.Across.length gH]/\σ_ 53=.slice am p1.length ap/\σ_ 54=.slice iB aX.length ji/\σ_ 55=.slice aq p2.length au/\σ_ 57=.agg B0.toArray/\PHeap.Le bf U_/\sW w U U_ [.blk b2 25 B0,.blk gj 25 B1,.blk gk 34 B1,.row fJ gF 3 1 (hH KL.encI aa.Shots),.row fK gG 3 1 (hH KL.encI aa.Down),.row fL gH 59 2 (hH wAA aa.Across)] w_/\SlR U_ wEV iB ji aX) ?_ fun mu=>?_
 rintro PT uI ⟨uq,gj,gk,fJ,gF,fK,gG,fL,gH,iB,ji,xn,xo,xp,xq,xr,xt,xu,xw,xx,qe,xz,tP,Iw,yV⟩
 have yW:=gU.le aU
 have yX:=yW.le aW
 have yY:=yX.le tP
 refine zK 0 Z Z Z Z (zJ Z Z Tryz.call9 (zB qe zP) Z) Iw (fun hs=>wAm p2 aq au uI uq hs yY jq) (.inr Z) ?_
 rintro oe M4 OB uJ tQ Ix ⟨mF,pH,rfl,rfl⟩
 have Iy:sW w U oe [.row mF pH 3 1 (hH KL.encI ba),.blk b2 25 B0,.blk gj 25 B1,.blk gk 34 B1,.row fJ gF 3 1 (hH KL.encI aa.Shots),.row fK gG 3 1 (hH KL.encI aa.Down),.row fL gH 59 2 (hH wAA aa.Across)] uJ:=Ix
 have yZ:=yV.le tQ
 exact ms _ _ ⟨oe,gj,gk,fJ,gF,fK,gG,fL,gH,iB,ji,mF,pH,xn,xo,xp,xq,xr,xt,xu,xw,xx,qe,rfl,xz,(tP.trans tQ),(Iy.pick [1,2,3,4,5,6,0] _ (by decide) rfl),yZ⟩
 refine Zo (s:=gBk) (M:=fun σ_ w_=>∃ (U_:PHeap) (ed:Nat) (dL:Option Addr) (eE:Nat) (dM:Option Addr) (eF:Nat) (dN:Option Addr) (eG:Nat) (fM:Option Addr) (gI:Nat) (dO:Option Addr) (eH:Nat),σ_ 1=.slice am p1.length ap/\σ_ 2=.slice aq p2.length au/\σ_ 3=.pointer (some ⟨b2,0,none⟩)/\σ_ 12=.pointer (some ⟨ed,0,none⟩)/\σ_ 51=.agg B0.toArray/\σ_ 52=.agg #[.slice dL aa.Shots.length eE,.slice dM aa.Down.length eF,.slice dN aa.Across.length eG]/\σ_ 53=.slice am p1.length ap/\σ_ 54=.slice fM aX.length gI/\σ_ 55=.slice aq p2.length au/\σ_ 56=.slice dO ba.length eH/\σ_ 57=.agg B0.toArray/\PHeap.Le bf U_/\sW w U U_ [.blk b2 25 B0,.blk ed 34 B1,.row dL eE 3 1 (hH KL.encI aa.Shots),.row dM eF 3 1 (hH KL.encI aa.Down),.row dN eG 59 2 (hH wAA aa.Across),.row dO eH 3 1 (hH KL.encI ba)] w_/\SlR U_ wEV fM gI aX) ?_ fun tG=>?_
 rintro PU uK ⟨og,ed,dL,eE,dM,eF,dN,eG,fM,gI,dO,eH,qf,qg,qh,qi,qj,qk,ql,qm,qn,qo,lJ,gW,sG,rJ⟩
 refine Zi ?_ ?_
 have y4:=cj.le aU
 have y5:=y4.le aW
 have y6:=y5.le gW
 have y7:=cm.le aU
 have y8:=y7.le aW
 have y9:=y8.le gW
 have z0:=cn.le aU
 have z4:=z0.le aW
 have z5:=z4.le gW
 refine zK 0 Z Z Z Z (zJ Z Z Tryz.call10 (zB lJ zP) Z) sG (fun hs=>wCL p0 bs bv bt bw bu bz uK og hs y6 y9 z5 jr) (.inr Z) ?_
 rintro oh M5 OC uL tR Iz ⟨ug,vK,uh,vL,mG,pI,rfl,rfl,z6,z7⟩
 have IA:sW w U oh [.row mG pI 95 2 (hH wAD ai.Across),.blk b2 25 B0,.blk ed 34 B1,.row dL eE 3 1 (hH KL.encI aa.Shots),.row dM eF 3 1 (hH KL.encI aa.Down),.row dN eG 59 2 (hH wAA aa.Across),.row dO eH 3 1 (hH KL.encI ba)] uL:=Iz
 have z8:=rJ.le tR
 exact tE _ _ ⟨oh,ed,dL,eE,dM,eF,dN,eG,fM,gI,dO,eH,ug,vK,uh,vL,mG,pI,qf,qg,qh,qi,qj,qk,ql,qm,qn,qo,lJ,rfl,(gW.trans tR),(IA.pick [1,2,3,4,5,6,0] _ (by decide) rfl),z8,z6,z7⟩
 refine ZE (cs:=B1) Z Z Z Z Z ZW Z sG ?_
 intro NT vm IB
 exact ms _ _ ⟨og,vm,ed,dL,eE,dM,eF,dN,eG,fM,gI,dO,eH,qf,qg,qh,rfl,qi,qj,qk,ql,qm,qn,qo,lJ,gW,(IB.pick [1,0,2,3,4,5,6] _ (by decide) rfl),rJ⟩
 refine Zo (s:=gBj) (M:=fun σ_ w_=>∃ (U_:PHeap) (ef:Nat) (dP:Option Addr) (eI:Nat) (dQ:Option Addr) (eJ:Nat) (dR:Option Addr) (eK:Nat) (fN:Option Addr) (gJ:Nat) (dS:Option Addr) (eL:Nat),σ_ 1=.slice am p1.length ap/\σ_ 2=.slice aq p2.length au/\σ_ 3=.pointer (some ⟨b2,0,none⟩)/\σ_ 9=.pointer (some ⟨ef,0,none⟩)/\σ_ 51=.agg B0.toArray/\σ_ 52=.agg #[.slice dP aa.Shots.length eI,.slice dQ aa.Down.length eJ,.slice dR aa.Across.length eK]/\σ_ 53=.slice am p1.length ap/\σ_ 54=.slice fN aX.length gJ/\σ_ 55=.slice aq p2.length au/\σ_ 56=.slice dS ba.length eL/\σ_ 57=.agg B0.toArray/\PHeap.Le bf U_/\sW w U U_ [.blk b2 25 B0,.blk ef 25 B1,.row dP eI 3 1 (hH KL.encI aa.Shots),.row dQ eJ 3 1 (hH KL.encI aa.Down),.row dR eK 59 2 (hH wAA aa.Across),.row dS eL 3 1 (hH KL.encI ba)] w_/\SlR U_ wEV fN gJ aX) ?_ fun tH=>?_
 rintro PV uM ⟨oi,ef,dP,eI,dQ,eJ,dR,eK,fN,gJ,dS,eL,qp,qq,qr,qt,qu,qv,qw,qx,qy,qz,lK,gX,sH,rK⟩
 refine Zi ?_ ?_
 have Aa:=cj.le aU
 have Ab:=Aa.le aW
 have Ac:=Ab.le gX
 have Ad:=cm.le aU
 have Ae:=Ad.le aW
 have Af:=Ae.le gX
 have Ag:=cn.le aU
 have Ah:=Ag.le aW
 have Ai:=Ah.le gX
 refine zK 0 Z Z Z Z (zJ Z Z Tryz.call10 (zB lK zP) Z) sH (fun hs=>wCL p0 bs bv bt bw bu bz uM oi hs Ac Af Ai jr) (.inr Z) ?_
 rintro oj M6 OD uN tS IC ⟨ui,vM,uj,vN,mH,pJ,rfl,rfl,Aj,Ak⟩
 have ID:sW w U oj [.row mH pJ 95 2 (hH wAD ai.Across),.blk b2 25 B0,.blk ef 25 B1,.row dP eI 3 1 (hH KL.encI aa.Shots),.row dQ eJ 3 1 (hH KL.encI aa.Down),.row dR eK 59 2 (hH wAA aa.Across),.row dS eL 3 1 (hH KL.encI ba)] uN:=IC
 have Al:=rK.le tS
 exact tF _ _ ⟨oj,ef,dP,eI,dQ,eJ,dR,eK,fN,gJ,dS,eL,ui,vM,uj,vN,mH,pJ,qp,qq,qr,qt,qu,qv,qw,qx,qy,qz,lK,rfl,(gX.trans tS),(ID.pick [1,2,3,4,5,6,0] _ (by decide) rfl),Al,Aj,Ak⟩
 refine ZE (cs:=B1) Z Z Z Z Z ZS Z sH ?_
 intro NU vo IE
 exact ms _ _ ⟨oi,ef,vo,dP,eI,dQ,eJ,dR,eK,fN,gJ,dS,eL,qp,qq,qr,qt,rfl,qu,qv,qw,qx,qy,qz,lK,gX,(IE.pick [1,2,0,3,4,5,6] _ (by decide) rfl),rK⟩
 refine Zo (s:=gBl) (M:=fun σ_ w_=>∃ (U_:PHeap) (eh:Nat) (ei:Nat) (fO:Option Addr) (gK:Nat) (fP:Option Addr) (gL:Nat) (fQ:Option Addr) (gM:Nat),σ_ 1=.slice am p1.length ap/\σ_ 2=.slice aq p2.length au/\σ_ 3=.pointer (some ⟨b2,0,none⟩)/\σ_ 9=.pointer (some ⟨eh,0,none⟩)/\σ_ 12=.pointer (some ⟨ei,0,none⟩)/\σ_ 51=.agg B0.toArray/\σ_ 52=.agg #[.slice fO aa.Shots.length gK,.slice fP aa.Down.length gL,.slice fQ aa.Across.length gM]/\σ_ 53=.slice am p1.length ap/\σ_ 55=.slice aq p2.length au/\σ_ 57=.agg B0.toArray/\PHeap.Le bf U_/\sW w U U_ [.blk b2 25 B0,.blk eh 25 B1,.blk ei 34 B1,.row fO gK 3 1 (hH KL.encI aa.Shots),.row fP gL 3 1 (hH KL.encI aa.Down),.row fQ gM 59 2 (hH wAA aa.Across)] w_) ?_ fun mw=>?_
 rintro PW uO ⟨ur,eh,ei,fO,gK,fP,gL,fQ,gM,xA,xB,xC,xD,xE,xF,xG,qA,xH,xI,tT,IF⟩
 have Am:=fh.le aU
 have An:=Am.le aW
 have Ao:=An.le tT
 refine zK 0 Z Z Z Z (zJ Z Z Tryz.call8 (zB qA zP) Z) IF (fun hs=>wBe p1 am ap uO ur hs Ao jp) (.inr Z) ?_
 rintro ut M7 OE pg MC IG ⟨mI,pK,rL,rfl,rfl⟩
 let B4:Res:=.row fQ gM 59 2 (hH wAA aa.Across)
 let B5:Res:=.row fO gK 3 1 (hH KL.encI aa.Shots)
 let B6:Res:=.row fP gL 3 1 (hH KL.encI aa.Down)
 have II:sW w U ut [.row mI pK 22 1 (hH wFr rL),inn 3 1 KL.encI rL aX,.blk b2 25 B0,.blk eh 25 B1,.blk ei 34 B1,B5,B6,B4] pg:=IG
 have q:=St.freezeN (R:=wEV) II (fun _ _ _ _ h=>⟨_,_,rfl,h⟩) (fun _=>rfl) (by decide) rfl
 obtain ⟨ol,MD,Ml,IJ⟩:=q
 have IK:sW w U ol [.blk b2 25 B0,.blk eh 25 B1,.blk ei 34 B1,B5,B6,B4] pg:=IJ
 exact mu _ _ ⟨ol,eh,ei,fO,gK,fP,gL,fQ,gM,mI,pK,xA,xB,xC,xD,xE,xF,xG,qA,Z,xH,xI,((tT.trans MC).trans MD),IK,Ml⟩
 refine Zo (s:=gBn) (M:=fun σ_ w_=>∃ (U_:PHeap) (ej:Nat) (dT:Option Addr) (eM:Nat) (dU:Option Addr) (eO:Nat) (dV:Option Addr) (eP:Nat) (fR:Option Addr) (gN:Nat),σ_ 1=.slice am p1.length ap/\σ_ 2=.slice aq p2.length au/\σ_ 3=.pointer (some ⟨b2,0,none⟩)/\σ_ 12=.pointer (some ⟨ej,0,none⟩)/\σ_ 51=.agg B0.toArray/\σ_ 52=.agg #[.slice dT aa.Shots.length eM,.slice dU aa.Down.length eO,.slice dV aa.Across.length eP]/\σ_ 53=.slice am p1.length ap/\σ_ 54=.slice fR aX.length gN/\σ_ 55=.slice aq p2.length au/\σ_ 57=.agg B0.toArray/\PHeap.Le bf U_/\sW w U U_ [.blk b2 25 B0,.blk ej 34 B1,.row dT eM 3 1 (hH KL.encI aa.Shots),.row dU eO 3 1 (hH KL.encI aa.Down),.row dV eP 59 2 (hH wAA aa.Across)] w_/\SlR U_ wEV fR gN aX) ?_ fun tI=>?_
 rintro PX uP ⟨om,ej,dT,eM,dU,eO,dV,eP,fR,gN,qB,qC,qD,qE,qF,qG,qH,qI,lL,qJ,my,sI,rM⟩
 refine Zi ?_ ?_
 have Ap:=gU.le aU
 have Aq:=Ap.le aW
 have Ar:=Aq.le my
 refine zK 0 Z Z Z Z (zJ Z Z Tryz.call9 (zB lL zP) Z) sI (fun hs=>wAm p2 aq au uP om hs Ar jq) (.inr Z) ?_
 rintro oq M8 OF uQ tU IL ⟨mJ,pL,rfl,rfl⟩
 have IM:sW w U oq [.row mJ pL 3 1 (hH KL.encI ba),.blk b2 25 B0,.blk ej 34 B1,.row dT eM 3 1 (hH KL.encI aa.Shots),.row dU eO 3 1 (hH KL.encI aa.Down),.row dV eP 59 2 (hH wAA aa.Across)] uQ:=IL
 have As:=rM.le tU
 exact tG _ _ ⟨oq,ej,dT,eM,dU,eO,dV,eP,fR,gN,mJ,pL,qB,qC,qD,qE,qF,qG,qH,qI,lL,rfl,qJ,(my.trans tU),(IM.pick [1,2,3,4,5,0] _ (by decide) rfl),As⟩
 refine ZE (cs:=B1) Z Z Z Z Z ZW Z sI ?_
 intro NV vp IN
 exact mu _ _ ⟨om,vp,ej,dT,eM,dU,eO,dV,eP,fR,gN,qB,qC,qD,rfl,qE,qF,qG,qH,qI,lL,qJ,my,(IN.pick [1,0,2,3,4,5] _ (by decide) rfl),rM⟩
 refine Zo (s:=gBm) (M:=fun σ_ w_=>∃ (U_:PHeap) (en:Nat) (dW:Option Addr) (eQ:Nat) (dX:Option Addr) (eR:Nat) (dY:Option Addr) (eS:Nat) (fS:Option Addr) (gO:Nat),σ_ 1=.slice am p1.length ap/\σ_ 2=.slice aq p2.length au/\σ_ 3=.pointer (some ⟨b2,0,none⟩)/\σ_ 9=.pointer (some ⟨en,0,none⟩)/\σ_ 51=.agg B0.toArray/\σ_ 52=.agg #[.slice dW aa.Shots.length eQ,.slice dX aa.Down.length eR,.slice dY aa.Across.length eS]/\σ_ 53=.slice am p1.length ap/\σ_ 54=.slice fS aX.length gO/\σ_ 55=.slice aq p2.length au/\σ_ 57=.agg B0.toArray/\PHeap.Le bf U_/\sW w U U_ [.blk b2 25 B0,.blk en 25 B1,.row dW eQ 3 1 (hH KL.encI aa.Shots),.row dX eR 3 1 (hH KL.encI aa.Down),.row dY eS 59 2 (hH wAA aa.Across)] w_/\SlR U_ wEV fS gO aX) ?_ fun tJ=>?_
 rintro PZ uR ⟨ou,en,dW,eQ,dX,eR,dY,eS,fS,gO,qK,qL,qM,qN,qO,qP,qQ,qR,lM,qS,mz,sJ,rN⟩
 refine Zi ?_ ?_
 have Au:=gU.le aU
 have Av:=Au.le aW
 have Aw:=Av.le mz
 refine zK 0 Z Z Z Z (zJ Z Z Tryz.call9 (zB lM zP) Z) sJ (fun hs=>wAm p2 aq au uR ou hs Aw jq) (.inr Z) ?_
 rintro ow M9 OG uS tV IP ⟨mK,pM,rfl,rfl⟩
 have IQ:sW w U ow [.row mK pM 3 1 (hH KL.encI ba),.blk b2 25 B0,.blk en 25 B1,.row dW eQ 3 1 (hH KL.encI aa.Shots),.row dX eR 3 1 (hH KL.encI aa.Down),.row dY eS 59 2 (hH wAA aa.Across)] uS:=IP
 have Ay:=rN.le tV
 exact tH _ _ ⟨ow,en,dW,eQ,dX,eR,dY,eS,fS,gO,mK,pM,qK,qL,qM,qN,qO,qP,qQ,qR,lM,rfl,qS,(mz.trans tV),(IQ.pick [1,2,3,4,5,0] _ (by decide) rfl),Ay⟩
 refine ZE (cs:=B1) Z Z Z Z Z ZS Z sJ ?_
 intro NW vq IR
 exact mu _ _ ⟨ou,en,vq,dW,eQ,dX,eR,dY,eS,fS,gO,qK,qL,qM,qN,rfl,qO,qP,qQ,qR,lM,qS,mz,(IR.pick [1,2,0,3,4,5] _ (by decide) rfl),rN⟩
 refine Zo (s:=gBo) (M:=fun σ_ w_=>∃ (U_:PHeap) (gm:Nat) (gp:Nat),σ_ 1=.slice am p1.length ap/\σ_ 2=.slice aq p2.length au/\σ_ 3=.pointer (some ⟨b2,0,none⟩)/\σ_ 9=.pointer (some ⟨gm,0,none⟩)/\σ_ 12=.pointer (some ⟨gp,0,none⟩)/\σ_ 51=.agg B0.toArray/\σ_ 53=.slice am p1.length ap/\σ_ 55=.slice aq p2.length au/\σ_ 57=.agg B0.toArray/\PHeap.Le bf U_/\sW w U U_ [.blk b2 25 B0,.blk gm 25 B1,.blk gp 34 B1] w_) ?_ fun tK=>?_
 rintro P0 uT ⟨uu,gm,gp,xJ,xK,xL,xM,xN,qT,xO,xP,xR,jA,IS⟩
 have Az:=cj.le aU
 have AA:=Az.le aW
 have AD:=AA.le jA
 have AE:=cm.le aU
 have AG:=AE.le aW
 have AI:=AG.le jA
 have AJ:=cn.le aU
 have AL:=AJ.le aW
 have AM:=AL.le jA
 refine zK 0 Z Z Z Z (zJ Z Z Tryz.call7 (zB qT zP) Z) IS (fun hs=>wCF p0 bs bv bt bw bu bz uT uu hs AD AI AM jo) (.inr Z) ?_
 rintro ox Nb OH uU ME IT ⟨mL,pN,mM,pO,mN,pP,rfl,rfl⟩
 have IU:sW w U ox [.row mL pN 3 1 (hH KL.encI aa.Shots),.row mM pO 3 1 (hH KL.encI aa.Down),.row mN pP 59 2 (hH wAA aa.Across),.blk b2 25 B0,.blk gm 25 B1,.blk gp 34 B1] uU:=IT
 exact mw _ _ ⟨ox,gm,gp,mL,pN,mM,pO,mN,pP,xJ,xK,xL,xM,xN,qT,rfl,xO,xP,xR,(jA.trans ME),(IU.pick [3,4,5,0,1,2] _ (by decide) rfl)⟩
 refine Zo (s:=gBq) (M:=fun σ_ w_=>∃ (U_:PHeap) (dt:Nat) (dZ:Option Addr) (eT:Nat) (d4:Option Addr) (eU:Nat) (d5:Option Addr) (eV:Nat),σ_ 1=.slice am p1.length ap/\σ_ 2=.slice aq p2.length au/\σ_ 3=.pointer (some ⟨b2,0,none⟩)/\σ_ 12=.pointer (some ⟨dt,0,none⟩)/\σ_ 51=.agg B0.toArray/\σ_ 52=.agg #[.slice dZ aa.Shots.length eT,.slice d4 aa.Down.length eU,.slice d5 aa.Across.length eV]/\σ_ 53=.slice am p1.length ap/\σ_ 55=.slice aq p2.length au/\σ_ 57=.agg B0.toArray/\PHeap.Le bf U_/\sW w U U_ [.blk b2 25 B0,.blk dt 34 B1,.row dZ eT 3 1 (hH KL.encI aa.Shots),.row d4 eU 3 1 (hH KL.encI aa.Down),.row d5 eV 59 2 (hH wAA aa.Across)] w_) ?_ fun tL=>?_
 rintro P1 uV ⟨oy,dt,dZ,eT,d4,eU,d5,eV,qU,qV,qW,qX,qY,qZ,lN,re,ri,mA,sK⟩
 refine Zi ?_ ?_
 have AN:=fh.le aU
 have AP:=AN.le aW
 have AQ:=AP.le mA
 refine zK 0 Z Z Z Z (zJ Z Z Tryz.call8 (zB lN zP) Z) sK (fun hs=>wBe p1 am ap uV oy hs AQ jp) (.inr Z) ?_
 rintro uv Nc OI ph MF IV ⟨mO,pQ,rO,rfl,rfl⟩
 let B7:Res:=.row d5 eV 59 2 (hH wAA aa.Across)
 let B8:Res:=.row dZ eT 3 1 (hH KL.encI aa.Shots)
 let B9:Res:=.row d4 eU 3 1 (hH KL.encI aa.Down)
 have IW:sW w U uv [.row mO pQ 22 1 (hH wFr rO),inn 3 1 KL.encI rO aX,.blk b2 25 B0,.blk dt 34 B1,B8,B9,B7] ph:=IV
 have q:=St.freezeN (R:=wEV) IW (fun _ _ _ _ h=>⟨_,_,rfl,h⟩) (fun _=>rfl) (by decide) rfl
 obtain ⟨oz,MG,Mm,IX⟩:=q
 have IY:sW w U oz [.blk b2 25 B0,.blk dt 34 B1,B8,B9,B7] ph:=IX
 exact tI _ _ ⟨oz,dt,dZ,eT,d4,eU,d5,eV,mO,pQ,qU,qV,qW,qX,qY,qZ,lN,Z,re,ri,((mA.trans MF).trans MG),IY,Mm⟩
 refine ZE (cs:=B1) Z Z Z Z Z ZW Z sK ?_
 intro NX vr IZ
 exact mw _ _ ⟨oy,vr,dt,dZ,eT,d4,eU,d5,eV,qU,qV,qW,rfl,qX,qY,qZ,lN,re,ri,mA,(IZ.pick [1,0,2,3,4,5] _ (by decide) rfl)⟩
 refine Zo (s:=gBp) (M:=fun σ_ w_=>∃ (U_:PHeap) (du:Nat) (d6:Option Addr) (eW:Nat) (d7:Option Addr) (eX:Nat) (d8:Option Addr) (eY:Nat),σ_ 1=.slice am p1.length ap/\σ_ 2=.slice aq p2.length au/\σ_ 3=.pointer (some ⟨b2,0,none⟩)/\σ_ 9=.pointer (some ⟨du,0,none⟩)/\σ_ 51=.agg B0.toArray/\σ_ 52=.agg #[.slice d6 aa.Shots.length eW,.slice d7 aa.Down.length eX,.slice d8 aa.Across.length eY]/\σ_ 53=.slice am p1.length ap/\σ_ 55=.slice aq p2.length au/\σ_ 57=.agg B0.toArray/\PHeap.Le bf U_/\sW w U U_ [.blk b2 25 B0,.blk du 25 B1,.row d6 eW 3 1 (hH KL.encI aa.Shots),.row d7 eX 3 1 (hH KL.encI aa.Down),.row d8 eY 59 2 (hH wAA aa.Across)] w_) ?_ fun tM=>?_
 rintro P2 uW ⟨oB,du,d6,eW,d7,eX,d8,eY,rj,rn,ro,rp,rq,rt,lO,ru,rx,mB,sL⟩
 refine Zi ?_ ?_
 have AS:=fh.le aU
 have AT:=AS.le aW
 have AU:=AT.le mB
 refine zK 0 Z Z Z Z (zJ Z Z Tryz.call8 (zB lO zP) Z) sL (fun hs=>wBe p1 am ap uW oB hs AU jp) (.inr Z) ?_
 rintro uw Nd OL pi MH I0 ⟨mP,pR,rP,rfl,rfl⟩
 let mY:Res:=.row d8 eY 59 2 (hH wAA aa.Across)
 let mZ:Res:=.row d6 eW 3 1 (hH KL.encI aa.Shots)
 let m0:Res:=.row d7 eX 3 1 (hH KL.encI aa.Down)
 have I6:sW w U uw [.row mP pR 22 1 (hH wFr rP),inn 3 1 KL.encI rP aX,.blk b2 25 B0,.blk du 25 B1,mZ,m0,mY] pi:=I0
 have q:=St.freezeN (R:=wEV) I6 (fun _ _ _ _ h=>⟨_,_,rfl,h⟩) (fun _=>rfl) (by decide) rfl
 obtain ⟨oG,MI,Mn,I7⟩:=q
 have I8:sW w U oG [.blk b2 25 B0,.blk du 25 B1,mZ,m0,mY] pi:=I7
 exact tJ _ _ ⟨oG,du,d6,eW,d7,eX,d8,eY,mP,pR,rj,rn,ro,rp,rq,rt,lO,Z,ru,rx,((mB.trans MH).trans MI),I8,Mn⟩
 refine ZE (cs:=B1) Z Z Z Z Z ZS Z sL ?_
 intro NY vt I9
 exact mw _ _ ⟨oB,du,vt,d6,eW,d7,eX,d8,eY,rj,rn,ro,rp,rfl,rq,rt,lO,ru,rx,mB,(I9.pick [1,2,0,3,4,5] _ (by decide) rfl)⟩
 refine oL Z (fg.ldBA (j:=0) Z Z bn ZJ zr (vs:=B0) Z Z) (oM Z bG (oM Z bH (oL Z (fg.ldBA (j:=0) Z Z bn ZJ zr (vs:=B0) Z Z) (Zi ?_ ?_))))
 have AW:=cj.le aU
 have rQ:=AW.le aW
 have AX:=cm.le aU
 have rS:=AX.le aW
 have AY:=cn.le aU
 have rT:=AY.le aW
 refine zK 0 Z Z Z Z (zJ Z Z Tryz.call7 (zB Z zP) Z) fg (fun hs=>wCF p0 bs bv bt bw bu bz vg bf hs rQ rS rT jo) (.inr Z) ?_
 rintro iF Nf OM pj bJ Ja ⟨cC,cH,cD,cI,cE,cJ,rfl,rfl⟩
 let fU:Res:=.row cE cJ 59 2 (hH wAA aa.Across)
 let fV:Res:=.row cC cH 3 1 (hH KL.encI aa.Shots)
 let fW:Res:=.row cD cI 3 1 (hH KL.encI aa.Down)
 have l9:sW w U iF [fV,fW,fU,.blk b2 25 B0] pj:=Ja
 refine Zi ?_ ?_
 have AZ:=fh.le aU
 have A4:=AZ.le aW
 have A5:=A4.le bJ
 refine zK 0 Z Z Z Z (zJ Z Z Tryz.call8 (zB Z zP) Z) l9 (fun hs=>wBe p1 am ap pj iF hs A5 jp) (.inr Z) ?_
 rintro ux Ng ON j5 cx Jb ⟨dr,dz,rV,rfl,rfl⟩
 have Jc:sW w U ux [.row dr dz 22 1 (hH wFr rV),inn 3 1 KL.encI rV aX,fV,fW,fU,.blk b2 25 B0] j5:=Jb
 have q:=St.freezeN (R:=wEV) Jc (fun _ _ _ _ h=>⟨_,_,rfl,h⟩) (fun _=>rfl) (by decide) rfl
 obtain ⟨iG,cy,fj,Jd⟩:=q
 have ma:sW w U iG [fV,fW,fU,.blk b2 25 B0] j5:=Jd
 refine Zi ?_ ?_
 have A6:=gU.le aU
 have A8:=A6.le aW
 have A9:=A8.le bJ
 have Ba:=A9.le cx
 have Bb:=Ba.le cy
 refine zK 0 Z Z Z Z (zJ Z Z Tryz.call9 (zB Z zP) Z) ma (fun hs=>wAm p2 aq au j5 iG hs Bb jq) (.inr Z) ?_
 rintro iH Nh OO pk cg Je ⟨fT,gP,rfl,rfl⟩
 let m4:Res:=.row fT gP 3 1 (hH KL.encI ba)
 have mb:sW w U iH [m4,fV,fW,fU,.blk b2 25 B0] pk:=Je
 refine Zi ?_ ?_
 have Bc:=rQ.le bJ
 have Bd:=Bc.le cx
 have Be:=Bd.le cy
 have Bf:=Be.le cg
 have Bg:=rS.le bJ
 have Bh:=Bg.le cx
 have Bi:=Bh.le cy
 have Bj:=Bi.le cg
 have Bk:=rT.le bJ
 have Bl:=Bk.le cx
 have Bm:=Bl.le cy
 have Bn:=Bm.le cg
 refine zK 0 Z Z Z Z (zJ Z Z Tryz.call10 (zB Z zP) Z) mb (fun hs=>wCL p0 bs bv bt bw bu bz pk iH hs Bf Bj Bn jr) (.inr Z) ?_
 rintro jQ Ni OP uY jB Jf ⟨mQ,pS,mR,pT,jM,lm,rfl,rfl,rW,rX⟩
 have sM:sW w U jQ [.row jM lm 95 2 (hH wAD ai.Across),m4,fV,fW,fU,.blk b2 25 B0] uY:=Jf
 refine Zi ?_ ?_
 refine ZE (cs:=B1) Z Z Z Z Z ZW Z sM ?_
 intro NZ vu Jg
 have Bo:=fj.le cg
 have Bp:=Bo.le jB
 exact tF _ _ ⟨jQ,vu,cC,cH,cD,cI,cE,cJ,dr,dz,fT,gP,mQ,pS,mR,pT,jM,lm,bG,bH,bn,rfl,rfl,rfl,rfl,rfl,rfl,rfl,rfl,rfl,((((bJ.trans cx).trans cy).trans cg).trans jB),(Jg.pick [6,0,3,4,5,2,1] _ (by decide) rfl),Bp,rW,rX⟩
 refine ZE (cs:=B1) Z Z Z Z Z ZS Z sM ?_
 intro N0 vv Jh
 have Bq:=fj.le cg
 have Br:=Bq.le jB
 exact tE _ _ ⟨jQ,vv,cC,cH,cD,cI,cE,cJ,dr,dz,fT,gP,mQ,pS,mR,pT,jM,lm,bG,bH,bn,rfl,rfl,rfl,rfl,rfl,rfl,rfl,rfl,rfl,((((bJ.trans cx).trans cy).trans cg).trans jB),(Jh.pick [6,0,3,4,5,2,1] _ (by decide) rfl),Br,rW,rX⟩
 refine Zi ?_ ?_
 refine ZE (cs:=B1) Z Z Z Z Z ZW Z mb ?_
 intro N1 vw Ji
 have Bs:=fj.le cg
 exact tH _ _ ⟨iH,vw,cC,cH,cD,cI,cE,cJ,dr,dz,fT,gP,bG,bH,bn,rfl,rfl,rfl,rfl,rfl,rfl,rfl,rfl,(((bJ.trans cx).trans cy).trans cg),(Ji.pick [5,0,2,3,4,1] _ (by decide) rfl),Bs⟩
 refine ZE (cs:=B1) Z Z Z Z Z ZS Z mb ?_
 intro N2 vx Jj
 have Bt:=fj.le cg
 exact tG _ _ ⟨iH,vx,cC,cH,cD,cI,cE,cJ,dr,dz,fT,gP,bG,bH,bn,rfl,rfl,rfl,rfl,rfl,rfl,rfl,rfl,(((bJ.trans cx).trans cy).trans cg),(Jj.pick [5,0,2,3,4,1] _ (by decide) rfl),Bt⟩
 refine Zi ?_ ?_
 refine ZE (cs:=B1) Z Z Z Z Z ZW Z ma ?_
 intro N3 vy Jk
 exact tJ _ _ ⟨iG,vy,cC,cH,cD,cI,cE,cJ,dr,dz,bG,bH,bn,rfl,rfl,rfl,rfl,rfl,rfl,rfl,((bJ.trans cx).trans cy),(Jk.pick [4,0,1,2,3] _ (by decide) rfl),fj⟩
 refine ZE (cs:=B1) Z Z Z Z Z ZS Z ma ?_
 intro N4 vz Jl
 exact tI _ _ ⟨iG,vz,cC,cH,cD,cI,cE,cJ,dr,dz,bG,bH,bn,rfl,rfl,rfl,rfl,rfl,rfl,rfl,((bJ.trans cx).trans cy),(Jl.pick [4,0,1,2,3] _ (by decide) rfl),fj⟩
 refine Zi ?_ ?_
 refine ZE (cs:=B1) Z Z Z Z Z ZW Z l9 ?_
 intro N5 vA Jm
 exact tM _ _ ⟨iF,vA,cC,cH,cD,cI,cE,cJ,bG,bH,bn,rfl,rfl,rfl,rfl,rfl,rfl,bJ,(Jm.pick [4,0,1,2,3] _ (by decide) rfl)⟩
 refine ZE (cs:=B1) Z Z Z Z Z ZS Z l9 ?_
 intro N6 vB Jo
 exact tL _ _ ⟨iF,vB,cC,cH,cD,cI,cE,cJ,bG,bH,bn,rfl,rfl,rfl,rfl,rfl,rfl,bJ,(Jo.pick [4,0,1,2,3] _ (by decide) rfl)⟩
 refine Zi ?_ ?_
 refine ZE (cs:=B1) Z Z Z Z Z ZW Z fg ?_
 intro uZ lf sN
 refine Zi ?_ ?_
 have Bu:=cj.le aU
 have Bv:=Bu.le aW
 have Bw:=cm.le aU
 have Bx:=Bw.le aW
 have By:=cn.le aU
 have Bz:=By.le aW
 refine zK 0 Z Z Z Z (zJ Z Z Tryz.call7 (zB Z zP) Z) sN (fun hs=>wCF p0 bs bv bt bw bu bz uZ bf hs Bv Bx Bz jo) (.inr Z) ?_
 rintro oH Nj OQ u0 MJ Jp ⟨mS,pU,mT,pV,mU,pW,rfl,rfl⟩
 have Jq:sW w U oH [.row mS pU 3 1 (hH KL.encI aa.Shots),.row mT pV 3 1 (hH KL.encI aa.Down),.row mU pW 59 2 (hH wAA aa.Across),.blk lf 25 B1,.blk b2 25 B0] u0:=Jp
 exact tM _ _ ⟨oH,lf,mS,pU,mT,pV,mU,pW,bG,bH,bn,rfl,rfl,rfl,rfl,rfl,rfl,MJ,(Jq.pick [4,3,0,1,2] _ (by decide) rfl)⟩
 refine ZE (cs:=B1) Z Z Z Z Z ZS Z sN ?_
 intro N7 vC Jr
 exact tK _ _ ⟨bf,lf,vC,bG,bH,bn,rfl,rfl,rfl,rfl,rfl,rfl,(zZ _),(Jr.pick [2,1,0] _ (by decide) rfl)⟩
 refine ZE (cs:=B1) Z Z Z Z Z ZS Z fg ?_
 intro u4 lg sO
 refine Zi ?_ ?_
 have BA:=cj.le aU
 have BB:=BA.le aW
 have BC:=cm.le aU
 have BD:=BC.le aW
 have BE:=cn.le aU
 have BF:=BE.le aW
 refine zK 0 Z Z Z Z (zJ Z Z Tryz.call7 (zB Z zP) Z) sO (fun hs=>wCF p0 bs bv bt bw bu bz u4 bf hs BB BD BF jo) (.inr Z) ?_
 rintro oI Nk OR u5 MK Js ⟨mV,pX,mW,pY,mX,pZ,rfl,rfl⟩
 have Jt:sW w U oI [.row mV pX 3 1 (hH KL.encI aa.Shots),.row mW pY 3 1 (hH KL.encI aa.Down),.row mX pZ 59 2 (hH wAA aa.Across),.blk lg 34 B1,.blk b2 25 B0] u5:=Js
 exact tL _ _ ⟨oI,lg,mV,pX,mW,pY,mX,pZ,bG,bH,bn,rfl,rfl,rfl,rfl,rfl,rfl,MK,(Jt.pick [4,3,0,1,2] _ (by decide) rfl)⟩
 refine ZE (cs:=B1) Z Z Z Z Z ZW Z sO ?_
 intro N8 vD Ju
 exact tK _ _ ⟨bf,vD,lg,bG,bH,bn,rfl,rfl,rfl,rfl,rfl,rfl,(zZ _),(Ju.pick [2,0,1] _ (by decide) rfl)⟩
 rintro P3 pm ⟨NK,aS,bA,bD,bB,bE,bC,bF,bU,bY,bP,bQ,aV,bV,bZ,bW,b5,bX,b8,ry,xS,xT,jk,rA,rC,lP,dk,sP,BG,BH,BI⟩
 refine sR gAy Z ?_
 let aT:List Value:=[.slice bV cd.length bZ,.slice bW cf.length b5,.slice bX bR.length b8]
 refine oL Z (sP.ldBA (j:=6) Z Z lP ZN ZD (vs:=aT) Z Z) ?_
 have q:=sP.freezeR (k:=7) (n:=bR.length) rfl (wAJ (f:=wAD) (sz:=2) (fun _=>rfl) bR) (by decide)
 obtain ⟨oK,ci,tA,Jw⟩:=q
 let az:List Value:=[.slice bA bo.length bD,.slice bB bp.length bE,.slice bC bq.length bF]
 let cY:Res:=.row bP bQ 3 1 (hH KL.encI bI)
 let iE:Res:=.row bC bF 59 2 (hH wAA bq)
 let jP:Res:=.row bB bE 3 1 (hH KL.encI bp)
 let m6:Res:=.row bA bD 3 1 (hH KL.encI bo)
 have Jx:sW w U oK [.blk b2 25 B0,.blk aS 25 az,m6,jP,iE,cY,.blk aV 34 aT] pm:=Jw
 have rY:=BH.le ci
 have rZ:=BI.le ci
 refine bnK s9 fun Pz BJ Kp=>zK 0 Z Z Z Z (zJ Z Z Tryz.call11 (zB Z zP) Z) Jx (fun hs=>wCG (⟨cd,cf,bR⟩:wAE) bV bZ bW b5 bX b8 pm oK hs rY rZ tA BJ) (.inr Z) ?_
 rintro uy Nl OT gb bS Jy ⟨rfl,rfl⟩
 have sQ:sW w U uy [.blk b2 25 B0,.blk aS 25 az,m6,jP,iE,cY,.blk aV 34 aT] gb:=Jy
 refine oA Z Z (eN (zD (sR (.fl 0 (.fx 1 (.fl 2 (.fl 3 .nil)) .stop)) Z (oL Z (sQ.ldBA (j:=1) Z Z jk ZJ zr (vs:=az) Z Z) ?_))))
 have q:=sQ.freezeR (k:=2) (n:=bo.length) rfl (wAJ (f:=KL.encI) (sz:=1) (fun _=>rfl) bo) (by decide)
 obtain ⟨uz,bT,Mo,Jz⟩:=q
 have JA:sW w U uz [.blk b2 25 B0,.blk aS 25 az,jP,iE,cY,.blk aV 34 aT] gb:=Jz
 have q:=JA.freezeR (k:=2) (n:=bp.length) rfl (wAJ (f:=KL.encI) (sz:=1) (fun _=>rfl) bp) (by decide)
 obtain ⟨uA,bK,Mp,JB⟩:=q
 have JC:sW w U uA [.blk b2 25 B0,.blk aS 25 az,iE,cY,.blk aV 34 aT] gb:=JB
 have q:=JC.freezeR (k:=2) (n:=bq.length) rfl (wAJ (f:=wAA) (sz:=2) (fun _=>rfl) bq) (by decide)
 obtain ⟨oO,br,tB,JD⟩:=q
 have JE:sW w U oO [.blk b2 25 B0,.blk aS 25 az,cY,.blk aV 34 aT] gb:=JD
 have BK:=Mo.le bK
 have r0:=BK.le br
 have r6:=Mp.le br
 refine bnK Kp fun PA BL Kq=>zK 0 Z Z Z Z (zJ Z Z Tryz.call12 (zB Z zP) Z) JE (fun hs=>wEt (⟨bo,bp,bq⟩:wAB) bA bD bB bE bC bF gb oO hs r0 r6 tB BL) (.inr Z) ?_
 rintro jR Nm OU pn bm JF ⟨rfl,rfl⟩
 have mc:sW w U jR [.blk b2 25 B0,.blk aS 25 az,cY,.blk aV 34 aT] pn:=JF
 refine oM Z Z (oR Z (zw Z Z Z) (eN (ifc Kq ?_ ?_)))
 intro lp Kr
 refine zp (zk (fun h=>h lp.out)) (kN (sR (.fl 0 (.fl 1 (.fx 2 (wJM (.nil)) .stop))) Z (oL Z (mc.ldBA (j:=1) Z Z jk ZJ zr (vs:=az) Z Z) (oM Z rA ?_))))
 have r8:=r0.le bm
 have r9:=r6.le bm
 have sc:=tB.le bm
 have BM:=BG.le ci
 have BN:=BM.le bS
 have BO:=BN.le bT
 have BP:=BO.le bK
 have BQ:=BP.le br
 have lW:=BQ.le bm
 have q:=bnd Kr
 obtain ⟨⟨MS,MT⟩,BR,tc⟩:=q
 try dsimp only at tc
 refine zK 0 Z Z Z Z (zJ Z Z Tryz.call13 (zB Z (zB Z zP)) Z) mc (fun hs=>wIY (⟨bo,bp,bq⟩:wAB) bA bD bB bE bC bF cw bU bY pn jR hs r8 r9 sc lW BR) (.inr Z) ?_
 rintro oP Nn OV po bl JG ⟨rfl,rfl⟩
 have sS:sW w U oP [.blk b2 25 B0,.blk aS 25 az,cY,.blk aV 34 aT] po:=JG
 refine oM Z Z (oR Z (zz Z Z (v:=.bool MS) Z) (oR Z (zz Z Z (v:=jV MT) Z) (oA Z Z (oA Z Z (eN (sR (.fl 0 (.fl 1 (.fx 2 (wJM (.nil)) .stop))) Z (oL Z (sS.ldBA (j:=3) Z Z lP ZN ZD (vs:=aT) Z Z) (oM Z ry ?_))))))))
 have BS:=rY.le bS
 have BT:=BS.le bT
 have BU:=BT.le bK
 have BV:=BU.le br
 have BW:=BV.le bm
 have sd:=BW.le bl
 have BX:=rZ.le bS
 have BY:=BX.le bT
 have BZ:=BY.le bK
 have Ca:=BZ.le br
 have Cb:=Ca.le bm
 have se:=Cb.le bl
 have Cc:=tA.le bS
 have Cd:=Cc.le bT
 have Ce:=Cd.le bK
 have Cf:=Ce.le br
 have Cg:=Cf.le bm
 have sf:=Cg.le bl
 have Ch:=fh.le aU
 have Ci:=Ch.le aW
 have Ck:=Ci.le dk
 have Cm:=Ck.le ci
 have Cn:=Cm.le bS
 have Co:=Cn.le bT
 have Cp:=Co.le bK
 have Cq:=Cp.le br
 have Cr:=Cq.le bm
 have lX:=Cr.le bl
 have q:=bnd tc
 obtain ⟨⟨MU,t8⟩,Cs,td⟩:=q
 try dsimp only at td
 refine zK 0 Z Z Z Z (zJ Z Z Tryz.call14 (zB Z (zB Z zP)) Z) sS (fun hs=>wDR (⟨cd,cf,bR⟩:wAE) bV bZ bW b5 bX b8 p1 am ap po oP hs sd se sf lX Cs) (.inr Z) ?_
 rintro jS No OW j6 bj JH ⟨rfl,rfl⟩
 have ju:sW w U jS [.blk b2 25 B0,.blk aS 25 az,cY,.blk aV 34 aT] j6:=JH
 refine oM Z Z (oR Z (zz Z Z (v:=.bool MU) Z) (oR Z (zz Z Z (v:=jV t8) Z) (oA Z Z (oA Z Z (eN (zD (sR fL8 Z (oM Z Z (oM Z Z (oR Z (Runs.neB Z Z Z Tryz.runUnderlying4) (oM Z Z (ifc td ?_ ?_))))))))))))
 intro cK Kt
 refine zW Z Z Z (zC Z Z (nC cK.out)) Z Z (zW Z Z Z (zC Z Z (nC cK.out)) Z Z (zX Z Z Z (zC Z Z (nC cK.out)) (fun _=>zw Z Z Z) (oR Z (zM Z (nC cK.out) Z) (eN (ifc Kt ?_ ?_)))))
 intro lq Ku
 refine zp (zk (fun h=>h lq.out)) (kN (sR (.fl 0 (.fl 1 (.fx 2 (wJM (.nil)) .stop))) Z (oL Z (ju.ldBA (j:=1) Z Z jk ZJ zr (vs:=az) Z Z) (oM Z rC ?_))))
 have q:=ju.freezeR (k:=2) (n:=bI.length) rfl (wAJ (f:=KL.encI) (sz:=1) (fun _=>rfl) bI) (by decide)
 obtain ⟨oU,bk,mq,JI⟩:=q
 have JJ:sW w U oU [.blk b2 25 B0,.blk aS 25 az,.blk aV 34 aT] j6:=JI
 have Ct:=r8.le bl
 have Cu:=Ct.le bj
 have sg:=Cu.le bk
 have Cv:=r9.le bl
 have Cw:=Cv.le bj
 have sj:=Cw.le bk
 have Cx:=sc.le bl
 have Cy:=Cx.le bj
 have sk:=Cy.le bk
 have q:=bnd Ku
 obtain ⟨⟨t9,ua⟩,Cz,te⟩:=q
 try dsimp only at te
 refine zK 0 Z Z Z Z (zJ Z Z Tryz.call15 (zB Z (zB Z zP)) Z) JJ (fun hs=>wHK (⟨bo,bp,bq⟩:wAB) bA bD bB bE bC bF bI bP bQ j6 oU hs sg sj sk mq Cz) (.inr Z) ?_
 rintro oW Np OX pp bh JK ⟨rfl,rfl⟩
 have sT:sW w U oW [.blk b2 25 B0,.blk aS 25 az,.blk aV 34 aT] pp:=JK
 refine oM Z Z (oR Z (zz Z Z (v:=jV t9) Z) (oR Z (zz Z Z (v:=jV ua) Z) (oA Z Z (oA Z Z (eN (zD (CK.fresh fun cB b9=>?_)))))))
 have lQ:cB 1=.slice am p1.length ap:=(b9 1).trans ry
 have jl:cB 2=.slice aq p2.length au:=(b9 2).trans xS
 have lR:cB 3=.pointer (some ⟨b2,0,none⟩):=(b9 3).trans xT
 have jm:cB 9=.pointer (some ⟨aS,0,none⟩):=(b9 9).trans jk
 have lS:cB 10=.slice bU cw.length bY:=(b9 10).trans rA
 have lT:cB 11=.slice bP bI.length bQ:=(b9 11).trans rC
 have gS:cB 12=.pointer (some ⟨aV,0,none⟩):=(b9 12).trans lP
 have xU:cB 15=jV ua:=(b9 15).trans rfl
 have Oi:cB 17=jV t8:=(b9 17).trans rfl
 have xV:cB 18=jV t9:=(b9 18).trans rfl
 clear b9
 refine rR (.fl 0 (.fl 1 (.fx 2 (wJM (.nil)) .stop))) Z (oL Z (sT.ldBA (j:=2) Z Z gS ZN ZD (vs:=aT) Z Z) (oM Z jl ?_))
 have CA:=sd.le bj
 have CB:=CA.le bk
 have sm:=CB.le bh
 have CD:=se.le bj
 have CE:=CD.le bk
 have sn:=CE.le bh
 have CF:=sf.le bj
 have CG:=CF.le bk
 have sq:=CG.le bh
 have CH:=gU.le aU
 have CI:=CH.le aW
 have CJ:=CI.le dk
 have CL:=CJ.le ci
 have CM:=CL.le bS
 have CN:=CM.le bT
 have CO:=CN.le bK
 have CP:=CO.le br
 have CQ:=CP.le bm
 have CR:=CQ.le bl
 have CT:=CR.le bj
 have CU:=CT.le bk
 have lY:=CU.le bh
 have q:=bnd te
 obtain ⟨⟨MV,MW⟩,CV,tf⟩:=q
 try dsimp only at tf
 refine zK 0 Z Z Z Z (zJ Z Z Tryz.call16 (zB Z (zB Z zP)) Z) sT (fun hs=>wCZ (⟨cd,cf,bR⟩:wAE) bV bZ bW b5 bX b8 p2 aq au pp oW hs sm sn sq lY CV) (.inr Z) ?_
 rintro iI Nq OY pq bg JL ⟨rfl,rfl⟩
 have jv:sW w U iI [.blk b2 25 B0,.blk aS 25 az,.blk aV 34 aT] pq:=JL
 refine oM Z Z (oR Z (zz Z Z (v:=jV MV) Z) (oR Z (zz Z Z (v:=jV MW) Z) (oA Z Z (oA Z Z (eN (zD (sR fL8 Z (oM Z xV (oM Z Z (oR Z (zw Z Z Z) (oM Z Z (ifc tf ?_ ?_))))))))))))
 intro cL Kv
 refine zW Z Z Z (zC Z Z (zk (fun h=>h cL.out))) Z xU (zW Z Z Z (zC Z Z (zk (fun h=>h cL.out))) Z Z (zX Z Z Z (zC Z Z (zk (fun h=>h cL.out))) (fun _=>zw Z Z Z) (oR Z (zM Z (zk (fun h=>h cL.out)) Z) (eN (ifc Kv ?_ ?_)))))
 intro ls Kw
 refine zp (zk (fun h=>h ls.out)) (kN (sR (.fl 0 (.fx 1 (wJL (.nil)) .stop)) Z (oL Z (jv.ldBA (j:=1) Z Z jm ZJ zr (vs:=az) Z Z) ?_)))
 have CW:=sg.le bh
 have lZ:=CW.le bg
 have CX:=sj.le bh
 have l3:=CX.le bg
 have CY:=sk.le bh
 have l4:=CY.le bg
 have q:=bnd Kw
 obtain ⟨⟨mC,mD⟩,CZ,tg⟩:=q
 try dsimp only at tg
 refine zK 0 Z Z Z Z (zJ Z Z Tryz.call17 (zB Z zP) Z) jv (fun hs=>wHM (⟨bo,bp,bq⟩:wAB) bA bD bB bE bC bF pq iI hs lZ l3 l4 CZ) (.inr Z) ?_
 rintro oX Nr OZ pt be JM ⟨iC,jj,vO,rfl,rfl,C0⟩
 let d9:Res:=.row iC jj 22 1 vO
 have sU:sW w U oX [d9,.blk b2 25 B0,.blk aS 25 az,.blk aV 34 aT] pt:=JM
 refine oM Z Z (oR Z (zz Z Z (v:=.slice iC mC.length jj) Z) (oR Z (zz Z Z (v:=jV mD) Z) (oA Z Z (oA Z Z (eN (sR gAy Z (oL Z (sU.ldBA (j:=3) Z Z gS ZN ZD (vs:=aT) Z Z) ?_)))))))
 have C1:=sm.le bg
 have l5:=C1.le be
 have C2:=sn.le bg
 have l6:=C2.le be
 have C4:=sq.le bg
 have l7:=C4.le be
 refine bnK tg fun jH C5 Kx=>zK 0 Z Z Z Z (zJ Z Z Tryz.call18 (zB Z zP) Z) sU (fun hs=>wEC (⟨cd,cf,bR⟩:wAE) bV bZ bW b5 bX b8 pt oX hs l5 l6 l7 C5) (.inr Z) ?_
 rintro fY Ns O0 u6 aY JN ⟨rfl,rfl⟩
 have md:sW w U fY [d9,.blk b2 25 B0,.blk aS 25 az,.blk aV 34 aT] u6:=JN
 refine oA Z Z (eN (zD (bnK Kx fun vE tC Ky=>CK.cut (fun σ_ w_=>∃ (U_:PHeap),σ_ 1=.slice am p1.length ap/\σ_ 2=.slice aq p2.length au/\σ_ 3=.pointer (some ⟨b2,0,none⟩)/\σ_ 9=.pointer (some ⟨aS,0,none⟩)/\σ_ 10=.slice bU cw.length bY/\σ_ 11=.slice bP bI.length bQ/\σ_ 12=.pointer (some ⟨aV,0,none⟩)/\σ_ 15=jV mD/\σ_ 20=.slice iC mC.length jj/\σ_ 21=jV jH/\σ_ 123=.bool vE/\PHeap.Le fY U_/\sW w U U_ [.blk b2 25 B0,.blk aS 25 az,.blk aV 34 aT,d9] w_) ?_ ?_)))
 refine rR fL12 Z (oM Z Z (oM Z Z (oR Z (zw Z Z Z) (oM Z Z ?_))))
 by_cases bi:mD=jH
 have th:=tC;rw [if_pos bi] at th;replace bi:=zE bi
 refine zW Z Z Z (zC Z Z (zk (fun h=>h bi.out))) Z Z (zX Z Z Z (zC Z Z (zk (fun h=>h bi.out))) (fun _=>zw Z Z Z) (zW Z Z Z (zC Z Z (zk (fun h=>h bi.out))) Z Z (ifc th ?_ ?_)))
 intro cN Kz
 refine zL Z Z Z (zF Z Z (zk (fun h=>h cN.out)) Z) (zL Z Z Z (zF Z Z (zk (fun h=>h cN.out)) Z) (zL Z Z Z (zF Z Z (zk (fun h=>h cN.out)) Z) (zX Z Z Z (zC Z Z (zk (fun h=>h bi.out))) (fun _=>zM Z (zk (fun h=>h cN.out)) Z) (oR Z (zM Z (zk (fun h=>h bi.out)) Z) (zq ?_)))))
 cases Kz
 exact zG ⟨rfl,⟨fY,lQ,jl,lR,jm,lS,lT,gS,rfl,rfl,rfl,rfl,(zZ _),(md.pick [1,2,3,0] _ (by decide) rfl)⟩⟩
 intro cN KA
 refine zW Z Z Z (wT Z cN) Z Z (rU Z (wT Z cN) (zi Z Z zl) (rU Z (wT Z cN) (ZR Z Z Z) (zX Z Z Z (zC Z Z (zk (fun h=>h bi.out))) (fun _=>zR Z (ZX cN.out) Z) (oR Z (zM Z (zk (fun h=>h bi.out)) Z) (zq ?_)))))
 have q:=nA KA
 obtain rfl:=q
 exact zG ⟨rfl,⟨fY,lQ,jl,lR,jm,lS,lT,gS,rfl,rfl,rfl,rfl,(zZ _),(md.pick [1,2,3,0] _ (by decide) rfl)⟩⟩
 have tj:=tC;rw [if_neg bi] at tj;replace bi:=zE bi
 refine oT Z bi (oT Z bi (oT Z bi (zL Z Z Z (wAH Z Z Z) (zL Z Z Z (wAH Z Z Z) (zL Z Z Z (wAH Z Z Z) (oT Z bi (oR Z (zR Z (ZX bi.out) Z) (zq ?_))))))))
 cases tj
 exact zG ⟨rfl,⟨fY,lQ,jl,lR,jm,lS,lT,gS,rfl,rfl,rfl,rfl,(zZ _),(md.pick [1,2,3,0] _ (by decide) rfl)⟩⟩
 rintro P4 j7 ⟨oY,eZ,fb,fc,df,fd,fe,lU,xW,xX,ff,rD,aZ,gT⟩
 refine ifc Ky ?_ ?_
 intro lu KB
 refine zt (rD.trans (congrArg nB lu.out)) (sR fL1 Z (oA Z Z (eN (zI (zH ?_)))))
 have hE:=nA KB;first | subst r | cases hE
 exact ⟨rfl,_,(zn rfl),oY,_,(gT.pick [] _ (by decide) rfl),rfl,rfl⟩
 intro lu KC
 refine zp (rD.trans (congrArg nB (nD.2 lu.out))) (kN (zD (sR fL2 Z (oM Z xW (oR Z (Ze Z Z Z) (eN (ifc KC ?_ ?_)))))))
 intro lv KD
 refine cT Z lv (sR (.fl 0 (.fl 1 (.fx 2 (wJM (.nil)) .stop))) Z (oL Z (gT.ldBA (j:=2) Z Z lU ZN ZD (vs:=aT) Z Z) (oM Z xX ?_)))
 have C6:=C0.le aY
 have C7:=C6.le aZ
 have q:=gT.freezeRR (R:=wEV) (k:=3) rfl C7 rfl (by decide)
 obtain ⟨o0,bL,Mq,JO⟩:=q
 have JP:sW w U o0 [.blk b2 25 B0,.blk aS 25 az,.blk aV 34 aT] j7:=JO
 have C8:=l5.le aY
 have C9:=C8.le aZ
 have ss:=C9.le bL
 have Da:=l6.le aY
 have Dc:=Da.le aZ
 have su:=Dc.le bL
 have Dd:=l7.le aY
 have De:=Dd.le aZ
 have sv:=De.le bL
 have q:=bnd KD
 obtain ⟨⟨MX,MY⟩,Df,tm⟩:=q
 try dsimp only at tm
 refine zK 0 Z Z Z Z (zJ Z Z Tryz.call14 (zB Z (zB Z zP)) Z) JP (fun hs=>wDR (⟨cd,cf,bR⟩:wAE) bV bZ bW b5 bX b8 mC iC jj j7 o0 hs ss su sv Mq Df) (.inr Z) ?_
 rintro iJ Nt O1 pu bM JQ ⟨rfl,rfl⟩
 have jw:sW w U iJ [.blk b2 25 B0,.blk aS 25 az,.blk aV 34 aT] pu:=JQ
 refine oM Z Z (oR Z (zz Z Z (v:=.bool MX) Z) (oR Z (zz Z Z (v:=jV MY) Z) (oA Z Z (oA Z Z (eN (sR fL6 Z (oM Z Z (oR Z (zw Z Z Z) (oM Z Z (ifc tm ?_ ?_))))))))))
 intro dA KF
 refine zW Z Z Z (zC Z Z (zk (fun h=>h dA.out))) Z Z (zX Z Z Z (zC Z Z (zk (fun h=>h dA.out))) (fun _=>ZQ Z Z) (oR Z (zM Z (zk (fun h=>h dA.out)) Z) (eN (ifc KF ?_ ?_))))
 intro lw KG
 refine zp (nC lw.out) (kN (sR (.fl 0 (.fx 1 (wJL (.nil)) .stop)) Z (oL Z (jw.ldBA (j:=1) Z Z df ZJ zr (vs:=az) Z Z) ?_)))
 have Dg:=lZ.le be
 have Dh:=Dg.le aY
 have Di:=Dh.le aZ
 have Dj:=Di.le bL
 have sw:=Dj.le bM
 have Dk:=l3.le be
 have Dl:=Dk.le aY
 have Dm:=Dl.le aZ
 have Dn:=Dm.le bL
 have sA:=Dn.le bM
 have Do:=l4.le be
 have Dp:=Do.le aY
 have Dq:=Dp.le aZ
 have Dr:=Dq.le bL
 have sB:=Dr.le bM
 have q:=bnd KG
 obtain ⟨⟨gZ,ub⟩,Ds,cp⟩:=q
 try dsimp only at cp
 refine zK 0 Z Z Z Z (zJ Z Z Tryz.call19 (zB Z zP) Z) jw (fun hs=>wEu (⟨bo,bp,bq⟩:wAB) bA bD bB bE bC bF pu iJ hs sw sA sB Ds) (.inr Z) ?_
 rintro cZ Nu O2 j8 bN JR ⟨jN,lx,rfl,rfl⟩
 have dg:sW w U cZ [.row jN lx 3 1 (hH KL.encI gZ),.blk b2 25 B0,.blk aS 25 az,.blk aV 34 aT] j8:=JR
 refine oM Z Z (oR Z (zz Z Z (v:=.slice jN gZ.length lx) Z) (oR Z (zz Z Z (v:=jV ub) Z) (oA Z Z (oA Z Z (eN ?_)))))
 have q:=wBp cp
 obtain ⟨MO,cr⟩:=q
 refine CK.cut (fun σ_ w_=>MO=.inl ()/\∃ (U_:PHeap),σ_ 1=.slice am p1.length ap/\σ_ 2=.slice aq p2.length au/\σ_ 3=.pointer (some ⟨b2,0,none⟩)/\σ_ 9=.pointer (some ⟨aS,0,none⟩)/\σ_ 10=.slice bU cw.length bY/\σ_ 11=.slice bP bI.length bQ/\PHeap.Le cZ U_/\sW w U U_ [.blk b2 25 B0,.blk aS 25 az,.blk aV 34 aT] w_) ?_ ?_
 refine zd (sR fL3 Z (oM Z ff (oR Z (Ze Z Z Z) (oA Z Z (eN ?_)))))
 by_cases db:jH=0
 have tn:=cr;rw [if_pos db] at tn;replace db:=zE db
 refine cT Z db (sR fL7 Z (oM Z Z (oR Z (zw Z Z Z) (oM Z Z (ifc tn ?_ ?_)))))
 intro cO KH
 refine zW Z Z Z (zC Z Z (zk (fun h=>h cO.out))) Z Z (zX Z Z Z (zC Z Z (zk (fun h=>h cO.out))) (fun _=>zi Z Z zA) (zX Z Z Z (zC Z Z (zk (fun h=>h cO.out))) (fun _=>ZR Z Z Z) (oR Z (zM Z (zk (fun h=>h cO.out)) Z) (eN (ifc KH ?_ ?_)))))
 intro ly KI
 refine cT Z ly (sR fL1 Z (oA Z Z (eN (zI (zV ?_)))))
 have q:=wAI KI
 obtain ⟨O3,KJ,vQ⟩:=q
 have q:=wBI cp cr vQ
 obtain rfl:=q
 refine zH ?_
 have hE:=nA KJ;first | subst r | cases hE
 exact ⟨rfl,_,(zn rfl),cZ,_,(dg.pick [] _ (by decide) rfl),rfl,rfl⟩
 intro ly KK
 exact cF Z ly (ZG (zj (zG ⟨rfl,(nA KK).symm,⟨cZ,eZ,fb,fc,df,fd,fe,(zZ _),(dg.pick [1,2,3] _ (by decide) rfl)⟩⟩)))
 intro cO KM
 refine oT Z cO (oT Z cO (oT Z cO (oR Z (zR Z (ZX cO.out) Z) (eN (zt Z (sR fL1 Z (oA Z Z (eN (zI (zV ?_))))))))))
 have q:=wAI KM
 obtain ⟨O4,KN,vR⟩:=q
 have q:=wBI cp cr vR
 obtain rfl:=q
 refine zH ?_
 have hE:=nA KN;first | subst r | cases hE
 exact ⟨rfl,_,(zn rfl),cZ,_,(dg.pick [] _ (by decide) rfl),rfl,rfl⟩
 have tp:=cr;rw [if_neg db] at tp;replace db:=zE db
 refine cF Z db (sR fL3 Z (oM Z ff (oR Z (Ze Z Z Z) (oA Z Z (eN (ifc tp ?_ ?_))))))
 intro lz KO
 refine cT Z lz (sR (.fl 0 (.fl 1 (.fx 2 (wJM (.nil)) .stop))) Z (oL Z (dg.ldBA (j:=3) Z Z lU ZN ZD (vs:=aT) Z Z) (oM Z Z ?_)))
 have q:=dg.freezeR (k:=0) (n:=gZ.length) rfl (wAJ (f:=KL.encI) (sz:=1) (fun _=>rfl) gZ) (by decide)
 obtain ⟨o5,jC,Mr,JT⟩:=q
 have JU:sW w U o5 [.blk b2 25 B0,.blk aS 25 az,.blk aV 34 aT] j8:=JT
 have Dt:=ss.le bM
 have Du:=Dt.le bN
 have Dw:=Du.le jC
 have Dx:=su.le bM
 have Dy:=Dx.le bN
 have Dz:=Dy.le jC
 have DA:=sv.le bM
 have DB:=DA.le bN
 have DC:=DB.le jC
 have q:=bnd KO
 obtain ⟨⟨uc,ud⟩,DD,tq⟩:=q
 try dsimp only at tq
 refine zK 0 Z Z Z Z (zJ Z Z Tryz.call16 (zB Z (zB Z zP)) Z) JU (fun hs=>wCZ (⟨cd,cf,bR⟩:wAE) bV bZ bW b5 bX b8 gZ jN lx j8 o5 hs Dw Dz DC Mr DD) (.inr Z) ?_
 rintro fZ Nv O5 u7 ML JV ⟨rfl,rfl⟩
 have jx:sW w U fZ [.blk b2 25 B0,.blk aS 25 az,.blk aV 34 aT] u7:=JV
 refine oM Z Z (oR Z (zz Z Z (v:=jV uc) Z) (oR Z (zz Z Z (v:=jV ud) Z) (oA Z Z (oA Z Z (eN (zD (CK.fresh fun cX cu=>?_)))))))
 have xY:cX 1=.slice am p1.length ap:=(cu 1).trans eZ
 have xZ:cX 2=.slice aq p2.length au:=(cu 2).trans fb
 have x2:cX 3=.pointer (some ⟨b2,0,none⟩):=(cu 3).trans fc
 have x3:cX 9=.pointer (some ⟨aS,0,none⟩):=(cu 9).trans df
 have x7:cX 10=.slice bU cw.length bY:=(cu 10).trans fd
 have ya:cX 11=.slice bP bI.length bQ:=(cu 11).trans fe
 have yb:cX 15=jV ub:=(cu 15).trans rfl
 have yc:cX 25=jV uc:=(cu 25).trans rfl
 have yd:cX 26=jV ud:=(cu 26).trans rfl
 clear cu
 refine rR wSG Z (oM Z yb (oR Z (zw Z Z Z) (oM Z Z (ifc tq ?_ ?_))))
 intro dB KP
 refine zW Z Z Z (zC Z Z (zk (fun h=>h dB.out))) Z yd (zX Z Z Z (zC Z Z (zk (fun h=>h dB.out))) (fun _=>zw Z Z Z) (oR Z (zM Z (zk (fun h=>h dB.out)) Z) (oM Z Z (ifc KP ?_ ?_))))
 intro dC KQ
 refine zW Z Z Z (zC Z Z (zk (fun h=>h dC.out))) Z yc (zX Z Z Z (zC Z Z (zk (fun h=>h dC.out))) (fun _=>ze Z Z Z) (oR Z (zM Z (zk (fun h=>h dC.out)) Z) (eN (ifc KQ ?_ ?_))))
 intro lA KR
 refine cT Z lA (sR fL1 Z (oA Z Z (eN (zI (zV ?_)))))
 have q:=wAI KR
 obtain ⟨O6,KS,vS⟩:=q
 have q:=wBI cp cr vS
 obtain rfl:=q
 refine zH ?_
 have hE:=nA KS;first | subst r | cases hE
 exact ⟨rfl,_,(zn rfl),fZ,_,(jx.pick [] _ (by decide) rfl),rfl,rfl⟩
 intro lA KT
 exact cF Z lA (ZG (zj (zG ⟨Z,(nA KT).symm,⟨fZ,xY,xZ,x2,x3,x7,ya,(jC.trans ML),jx⟩⟩)))
 intro dC KU
 refine oT Z dC (oT Z dC (oR Z (zR Z (ZX dC.out) Z) (eN (zt Z (sR fL1 Z (oA Z Z (eN (zI (zV ?_)))))))))
 have q:=wAI KU
 obtain ⟨O7,KV,vT⟩:=q
 have q:=wBI cp cr vT
 obtain rfl:=q
 refine zH ?_
 have hE:=nA KV;first | subst r | cases hE
 exact ⟨rfl,_,(zn rfl),fZ,_,(jx.pick [] _ (by decide) rfl),rfl,rfl⟩
 intro dB KW
 refine oT Z dB (oT Z dB (oR Z (zR Z (ZX dB.out) Z) (oM Z Z (oN Z (oN Z (oR Z (zR Z Z Z) (eN (zt Z (sR fL1 Z (oA Z Z (eN (zI (zV ?_)))))))))))))
 have q:=wAI KW
 obtain ⟨O8,KY,vU⟩:=q
 have q:=wBI cp cr vU
 obtain rfl:=q
 refine zH ?_
 have hE:=nA KY;first | subst r | cases hE
 exact ⟨rfl,_,(zn rfl),fZ,_,(jx.pick [] _ (by decide) rfl),rfl,rfl⟩
 intro lz KZ
 refine cF Z lz (sR fL9 Z (oM Z Z (oM Z ff (oR Z (zw Z Z Z) (oM Z Z (ifc KZ ?_ ?_))))))
 intro cP K0
 refine zW Z Z Z (zC Z Z (zk (fun h=>h cP.out))) Z Z (zX Z Z Z (zC Z Z (zk (fun h=>h cP.out))) (fun _=>zi Z Z zA) (zX Z Z Z (zC Z Z (zk (fun h=>h cP.out))) (fun _=>ZR Z Z Z) (oR Z (zM Z (zk (fun h=>h cP.out)) Z) (oA Z Z (eN (ifc K0 ?_ ?_))))))
 intro lB K1
 refine cT Z lB (sR fL1 Z (oA Z Z (eN (zI (zV ?_)))))
 have q:=wAI K1
 obtain ⟨O9,K3,vV⟩:=q
 have q:=wBI cp cr vV
 obtain rfl:=q
 refine zH ?_
 have hE:=nA K3;first | subst r | cases hE
 exact ⟨rfl,_,(zn rfl),cZ,_,(dg.pick [] _ (by decide) rfl),rfl,rfl⟩
 intro lB K5
 exact cF Z lB (ZG (zj (zG ⟨rfl,(nA K5).symm,⟨cZ,eZ,fb,fc,df,fd,fe,(zZ _),(dg.pick [1,2,3] _ (by decide) rfl)⟩⟩)))
 intro cP K6
 refine oT Z cP (oT Z cP (oT Z cP (oR Z (zR Z (ZX cP.out) Z) (oA Z Z (eN (zt Z (sR fL1 Z (oA Z Z (eN (zI (zV ?_)))))))))))
 have q:=wAI K6
 obtain ⟨Pa,K7,vW⟩:=q
 have q:=wBI cp cr vW
 obtain rfl:=q
 refine zH ?_
 have hE:=nA K7;first | subst r | cases hE
 exact ⟨rfl,_,(zn rfl),cZ,_,(dg.pick [] _ (by decide) rfl),rfl,rfl⟩
 rintro P5 u9 ⟨v9,⟨uB,ye,yf,yg,yh,yi,yj,cz,mf⟩⟩
 have tr:=wCR cp cr v9
 try dsimp only at tr
 refine sR (.fl 0 (.fl 1 (.fx 2 (wSK (.fx 6 (wPT gBi) .stop)) .stop))) Z (oL Z (mf.ldBA (j:=1) Z Z yh ZJ zr (vs:=az) Z Z) (oL Z (mf.ldBA (j:=0) Z Z yg ZJ zr (vs:=B0) Z Z) ?_))
 have DE:=sw.le bN
 have DF:=DE.le cz
 have DG:=sA.le bN
 have DH:=DG.le cz
 have DI:=sB.le bN
 have DJ:=DI.le cz
 have DK:=cj.le aU
 have DL:=DK.le aW
 have DM:=DL.le dk
 have DN:=DM.le ci
 have DO:=DN.le bS
 have DP:=DO.le bT
 have DQ:=DP.le bK
 have DR:=DQ.le br
 have DS:=DR.le bm
 have DT:=DS.le bl
 have DU:=DT.le bj
 have DV:=DU.le bk
 have DW:=DV.le bh
 have DX:=DW.le bg
 have DY:=DX.le be
 have DZ:=DY.le aY
 have D0:=DZ.le aZ
 have D5:=D0.le bL
 have D6:=D5.le bM
 have D7:=D6.le bN
 have D8:=D7.le cz
 have D9:=cm.le aU
 have Ea:=D9.le aW
 have Eb:=Ea.le dk
 have Ec:=Eb.le ci
 have Ed:=Ec.le bS
 have Ee:=Ed.le bT
 have Ef:=Ee.le bK
 have Eg:=Ef.le br
 have Eh:=Eg.le bm
 have Ei:=Eh.le bl
 have Ej:=Ei.le bj
 have Ek:=Ej.le bk
 have El:=Ek.le bh
 have Em:=El.le bg
 have En:=Em.le be
 have Eo:=En.le aY
 have Ep:=Eo.le aZ
 have Er:=Ep.le bL
 have Es:=Er.le bM
 have Et:=Es.le bN
 have Eu:=Et.le cz
 have Ev:=cn.le aU
 have Ew:=Ev.le aW
 have Ey:=Ew.le dk
 have Ez:=Ey.le ci
 have EA:=Ez.le bS
 have EB:=EA.le bT
 have EC:=EB.le bK
 have ED:=EC.le br
 have EE:=ED.le bm
 have EF:=EE.le bl
 have EG:=EF.le bj
 have EH:=EG.le bk
 have EI:=EH.le bh
 have EJ:=EI.le bg
 have EK:=EJ.le be
 have EL:=EK.le aY
 have EM:=EL.le aZ
 have EN:=EM.le bL
 have EO:=EN.le bM
 have EP:=EO.le bN
 have EQ:=EP.le cz
 refine bnK tr fun PB ES K8=>zK 0 Z Z Z Z (zJ Z Z Tryz.call20 (zB Z (zB Z zP)) Z) mf (fun hs=>wDT (⟨bo,bp,bq⟩:wAB) bA bD bB bE bC bF p0 bs bv bt bw bu bz u9 uB hs DF DH DJ D8 Eu EQ ES) (.inr Z) ?_
 rintro jU Nw Pb py jD JW ⟨rfl,rfl⟩
 have sX:sW w U jU [.blk b2 25 B0,.blk aS 25 az,.blk aV 34 aT] py:=JW
 refine oM Z Z (ifc K8 ?_ ?_)
 intro cQ K9
 refine zW Z Z Z (zC Z Z (congrArg nB cQ.out)) Z yi (zW Z Z Z (zC Z Z (congrArg nB cQ.out)) Z ye ?_)
 have ET:=lW.le bl
 have EU:=ET.le bj
 have EV:=EU.le bk
 have EW:=EV.le bh
 have EX:=EW.le bg
 have EY:=EX.le be
 have EZ:=EY.le aY
 have E1:=EZ.le aZ
 have E2:=E1.le bL
 have E3:=E2.le bM
 have E4:=E3.le bN
 have E5:=E4.le cz
 have E6:=E5.le jD
 have E7:=lX.le bj
 have E8:=E7.le bk
 have E9:=E8.le bh
 have Fa:=E9.le bg
 have Fb:=Fa.le be
 have Fc:=Fb.le aY
 have Fd:=Fc.le aZ
 have Fe:=Fd.le bL
 have Ff:=Fe.le bM
 have Fg:=Ff.le bN
 have Fh:=Fg.le cz
 have Fi:=Fh.le jD
 refine bnK K9 fun PC Fj La=>zK 0 Z Z Z (zC Z Z (congrArg nB cQ.out)) (zJ Z Z Tryz.call21 (zB Z (zB Z zP)) Z) sX (fun hs=>wCd cw bU bY p1 am ap py jU hs E6 Fi Fj) (.inr Z) ?_
 rintro jW Nx Pc pz tW JX ⟨rfl,rfl⟩
 have sY:sW w U jW [.blk b2 25 B0,.blk aS 25 az,.blk aV 34 aT] pz:=JX
 refine oR Z (zR Z (congrArg nB cQ.out) Z) (oM Z Z (ifc La ?_ ?_))
 intro cR Lb
 refine zW Z Z Z (zC Z Z (congrArg nB cR.out)) Z yj (zW Z Z Z (zC Z Z (congrArg nB cR.out)) Z yf ?_)
 have Fk:=mq.le bh
 have Fm:=Fk.le bg
 have Fo:=Fm.le be
 have Fp:=Fo.le aY
 have Fq:=Fp.le aZ
 have Fs:=Fq.le bL
 have Ft:=Fs.le bM
 have Fu:=Ft.le bN
 have Fv:=Fu.le cz
 have Fw:=Fv.le jD
 have Fx:=Fw.le tW
 have Fy:=lY.le bg
 have Fz:=Fy.le be
 have FA:=Fz.le aY
 have FB:=FA.le aZ
 have FC:=FB.le bL
 have FD:=FC.le bM
 have FF:=FD.le bN
 have FG:=FF.le cz
 have FH:=FG.le jD
 have FI:=FH.le tW
 refine bnK Lb fun PD FJ Lc=>zK 0 Z Z Z (zC Z Z (congrArg nB cR.out)) (zJ Z Z Tryz.call22 (zB Z (zB Z zP)) Z) sY (fun hs=>wBZ bI bP bQ p2 aq au pz jW hs Fx FI FJ) (.inr Z) ?_
 rintro jX Ny Pe pC Oq JY ⟨rfl,rfl⟩
 have sZ:sW w U jX [.blk b2 25 B0,.blk aS 25 az,.blk aV 34 aT] pC:=JY
 refine oR Z (zR Z (congrArg nB cR.out) Z) (oM Z Z (ifc Lc ?_ ?_))
 intro gQ Ld
 refine bnK Ld fun PF FK Lf=>zK 0 Z Z Z (zC Z Z (congrArg nB gQ.out)) (zJ Z Z Tryz.call6 zP Z) sZ (fun hs=>wBV pC jX hs FK) (.inr Z) ?_
 rintro o6 Nz Pf va Ot JZ ⟨rfl,rfl⟩
 have J3:sW w U o6 [.blk b2 25 B0,.blk aS 25 az,.blk aV 34 aT] va:=JZ
 refine oR Z (zR Z (congrArg nB gQ.out) Z) (oA Z Z (eN (zI ?_)))
 have hE:=nA Lf;first | subst r | cases hE
 exact ⟨rfl,_,(zn rfl),o6,_,(J3.pick [] _ (by decide) rfl),rfl,rfl⟩
 intro gQ Lg
 refine ZF Z Z Z (zF Z Z (congrArg nB (nD.2 gQ.out)) Z) (oR Z (zM Z (congrArg nB (nD.2 gQ.out)) Z) (oA Z Z (eN (zI ?_))))
 have hE:=nA Lg;first | subst r | cases hE
 exact ⟨rfl,_,(zn rfl),jX,_,(sZ.pick [] _ (by decide) rfl),rfl,rfl⟩
 intro cR Lh
 refine zL Z Z Z (zF Z Z (congrArg nB (nD.2 cR.out)) Z) (zL Z Z Z (zF Z Z (congrArg nB (nD.2 cR.out)) Z) (ZF Z Z Z (zF Z Z (congrArg nB (nD.2 cR.out)) Z) (oR Z (zM Z (congrArg nB (nD.2 cR.out)) Z) (oM Z Z (ZF Z Z Z (zF Z Z Z Z) (oR Z (zM Z Z Z) (oA Z Z (eN (zI ?_)))))))))
 have hE:=nA Lh;first | subst r | cases hE
 exact ⟨rfl,_,(zn rfl),jW,_,(sY.pick [] _ (by decide) rfl),rfl,rfl⟩
 intro cQ Li
 refine zL Z Z Z (zF Z Z (congrArg nB (nD.2 cQ.out)) Z) (zL Z Z Z (zF Z Z (congrArg nB (nD.2 cQ.out)) Z) (ZF Z Z Z (zF Z Z (congrArg nB (nD.2 cQ.out)) Z) (oR Z (zM Z (congrArg nB (nD.2 cQ.out)) Z) (oM Z Z (oN Z (oN Z (ZF Z Z Z (zF Z Z Z Z) (oR Z (zM Z Z Z) (oM Z Z (ZF Z Z Z (zF Z Z Z Z) (oR Z (zM Z Z Z) (oA Z Z (eN (zI ?_))))))))))))))
 have hE:=nA Li;first | subst r | cases hE
 exact ⟨rfl,_,(zn rfl),jU,_,(sX.pick [] _ (by decide) rfl),rfl,rfl⟩
 intro lw Lk
 refine zt (nF (lw.out)) (sR fL1 Z (oA Z Z (eN (zI (zH ?_)))))
 have hE:=nA Lk;first | subst r | cases hE
 exact ⟨rfl,_,(zn rfl),iJ,_,(jw.pick [] _ (by decide) rfl),rfl,rfl⟩
 intro dA Ll
 refine oT Z dA (oT Z dA (oR Z (zR Z (ZX dA.out) Z) (eN (zt Z (sR fL1 Z (oA Z Z (eN (zI (zH ?_)))))))))
 have hE:=nA Ll;first | subst r | cases hE
 exact ⟨rfl,_,(zn rfl),iJ,_,(jw.pick [] _ (by decide) rfl),rfl,rfl⟩
 intro lv Lm
 refine cF Z lv (kN (sR (.fl 0 (.fx 1 (wJL (.nil)) .stop)) Z (oL Z (gT.ldBA (j:=1) Z Z df ZJ zr (vs:=az) Z Z) ?_)))
 have FL:=lZ.le be
 have FM:=FL.le aY
 have sC:=FM.le aZ
 have FN:=l3.le be
 have FO:=FN.le aY
 have sD:=FO.le aZ
 have FP:=l4.le be
 have FQ:=FP.le aY
 have sE:=FQ.le aZ
 have q:=bnd Lm
 obtain ⟨⟨g6,MZ⟩,FR,cq⟩:=q
 try dsimp only at cq
 refine zK 0 Z Z Z Z (zJ Z Z Tryz.call19 (zB Z zP) Z) gT (fun hs=>wEu (⟨bo,bp,bq⟩:wAB) bA bD bB bE bC bF j7 oY hs sC sD sE FR) (.inr Z) ?_
 rintro da NA Pg j9 bO J4 ⟨jO,lC,rfl,rfl⟩
 have dh:sW w U da [.row jO lC 3 1 (hH KL.encI g6),.blk b2 25 B0,.blk aS 25 az,.blk aV 34 aT,d9] j9:=J4
 refine oM Z Z (oR Z (zz Z Z (v:=.slice jO g6.length lC) Z) (oR Z (zz Z Z (v:=jV MZ) Z) (oA Z Z (oA Z Z (eN ?_)))))
 have q:=wBp cq
 obtain ⟨MP,ct⟩:=q
 refine CK.cut (fun σ_ w_=>MP=.inl ()/\∃ (U_:PHeap),σ_ 1=.slice am p1.length ap/\σ_ 2=.slice aq p2.length au/\σ_ 3=.pointer (some ⟨b2,0,none⟩)/\σ_ 9=.pointer (some ⟨aS,0,none⟩)/\σ_ 10=.slice bU cw.length bY/\σ_ 11=.slice bP bI.length bQ/\PHeap.Le da U_/\sW w U U_ [.blk b2 25 B0,.blk aS 25 az,.blk aV 34 aT] w_) ?_ ?_
 refine zd (sR fL3 Z (oM Z ff (oR Z (Ze Z Z Z) (oA Z Z (eN ?_)))))
 by_cases de:jH=0
 have tu:=ct;rw [if_pos de] at tu;replace de:=zE de
 refine cT Z de (sR fL7 Z (oM Z Z (oR Z (zw Z Z Z) (oM Z Z (ifc tu ?_ ?_)))))
 intro cS Lo
 refine zW Z Z Z (zC Z Z (zk (fun h=>h cS.out))) Z Z (zX Z Z Z (zC Z Z (zk (fun h=>h cS.out))) (fun _=>zi Z Z zA) (zX Z Z Z (zC Z Z (zk (fun h=>h cS.out))) (fun _=>ZR Z Z Z) (oR Z (zM Z (zk (fun h=>h cS.out)) Z) (eN (ifc Lo ?_ ?_)))))
 intro lD Lp
 refine cT Z lD (sR fL1 Z (oA Z Z (eN (zI (zV ?_)))))
 have q:=wAI Lp
 obtain ⟨Ph,Lq,vX⟩:=q
 have q:=wBI cq ct vX
 obtain rfl:=q
 refine zH ?_
 have hE:=nA Lq;first | subst r | cases hE
 exact ⟨rfl,_,(zn rfl),da,_,(dh.pick [] _ (by decide) rfl),rfl,rfl⟩
 intro lD Lr
 exact cF Z lD (ZG (zj (zG ⟨rfl,(nA Lr).symm,⟨da,eZ,fb,fc,df,fd,fe,(zZ _),(dh.pick [1,2,3] _ (by decide) rfl)⟩⟩)))
 intro cS Ls
 refine oT Z cS (oT Z cS (oT Z cS (oR Z (zR Z (ZX cS.out) Z) (eN (zt Z (sR fL1 Z (oA Z Z (eN (zI (zV ?_))))))))))
 have q:=wAI Ls
 obtain ⟨Pi,Lu,vY⟩:=q
 have q:=wBI cq ct vY
 obtain rfl:=q
 refine zH ?_
 have hE:=nA Lu;first | subst r | cases hE
 exact ⟨rfl,_,(zn rfl),da,_,(dh.pick [] _ (by decide) rfl),rfl,rfl⟩
 have tv:=ct;rw [if_neg de] at tv;replace de:=zE de
 refine cF Z de (sR fL3 Z (oM Z ff (oR Z (Ze Z Z Z) (oA Z Z (eN (ifc tv ?_ ?_))))))
 intro lE Lv
 refine cT Z lE (sR (.fl 0 (.fl 1 (.fx 2 (wJM (.nil)) .stop))) Z (oL Z (dh.ldBA (j:=3) Z Z lU ZN ZD (vs:=aT) Z Z) (oM Z Z ?_)))
 have q:=dh.freezeR (k:=0) (n:=g6.length) rfl (wAJ (f:=KL.encI) (sz:=1) (fun _=>rfl) g6) (by decide)
 obtain ⟨o7,jE,Ms,J5⟩:=q
 have J6:sW w U o7 [.blk b2 25 B0,.blk aS 25 az,.blk aV 34 aT,d9] j9:=J5
 have FS:=l5.le aY
 have FT:=FS.le aZ
 have FU:=FT.le bO
 have FV:=FU.le jE
 have FW:=l6.le aY
 have FX:=FW.le aZ
 have FZ:=FX.le bO
 have F0:=FZ.le jE
 have F1:=l7.le aY
 have F2:=F1.le aZ
 have F4:=F2.le bO
 have F5:=F4.le jE
 have q:=bnd Lv
 obtain ⟨⟨M0,M2⟩,F6,tw⟩:=q
 try dsimp only at tw
 refine zK 0 Z Z Z Z (zJ Z Z Tryz.call16 (zB Z (zB Z zP)) Z) J6 (fun hs=>wCZ (⟨cd,cf,bR⟩:wAE) bV bZ bW b5 bX b8 g6 jO lC j9 o7 hs FV F0 F5 Ms F6) (.inr Z) ?_
 rintro ga NB Pj vb MM J7 ⟨rfl,rfl⟩
 have jy:sW w U ga [.blk b2 25 B0,.blk aS 25 az,.blk aV 34 aT,d9] vb:=J7
 refine oM Z Z (oR Z (zz Z Z (v:=jV M0) Z) (oR Z (zz Z Z (v:=jV M2) Z) (oA Z Z (oA Z Z (eN (sR wSG Z (oM Z Z (oR Z (zw Z Z Z) (oM Z Z (ifc tw ?_ ?_))))))))))
 intro dD Lw
 refine zW Z Z Z (zC Z Z (zk (fun h=>h dD.out))) Z Z (zX Z Z Z (zC Z Z (zk (fun h=>h dD.out))) (fun _=>zw Z Z Z) (oR Z (zM Z (zk (fun h=>h dD.out)) Z) (oM Z Z (ifc Lw ?_ ?_))))
 intro dE Lx
 refine zW Z Z Z (zC Z Z (zk (fun h=>h dE.out))) Z Z (zX Z Z Z (zC Z Z (zk (fun h=>h dE.out))) (fun _=>ze Z Z Z) (oR Z (zM Z (zk (fun h=>h dE.out)) Z) (eN (ifc Lx ?_ ?_))))
 intro lF Ly
 refine cT Z lF (sR fL1 Z (oA Z Z (eN (zI (zV ?_)))))
 have q:=wAI Ly
 obtain ⟨Pk,Lz,vZ⟩:=q
 have q:=wBI cq ct vZ
 obtain rfl:=q
 refine zH ?_
 have hE:=nA Lz;first | subst r | cases hE
 exact ⟨rfl,_,(zn rfl),ga,_,(jy.pick [] _ (by decide) rfl),rfl,rfl⟩
 intro lF LA
 exact cF Z lF (ZG (zj (zG ⟨rfl,(nA LA).symm,⟨ga,eZ,fb,fc,df,fd,fe,(jE.trans MM),(jy.pick [0,1,2] _ (by decide) rfl)⟩⟩)))
 intro dE LB
 refine oT Z dE (oT Z dE (oR Z (zR Z (ZX dE.out) Z) (eN (zt Z (sR fL1 Z (oA Z Z (eN (zI (zV ?_)))))))))
 have q:=wAI LB
 obtain ⟨Pm,LC,v4⟩:=q
 have q:=wBI cq ct v4
 obtain rfl:=q
 refine zH ?_
 have hE:=nA LC;first | subst r | cases hE
 exact ⟨rfl,_,(zn rfl),ga,_,(jy.pick [] _ (by decide) rfl),rfl,rfl⟩
 intro dD LD
 refine oT Z dD (oT Z dD (oR Z (zR Z (ZX dD.out) Z) (oM Z Z (oN Z (oN Z (oR Z (zR Z Z Z) (eN (zt Z (sR fL1 Z (oA Z Z (eN (zI (zV ?_)))))))))))))
 have q:=wAI LD
 obtain ⟨Pn,LE,v5⟩:=q
 have q:=wBI cq ct v5
 obtain rfl:=q
 refine zH ?_
 have hE:=nA LE;first | subst r | cases hE
 exact ⟨rfl,_,(zn rfl),ga,_,(jy.pick [] _ (by decide) rfl),rfl,rfl⟩
 intro lE LF
 refine cF Z lE (sR fL9 Z (oM Z Z (oM Z ff (oR Z (zw Z Z Z) (oM Z Z (ifc LF ?_ ?_))))))
 intro cU LG
 refine zW Z Z Z (zC Z Z (zk (fun h=>h cU.out))) Z Z (zX Z Z Z (zC Z Z (zk (fun h=>h cU.out))) (fun _=>zi Z Z zA) (zX Z Z Z (zC Z Z (zk (fun h=>h cU.out))) (fun _=>ZR Z Z Z) (oR Z (zM Z (zk (fun h=>h cU.out)) Z) (oA Z Z (eN (ifc LG ?_ ?_))))))
 intro lG LH
 refine cT Z lG (sR fL1 Z (oA Z Z (eN (zI (zV ?_)))))
 have q:=wAI LH
 obtain ⟨Po,LI,v7⟩:=q
 have q:=wBI cq ct v7
 obtain rfl:=q
 refine zH ?_
 have hE:=nA LI;first | subst r | cases hE
 exact ⟨rfl,_,(zn rfl),da,_,(dh.pick [] _ (by decide) rfl),rfl,rfl⟩
 intro lG LJ
 exact cF Z lG (ZG (zj (zG ⟨rfl,(nA LJ).symm,⟨da,eZ,fb,fc,df,fd,fe,(zZ _),(dh.pick [1,2,3] _ (by decide) rfl)⟩⟩)))
 intro cU LK
 refine oT Z cU (oT Z cU (oT Z cU (oR Z (zR Z (ZX cU.out) Z) (oA Z Z (eN (zt Z (sR fL1 Z (oA Z Z (eN (zI (zV ?_)))))))))))
 have q:=wAI LK
 obtain ⟨Pp,LL,v8⟩:=q
 have q:=wBI cq ct v8
 obtain rfl:=q
 refine zH ?_
 have hE:=nA LL;first | subst r | cases hE
 exact ⟨rfl,_,(zn rfl),da,_,(dh.pick [] _ (by decide) rfl),rfl,rfl⟩
 rintro P6 vc ⟨wa,⟨uC,yk,yl,ym,yn,yo,yp,cA,mg⟩⟩
 have tz:=wCR cq ct wa
 try dsimp only at tz
 refine sR (.fl 0 (.fl 1 (.fx 2 (wSK (.fx 6 (wPT gBi) .stop)) .stop))) Z (oL Z (mg.ldBA (j:=1) Z Z yn ZJ zr (vs:=az) Z Z) (oL Z (mg.ldBA (j:=0) Z Z ym ZJ zr (vs:=B0) Z Z) ?_))
 have F7:=sC.le bO
 have F8:=F7.le cA
 have F9:=sD.le bO
 have Ga:=F9.le cA
 have Gb:=sE.le bO
 have Gc:=Gb.le cA
 have Gd:=cj.le aU
 have Ge:=Gd.le aW
 have Gf:=Ge.le dk
 have Gg:=Gf.le ci
 have Gi:=Gg.le bS
 have Gj:=Gi.le bT
 have Gk:=Gj.le bK
 have Gl:=Gk.le br
 have Gm:=Gl.le bm
 have Gn:=Gm.le bl
 have Gp:=Gn.le bj
 have Gq:=Gp.le bk
 have Gr:=Gq.le bh
 have Gs:=Gr.le bg
 have Gt:=Gs.le be
 have Gu:=Gt.le aY
 have Gw:=Gu.le aZ
 have Gx:=Gw.le bO
 have Gy:=Gx.le cA
 have Gz:=cm.le aU
 have GA:=Gz.le aW
 have GB:=GA.le dk
 have GC:=GB.le ci
 have GD:=GC.le bS
 have GE:=GD.le bT
 have GF:=GE.le bK
 have GG:=GF.le br
 have GH:=GG.le bm
 have GI:=GH.le bl
 have GJ:=GI.le bj
 have GK:=GJ.le bk
 have GL:=GK.le bh
 have GM:=GL.le bg
 have GN:=GM.le be
 have GO:=GN.le aY
 have GP:=GO.le aZ
 have GQ:=GP.le bO
 have GR:=GQ.le cA
 have GS:=cn.le aU
 have GT:=GS.le aW
 have GU:=GT.le dk
 have GV:=GU.le ci
 have GW:=GV.le bS
 have GX:=GW.le bT
 have GY:=GX.le bK
 have GZ:=GY.le br
 have G0:=GZ.le bm
 have Ha:=G0.le bl
 have Hb:=Ha.le bj
 have Hc:=Hb.le bk
 have He:=Hc.le bh
 have Hf:=He.le bg
 have Hh:=Hf.le be
 have Hi:=Hh.le aY
 have Hj:=Hi.le aZ
 have Hk:=Hj.le bO
 have Hl:=Hk.le cA
 refine bnK tz fun PG Hm LM=>zK 0 Z Z Z Z (zJ Z Z Tryz.call20 (zB Z (zB Z zP)) Z) mg (fun hs=>wDT (⟨bo,bp,bq⟩:wAB) bA bD bB bE bC bF p0 bs bv bt bw bu bz vc uC hs F8 Ga Gc Gy GR Hl Hm) (.inr Z) ?_
 rintro jY NC Pq pD jG J8 ⟨rfl,rfl⟩
 have s5:sW w U jY [.blk b2 25 B0,.blk aS 25 az,.blk aV 34 aT] pD:=J8
 refine oM Z Z (ifc LM ?_ ?_)
 intro cV LN
 refine zW Z Z Z (zC Z Z (congrArg nB cV.out)) Z yo (zW Z Z Z (zC Z Z (congrArg nB cV.out)) Z yk ?_)
 have Hn:=lW.le bl
 have Ho:=Hn.le bj
 have Hp:=Ho.le bk
 have Hq:=Hp.le bh
 have Hr:=Hq.le bg
 have Hs:=Hr.le be
 have Ht:=Hs.le aY
 have Hu:=Ht.le aZ
 have Hv:=Hu.le bO
 have Hw:=Hv.le cA
 have Hx:=Hw.le jG
 have Hy:=lX.le bj
 have Hz:=Hy.le bk
 have HA:=Hz.le bh
 have HB:=HA.le bg
 have HD:=HB.le be
 have HF:=HD.le aY
 have HG:=HF.le aZ
 have HH:=HG.le bO
 have HI:=HH.le cA
 have HJ:=HI.le jG
 refine bnK LN fun PH HK LO=>zK 0 Z Z Z (zC Z Z (congrArg nB cV.out)) (zJ Z Z Tryz.call21 (zB Z (zB Z zP)) Z) s5 (fun hs=>wCd cw bU bY p1 am ap pD jY hs Hx HJ HK) (.inr Z) ?_
 rintro jZ NE Pr pE tX J9 ⟨rfl,rfl⟩
 have s6:sW w U jZ [.blk b2 25 B0,.blk aS 25 az,.blk aV 34 aT] pE:=J9
 refine oR Z (zR Z (congrArg nB cV.out) Z) (oM Z Z (ifc LO ?_ ?_))
 intro cW LP
 refine zW Z Z Z (zC Z Z (congrArg nB cW.out)) Z yp (zW Z Z Z (zC Z Z (congrArg nB cW.out)) Z yl ?_)
 have HM:=mq.le bh
 have HN:=HM.le bg
 have HO:=HN.le be
 have HP:=HO.le aY
 have HQ:=HP.le aZ
 have HS:=HQ.le bO
 have HT:=HS.le cA
 have HU:=HT.le jG
 have HV:=HU.le tX
 have HW:=lY.le bg
 have HX:=HW.le be
 have HZ:=HX.le aY
 have H0:=HZ.le aZ
 have H1:=H0.le bO
 have H2:=H1.le cA
 have H3:=H2.le jG
 have H4:=H3.le tX
 refine bnK LP fun PI H5 LQ=>zK 0 Z Z Z (zC Z Z (congrArg nB cW.out)) (zJ Z Z Tryz.call22 (zB Z (zB Z zP)) Z) s6 (fun hs=>wBZ bI bP bQ p2 aq au pE jZ hs HV H4 H5) (.inr Z) ?_
 rintro j0 NF Ps pF Ou Ka ⟨rfl,rfl⟩
 have s7:sW w U j0 [.blk b2 25 B0,.blk aS 25 az,.blk aV 34 aT] pF:=Ka
 refine oR Z (zR Z (congrArg nB cW.out) Z) (oM Z Z (ifc LQ ?_ ?_))
 intro gR LT
 refine bnK LT fun PJ H6 LU=>zK 0 Z Z Z (zC Z Z (congrArg nB gR.out)) (zJ Z Z Tryz.call6 zP Z) s7 (fun hs=>wBV pF j0 hs H6) (.inr Z) ?_
 rintro pa NG Pt vd Ov Kb ⟨rfl,rfl⟩
 have Kc:sW w U pa [.blk b2 25 B0,.blk aS 25 az,.blk aV 34 aT] vd:=Kb
 refine oR Z (zR Z (congrArg nB gR.out) Z) (oA Z Z (eN (zI ?_)))
 have hE:=nA LU;first | subst r | cases hE
 exact ⟨rfl,_,(zn rfl),pa,_,(Kc.pick [] _ (by decide) rfl),rfl,rfl⟩
 intro gR LV
 refine ZF Z Z Z (zF Z Z (congrArg nB (nD.2 gR.out)) Z) (oR Z (zM Z (congrArg nB (nD.2 gR.out)) Z) (oA Z Z (eN (zI ?_))))
 have hE:=nA LV;first | subst r | cases hE
 exact ⟨rfl,_,(zn rfl),j0,_,(s7.pick [] _ (by decide) rfl),rfl,rfl⟩
 intro cW LW
 refine zL Z Z Z (zF Z Z (congrArg nB (nD.2 cW.out)) Z) (zL Z Z Z (zF Z Z (congrArg nB (nD.2 cW.out)) Z) (ZF Z Z Z (zF Z Z (congrArg nB (nD.2 cW.out)) Z) (oR Z (zM Z (congrArg nB (nD.2 cW.out)) Z) (oM Z Z (ZF Z Z Z (zF Z Z Z Z) (oR Z (zM Z Z Z) (oA Z Z (eN (zI ?_)))))))))
 have hE:=nA LW;first | subst r | cases hE
 exact ⟨rfl,_,(zn rfl),jZ,_,(s6.pick [] _ (by decide) rfl),rfl,rfl⟩
 intro cV LX
 refine zL Z Z Z (zF Z Z (congrArg nB (nD.2 cV.out)) Z) (zL Z Z Z (zF Z Z (congrArg nB (nD.2 cV.out)) Z) (ZF Z Z Z (zF Z Z (congrArg nB (nD.2 cV.out)) Z) (oR Z (zM Z (congrArg nB (nD.2 cV.out)) Z) (oM Z Z (oN Z (oN Z (ZF Z Z Z (zF Z Z Z Z) (oR Z (zM Z Z Z) (oM Z Z (ZF Z Z Z (zF Z Z Z Z) (oR Z (zM Z Z Z) (oA Z Z (eN (zI ?_))))))))))))))
 have hE:=nA LX;first | subst r | cases hE
 exact ⟨rfl,_,(zn rfl),jY,_,(s5.pick [] _ (by decide) rfl),rfl,rfl⟩
 intro ls LY
 refine cT Z ls (sR fL1 Z (oA Z Z (eN (zI (zH ?_)))))
 have hE:=nA LY;first | subst r | cases hE
 exact ⟨rfl,_,(zn rfl),iI,_,(jv.pick [] _ (by decide) rfl),rfl,rfl⟩
 intro cL LZ
 refine oT Z cL (oT Z cL (oT Z cL (oR Z (zR Z (ZX cL.out) Z) (eN (zt Z (sR fL1 Z (oA Z Z (eN (zI (zH ?_))))))))))
 have hE:=nA LZ;first | subst r | cases hE
 exact ⟨rfl,_,(zn rfl),iI,_,(jv.pick [] _ (by decide) rfl),rfl,rfl⟩
 intro lq L0
 refine cT Z lq (sR fL1 Z (oA Z Z (eN (zI (zH ?_)))))
 have hE:=nA L0;first | subst r | cases hE
 exact ⟨rfl,_,(zn rfl),jS,_,(ju.pick [] _ (by decide) rfl),rfl,rfl⟩
 intro cK L4
 refine zL Z Z Z (zF Z Z (nF (cK.out)) Z) (zL Z Z Z (zF Z Z (nF (cK.out)) Z) (zL Z Z Z (zF Z Z (nF (cK.out)) Z) (oR Z (zR Z (nF (cK.out)) Z) (eN (zt Z (sR fL1 Z (oA Z Z (eN (zI (zH ?_))))))))))
 have hE:=nA L4;first | subst r | cases hE
 exact ⟨rfl,_,(zn rfl),jS,_,(ju.pick [] _ (by decide) rfl),rfl,rfl⟩
 intro lp L6
 refine cT Z lp (sR fL1 Z (oA Z Z (eN (zI (zH ?_)))))
 have hE:=nA L6;first | subst r | cases hE
 exact ⟨rfl,_,(zn rfl),jR,_,(mc.pick [] _ (by decide) rfl),rfl,rfl⟩
end Go.Proofs.YtfcmijinklojbaaGreat
