import Derived.Test.YthbficbpebiekaaGreatY6
import Derived.Test.YthbficbpebiekaaGreatY5
set_option linter.all false
open List renaming flatMap->nA,getElem_cons_succ->nG,getElem_cons_zero->nH,getElem_toArray->nI,length_set->nJ,set->nK
open Option.some renaming inj->nB
open Go.Value renaming bool->nD
open Bool renaming eq_false_iff->nE
namespace Go.Proofs.YthbficbpebiekaaGreat
open Go.KL
set_option maxHeartbeats 4000000
theorem wEV (p0:wAA) (pA0_0_0:Option Addr) (pc0_0_0:Nat) (pA0_2:Option Addr) (pc0_2:Nat) (w:World) (U:PHeap) (hS:St0 w U []) (ha0:Sl U 1 pA0_0_0 pc0_0_0 p0.Rules.Classes.length (nA KL.encI p0.Rules.Classes)) (ha1:SlR U wCS pA0_2 pc0_2 p0.Teams) {r:(Option wCg) × Int} (hm:wBr p0=some r):Gv Tryz.prog 98 [.agg #[.slice pA0_0_0 p0.Rules.Classes.length pc0_0_0,jV p0.Rules.Each,jV p0.Rules.Laps,jV p0.Rules.Spare,jV p0.Rules.Loop,jV p0.Rules.Unused,jV p0.Start,.slice pA0_2 p0.Teams.length pc0_2]] w (wCj w [] U (fun U_ L_ v=>match r.1 with | none=>v=.tuple #[.pointer none,jV r.2]/\L_=[] | some d=>∃ (b0:Nat) (A0p000:Option Addr) (c0p000:Nat) (A0p02:Option Addr) (c0p02:Nat) (A0p1:Option Addr) (c0p1:Nat) (cs0p1:List Value),v=.tuple #[.pointer (some ⟨b0,0,none⟩),jV r.2]/\L_=[.blk b0 246 [.slice A0p000 d.Race.Rules.Classes.length c0p000,jV d.Race.Rules.Each,jV d.Race.Rules.Laps,jV d.Race.Rules.Spare,jV d.Race.Rules.Loop,jV d.Race.Rules.Unused,jV d.Race.Start,.slice A0p02 d.Race.Teams.length c0p02,.slice A0p1 d.after.length c0p1],.row A0p1 c0p1 22 1 cs0p1]/\Sl U_ 1 A0p000 c0p000 d.Race.Rules.Classes.length (nA KL.encI d.Race.Rules.Classes)/\SlR U_ wCS A0p02 c0p02 d.Race.Teams/\RlL U_ wDL d.after cs0p1)):=by
 unfold wBr at hm
 refine Gv.of Tryz.func98 Z Tryz.ntmps98 Tryz.results98 Z (sR (.fx 0 (.fl 1 (.fl 2 (.nil))) .stop) Z ?_)
 let B0:List Value:=[.slice pA0_0_0 p0.Rules.Classes.length pc0_0_0,jV p0.Rules.Each,jV p0.Rules.Laps,jV p0.Rules.Spare,jV p0.Rules.Loop,jV p0.Rules.Unused,jV p0.Start,.slice pA0_2 p0.Teams.length pc0_2]
 refine Ze (cs:=B0) rfl rfl rfl rfl rfl rfl (by rfl) hS ?_
 intro W1 b2 hS3
 refine oA Z Z (oA Z Z (eN (zB (sR (.fl 0 (.fx 1 (.fl 2 (.nil)) .stop)) Z (oL Z (hS3.ldBA (j:=0) Z Z Z Zd ZH (vs:=B0) Z Z) (bnK hm fun x5 h6 hm7=>zQ 0 Z Z Z Z (zR Z Z Tryz.call13 (zH Z ze) Z) hS3 (fun hs=>wFw p0 pA0_0_0 pc0_0_0 pA0_2 pc0_2 W1 U hs ha0 ha1 h6) (.inr Z) ?_))))))
 rintro U8 L9 v10 W11 le12 hS13 ⟨rfl,rfl⟩
 have hS14:sW w U U8 [.blk b2 27 B0] W11:=hS13
 refine oA Z Z (eN (sR fL2 Z (oM Z Z (oR Z (ZV Z Z Z) (eN (ifc hm7 ?_ ?_))))))
 ·intro c15 hm16
  refine zo (zw (fun h=>h c15.out)) (kN (sR (.fl 0 (.fl 1 (.fx 2 (.fl 3 (.nil)) .stop))) Z (oL Z (hS14.ldBA (j:=0) Z Z Z Zd ZH (vs:=B0) Z Z) ?_)))
  let B1:List Value:=[.slice pA0_0_0 p0.Rules.Classes.length pc0_0_0,jV p0.Rules.Each,jV p0.Rules.Laps,jV p0.Rules.Spare,jV p0.Rules.Loop,jV p0.Rules.Unused,jV p0.Start,.slice pA0_2 p0.Teams.length pc0_2,.slice none 0 0]
  refine zu rfl rfl rfl rfl (fun _=>Zh (pv:=[(0,.agg B0.toArray)]) (z:=[.slice none 0 0,jV 0,jV 0,jV 0,jV 0,jV 0,jV 0,.slice none 0 0,.slice none 0 0]) (cs:=B1) rfl (wAI rfl wAU) Tryz.zeroValue246 wOu rfl rfl) (Ze (cs:=B1) rfl rfl rfl rfl rfl rfl (by rfl) hS14 ?_)
  intro W17 b18 hS19
  refine oA Z Z (eN (zB (sR fL7 Z (oM Z Z (oR Z (yb Z Z) (oR Z (zA Z Z Zk Z ZH) (oR Z (zA Z Z zY Z Zb) (oL Z (hS19.ldB (j:=0) Z Z Z Zg (v:=.slice pA0_2 p0.Teams.length pc0_2) Z) (oR Z (zN Z Z zn) (oM Z Z (eN (zL (bnK hm16 fun y47 hf44 hm43=>?_)))))))))))))
  have q:=wAu hf44
  obtain ⟨hle45,hf46⟩:=q
  replace hle45:=zG hle45
  refine CK.forN' (fun k42 l37 σ_ w_=>∃ (U_:PHeap) (A38:Option Addr) (c39:Nat) (cs41:List Value),σ_ 29=jV (↑k42:Int)/\σ_ 5=.pointer (some ⟨b18,0,none⟩)/\σ_ 27=.slice pA0_2 p0.Teams.length pc0_2/\σ_ 28=jV (↑p0.Teams.length:Int)/\PHeap.Le U8 U_/\sW w U U_ [.row A38 c39 22 1 cs41,.blk b18 246 [.slice pA0_0_0 p0.Rules.Classes.length pc0_0_0,jV p0.Rules.Each,jV p0.Rules.Laps,jV p0.Rules.Spare,jV p0.Rules.Loop,jV p0.Rules.Unused,jV p0.Start,.slice pA0_2 p0.Teams.length pc0_2,.slice A38 l37.length c39],.blk b2 27 B0] w_/\RlL U_ wDL l37 cs41) hf46 ?_ ?_ ?_
  ·have hS48:=hS19.nilrow 22 1
   exact ⟨U8,none,0,[],Z,Z,Z,Z,(zZ _),hS48,RlL.nil⟩
  ·rintro k42 l37 xx52 σ50 W51 hk55 ⟨U57,A38,c39,cs41,fi56,f60,f61,f62,le58,hS59,h63⟩ hx53
   have c64:Hid ((↑k42:Int) < (↑p0.Teams.length:Int)):=zG (wAy hk55)
   replace hk55:=zG hk55
   have hi65:Hid (w64 ((↑k42:Int) + 1)=(↑(k42 + 1):Int)):=zG (by have h1:=hle45.out;have h2:=c64.out;rw [wAK] <;> omega)
   refine sR fL1 Z (oR Z (zS Z fi56 f62) (eN (zB (cT Z c64 (kN (zB (zL (sR (.fl 0 (.fl 1 (.fx 2 (.fx 3 (.nil) .stop) .stop))) Z (bnK hx53 fun x66 h67 hm68=>?_)))))))))
   have h69:=ha1.le le12
   have h70:=h69.le le58
   have q:=h70.el (wAE h67)
   obtain ⟨b71,off72,vs75,hA73,hC74,hr76⟩:=q
   obtain ⟨pA77,pc78,pA79,pc80,rfl,h81,h82⟩:=hr76
   replace hC74:Cl U57 b71 (off72 + k42 * 3) [jV x66.Bib,.slice pA77 x66.Classes.length pc78,.slice pA79 x66.Legs.length pc80]:=hC74
   refine oR Z (zx Z f61 hA73 fi56 zn zz (wAc h67)) (oL Z (hS59.ldCA (f:=0) hC74 Z Z yD zz (us:=[jV x66.Bib,.slice pA77 x66.Classes.length pc78,.slice pA79 x66.Legs.length pc80]) Z Z) ?_)
   let B2:List Value:=[jV 0,.slice none 0 0,.slice none 0 0]
   refine zq (cs:=B2) Z Z Z Z Z Zi Z hS59 ?_
   intro W83 b84 hS85
   let B3:List Value:=[jV x66.Bib,.slice pA77 x66.Classes.length pc78,.slice pA79 x66.Legs.length pc80]
   refine ZE (j:=0) (vs:=B3) Z Z Z Z hS85 Z Z Z Z zz (zD Z) Z Z Z ?_
   intro W87 hS88
   let B4:Res:=.blk b18 246 [.slice pA0_0_0 p0.Rules.Classes.length pc0_0_0,jV p0.Rules.Each,jV p0.Rules.Laps,jV p0.Rules.Spare,jV p0.Rules.Loop,jV p0.Rules.Unused,jV p0.Start,.slice pA0_2 p0.Teams.length pc0_2,.slice A38 l37.length c39]
   let B5:Res:=.row A38 c39 22 1 cs41
   have hS89:sW w U U57 [.blk b84 127 B3,B5,B4,.blk b2 27 B0] W87:=hS88
   refine eN (sR fL6 Z (oM Z f60 (oR Z (yb Z Z) (oR Z (zA Z Z Zk Z ZH) (oR Z (zA Z Z zY Z zI) (oL Z (hS89.ldB (j:=2) Z Z Z zP (v:=jV p0.Start) Z) (oA Z Z (eN (sR fL1 Z (oA Z Z (eN (zB (sR fL4 Z (oR Z (zA Z Z zl Z Zo) (oL Z (hS89.ldB (j:=0) Z Z Z Zw (v:=.slice pA79 x66.Legs.length pc80) Z) (oR Z (zN Z Z ZI) (oM Z Z (eN (zL ?_)))))))))))))))))))
   have q:=bnd hm68
   obtain ⟨⟨y116,y117⟩,hf113,hm112⟩:=q
   try dsimp only at hm112
   have q:=wAu hf113
   obtain ⟨hle114,hf115⟩:=q
   replace hle114:=zG hle114
   refine CK.forN' (fun k111 (x106,l107) σ_ w_=>∃ (U_:PHeap) (A108:Option Addr) (c109:Nat),σ_ 41=jV (↑k111:Int)/\σ_ 5=.pointer (some ⟨b18,0,none⟩)/\σ_ 8=jV x106/\σ_ 9=.slice A108 l107.length c109/\σ_ 27=.slice pA0_2 p0.Teams.length pc0_2/\σ_ 28=jV (↑p0.Teams.length:Int)/\σ_ 29=jV (↑k42:Int)/\σ_ 39=.slice pA79 x66.Legs.length pc80/\σ_ 40=jV (↑x66.Legs.length:Int)/\PHeap.Le U57 U_/\sW w U U_ [.blk b84 127 B3,B5,B4,.blk b2 27 B0,.row A108 c109 3 1 (nA KL.encI l107)] w_) hf115 ?_ ?_ ?_
   ·have hS118:=hS89.nilrow 3 1
    exact ⟨U57,none,0,rfl,f60,rfl,rfl,f61,f62,fi56,rfl,rfl,(zZ _),(hS118.pick [1,2,3,4,0] _ (by decide) rfl)⟩
   ·rintro k111 ⟨x106,l107⟩ xx122 σ120 W121 hk125 ⟨U127,A108,c109,fi126,f130,f131,f132,f133,f134,f135,f136,f137,le128,hS129⟩ hx123
    try dsimp only at hx123
    have c138:Hid ((↑k111:Int) < (↑x66.Legs.length:Int)):=zG (wAy hk125)
    replace hk125:=zG hk125
    have hi139:Hid (w64 ((↑k111:Int) + 1)=(↑(k111 + 1):Int)):=zG (by have h1:=hle114.out;have h2:=c138.out;rw [wAK] <;> omega)
    refine sR fL1 Z (oR Z (zS Z fi126 f137) (eN (zB (cT Z c138 (kN (zB (zL (sR (.fl 0 (.fl 1 (.fx 2 (.fx 3 (.nil) .stop) .stop))) Z (bnK hx123 fun x140 h141 hm142=>?_)))))))))
    have h143:=h82.le le128
    have q:=h143.el (wAE h141)
    obtain ⟨b144,off145,vs148,hA146,hC147,hr149⟩:=q
    obtain ⟨pA150,pc151,pA152,pc153,rfl,h154,h155⟩:=hr149
    replace hC147:Cl U127 b144 (off145 + k111 * 3) [jV x140.Skier,.slice pA150 x140.Loops.length pc151,.slice pA152 x140.Bouts.length pc153]:=hC147
    refine oR Z (zx Z f136 hA146 fi126 ZI ZL (wAc h141)) (oL Z (hS129.ldCA (f:=0) hC147 Z Z yR ZL (us:=[jV x140.Skier,.slice pA150 x140.Loops.length pc151,.slice pA152 x140.Bouts.length pc153]) Z Z) (zq (cs:=B2) Z Z Z Z Z Zq Z hS129 ?_))
    intro W156 b157 hS158
    let B6:List Value:=[jV x140.Skier,.slice pA150 x140.Loops.length pc151,.slice pA152 x140.Bouts.length pc153]
    refine ZE (j:=0) (vs:=B6) Z Z Z Z hS158 Z Z Z Z ZL (zD Z) Z Z Z ?_
    intro W160 hS161
    have hS162:sW w U U127 [.blk b157 130 B6,.blk b84 127 B3,B5,B4,.blk b2 27 B0,.row A108 c109 3 1 (nA KL.encI l107)] W160:=hS161
    refine eN (sR fL4 Z (oR Z (zA Z Z ZB Z zO) (oL Z (hS162.ldB (j:=0) Z Z Z zd (v:=.slice pA150 x140.Loops.length pc151) Z) (oR Z (zN Z Z zE) (oM Z Z (eN (zL ?_)))))))
    have q:=bnd hm142
    obtain ⟨⟨y186,y187⟩,hf183,hm182⟩:=q
    try dsimp only at hm182
    have q:=wAu hf183
    obtain ⟨hle184,hf185⟩:=q
    replace hle184:=zG hle184
    refine CK.forN' (fun k181 (x177,l178) σ_ w_=>∃ (U_:PHeap) (A179:Option Addr) (c180:Nat),σ_ 48=jV (↑k181:Int)/\σ_ 5=.pointer (some ⟨b18,0,none⟩)/\σ_ 8=jV x177/\σ_ 9=.slice A179 l178.length c180/\σ_ 11=.pointer (some ⟨b157,0,none⟩)/\σ_ 27=.slice pA0_2 p0.Teams.length pc0_2/\σ_ 28=jV (↑p0.Teams.length:Int)/\σ_ 29=jV (↑k42:Int)/\σ_ 39=.slice pA79 x66.Legs.length pc80/\σ_ 40=jV (↑x66.Legs.length:Int)/\σ_ 41=jV (↑k111:Int)/\σ_ 47=jV (↑x140.Loops.length:Int)/\PHeap.Le U127 U_/\sW w U U_ [.blk b157 130 B6,.blk b84 127 B3,B5,B4,.blk b2 27 B0,.row A179 c180 3 1 (nA KL.encI l178)] w_) hf185 ?_ ?_ ?_
    ·exact ⟨U127,A108,c109,Z,f130,f131,f132,Z,f133,f134,f135,f136,f137,fi126,Z,(zZ _),hS162⟩
    ·rintro k181 ⟨x177,l178⟩ xx190 σ188 W189 hk193 ⟨U195,A179,c180,fi194,f198,f199,f200,f201,f202,f203,f204,f205,f206,f207,f208,le196,hS197⟩ hx191
     try dsimp only at hx191
     have c209:Hid ((↑k181:Int) < (↑x140.Loops.length:Int)):=zG (wAy hk193)
     replace hk193:=zG hk193
     have hi210:Hid (w64 ((↑k181:Int) + 1)=(↑(k181 + 1):Int)):=zG (by have h1:=hle184.out;have h2:=c209.out;rw [wAK] <;> omega)
     refine sR fL1 Z (oR Z (zS Z fi194 f208) (eN (zB (cT Z c209 (kN (zB (zL (sR fL2 Z (oM Z fi194 (oA Z Z (eN (sR fL8 Z (oM Z f199 (oR Z (zA Z f201 ZB Z zO) (oL Z (hS197.ldB (j:=0) Z Z Z zd (v:=.slice pA150 x140.Loops.length pc151) Z) (oM Z Z (bnK hx191 fun x211 h212 hm213=>?_)))))))))))))))))
     have h214:=h154.le le196
     have q:=h214.el (fun _=>rfl) (wAE h212)
     obtain ⟨b215,off216,hA217,hC218⟩:=q
     refine oR Z (zx Z Z hA217 Z zE zI (wAc h212)) (oL Z (hS197.ldC (f:=0) hC218 (v:=jV x211) Z Z zP Z) (oR Z (zU Z Z Z) (oA Z Z (eN (zB (sR fL2 Z (oM Z Z (oR Z (yF Z Z Z) (eN (ifc hm213 ?_ ?_))))))))))
     ·intro c219 hm220
      refine cT Z c219 (sR (wGH (.fx 6 (wSQ (.fx 10 (.fx 11 (.fl 12 (.nil)) .stop) .stop)) .stop)) Z (oR Z (zA Z f201 ZB Z Zm) (oL Z (hS197.ldB (j:=0) Z Z Z Zr (v:=.slice pA152 x140.Bouts.length pc153) Z) (oM Z Z (oR Z (Zn Z Z Z) (bnK hm220 fun x221 h222 hm223=>?_))))))
      have h224:=h155.le le196
      have q:=h224.el (wAE h222)
      obtain ⟨b225,off226,vs229,hA227,hC228,hr230⟩:=q
      obtain ⟨pA231,pc232,rfl,h233⟩:=hr230
      replace hC228:Cl U195 b225 (off226 + (w64 ((↑k181:Int) - 1)).toNat * 1) [.slice pA231 x221.length pc232]:=hC228
      refine oR Z (ZQ Z Z hA227 Z ZC yL (wAx h222) (wBE h222)) (oL Z (hS197.ldC (f:=0) hC228 (v:=.slice pA231 x221.length pc232) Z Z yX Z) ?_)
      have q:=bnd hm223
      obtain ⟨⟨x234,x235⟩,h236,hm237⟩:=q
      try dsimp only at hm237
      refine zQ 0 Z Z Z Z (zR Z Z Tryz.call71 (zH Z ze) Z) hS197 (fun hs=>wGd x221 pA231 pc232 W189 U195 hs h233 h236) (.inr Z) ?_
      rintro U238 L239 v240 W241 le242 hS243 ⟨rfl,rfl⟩
      let B7:Res:=.row A179 c180 3 1 (nA KL.encI l178)
      have hS244:sW w U U238 [.blk b157 130 B6,.blk b84 127 B3,B5,B4,.blk b2 27 B0,B7] W241:=hS243
      refine oM Z Z (oR Z (ZK Z Z (v:=.agg #[jV x234.Spares,jV x234.Loops,jV x234.Unused]) Z) (oR Z (ZK Z Z (v:=jV x235) Z) (zq (cs:=[jV 0,jV 0,jV 0]) Z Z Z Z Z yU Z hS244 ?_)))
      intro W245 b246 hS247
      let B8:List Value:=[jV x234.Spares,jV x234.Loops,jV x234.Unused]
      refine ZE (j:=0) (vs:=B8) Z Z Z Z hS247 Z Z Z Z Zx (zD Z) Z Z Z ?_
      intro W249 hS250
      have hS251:sW w U U238 [.blk b246 133 B8,.blk b157 130 B6,.blk b84 127 B3,B5,B4,.blk b2 27 B0,B7] W249:=hS250
      refine oA Z Z (eN (CK.fresh fun σ252 hσ253=>?_))
      have f254:σ252 5=.pointer (some ⟨b18,0,none⟩):=(hσ253 5).trans f198
      have f255:σ252 8=jV (w64 (x177 + x211)):=(hσ253 8).trans rfl
      have f256:σ252 9=.slice A179 l178.length c180:=(hσ253 9).trans f200
      have f257:σ252 11=.pointer (some ⟨b157,0,none⟩):=(hσ253 11).trans f201
      have f258:σ252 13=.pointer (some ⟨b246,0,none⟩):=(hσ253 13).trans rfl
      have f259:σ252 27=.slice pA0_2 p0.Teams.length pc0_2:=(hσ253 27).trans f202
      have f260:σ252 28=jV (↑p0.Teams.length:Int):=(hσ253 28).trans f203
      have f261:σ252 29=jV (↑k42:Int):=(hσ253 29).trans f204
      have f262:σ252 39=.slice pA79 x66.Legs.length pc80:=(hσ253 39).trans f205
      have f263:σ252 40=jV (↑x66.Legs.length:Int):=(hσ253 40).trans f206
      have f264:σ252 41=jV (↑k111:Int):=(hσ253 41).trans f207
      have f265:σ252 47=jV (↑x140.Loops.length:Int):=(hσ253 47).trans f208
      have f266:σ252 48=jV (↑k181:Int):=(hσ253 48).trans fi194
      clear hσ253
      refine Zv Zt [3,3,1,3,3,3,3,3,1,3,3,1,3,3,3,3,3,1,3,3,3,3] fL22 (by kernel_rfl) ?_
      have hS267:=hS251.drew
      generalize hw_W268:({ W249 with drawn:=W249.drawn + 1 }:World)=W268 at hS267 ⊢
      refine oM Z f255 (oR Z (zA Z f258 Tryz.runUnderlying133 Z zI) (oL Z (hS267.ldB (j:=0) Z Z Z zP (v:=jV x234.Spares) Z) (oM Z f254 (oR Z (yb Z Z) (oR Z (zA Z Z Zk Z ZH) (oR Z (zA Z Z zY Z ZX) (oR Z (zA Z Z zm Z zI) (oL Z (hS267.ldB (j:=4) Z Z Z zP (v:=jV p0.Rules.Spare) Z) (oR Z (Runs.mulw Z Z Z) (oR Z (zA Z f258 Tryz.runUnderlying133 Z zI) (oL Z (hS267.ldB (j:=0) Z Z Z zP (v:=jV x234.Loops) Z) (oM Z f254 (oR Z (yb Z Z) (oR Z (zA Z Z Zk Z ZH) (oR Z (zA Z Z zY Z ZX) (oR Z (zA Z Z zm Z zI) (oL Z (hS267.ldB (j:=4) Z Z Z zP (v:=jV p0.Rules.Loop) Z) (oR Z (Runs.mulw Z Z Z) (oR Z (zU Z Z Z) (oR Z (zU Z Z Z) (oA Z Z (eN (rR (.fl 0 (.fl 1 (.fx 2 (.fx 3 (.fl 4 (.nil)) .stop) .stop))) Z (oM Z f256 (oM Z Z (ZP (pv:=[(0,jV (w64 ((w64 (x177 + x211)) + (w64 ((w64 (x234.Spares * p0.Rules.Spare)) + (w64 (x234.Loops * p0.Rules.Loop)))))))]) (zs:=[jV 0]) (cs:=[jV (w64 ((w64 (x177 + x211)) + (w64 ((w64 (x234.Spares * p0.Rules.Spare)) + (w64 (x234.Loops * p0.Rules.Loop))))))]) Z Z Z Z Z (wAI Z wAU) zE zI Zu Z Z Z Z Z hS267 ?_))))))))))))))))))))))))))
      intro W269 b270 hS271
      let B9:Res:=.row (some ⟨b270,0,none⟩) 1 3 1 (nA KL.encI [w64 ((w64 (x177 + x211)) + (w64 ((w64 (x234.Spares * p0.Rules.Spare)) + (w64 (x234.Loops * p0.Rules.Loop)))))])
      have hS273:sW w U U238 [B9,.blk b246 133 B8,.blk b157 130 B6,.blk b84 127 B3,B5,B4,.blk b2 27 B0,B7] W269:=hS271
      refine bnK hm237 fun x274 h275 hm276=>yC (j:=7) (enc:=KL.encI) (xs:=l178) (ys:=[w64 ((w64 (x177 + x211)) + (w64 ((w64 (x234.Spares * p0.Rules.Spare)) + (w64 (x234.Loops * p0.Rules.Loop)))))]) (zs:=x274) rfl rfl rfl rfl rfl Zf wEm rfl rfl rfl rfl rfl rfl hS273 rfl rfl rfl (hS273.srcR (j:=0) rfl (by decide) (wAN (f:=KL.encI) (sz:=1) (fun _=>rfl) [w64 ((w64 (x177 + x211)) + (w64 ((w64 (x234.Spares * p0.Rules.Spare)) + (w64 (x234.Loops * p0.Rules.Loop)))))])) (fun _=>rfl) (fun _=>rfl) h275 rfl ?_
      intro A277 c278 W279 hS280
      have hS281:sW w U U238 [B9,.blk b246 133 B8,.blk b157 130 B6,.blk b84 127 B3,B5,B4,.blk b2 27 B0,.row A277 c278 3 1 (nA KL.encI x274)] W279:=hS280
      refine oA Z Z (zj (zg (zF (rR fL2 Z (oR Z (ZD (zU Z f266 Z) (congrArg (jV) hi210.out)) (oM Z Z (zj ?_)))))))
      cases hm276
      exact zF ⟨rfl,⟨U238,A277,c278,rfl,f254,rfl,rfl,f257,f259,f260,f261,f262,f263,f264,f265,(le196.trans le242),(hS281.pick [2,3,4,5,6,7] _ (by decide) rfl)⟩⟩
     ·intro c219 hm286
      refine cF Z c219 (kN (rR (.fl 0 (.fl 1 (.fx 2 (.fx 3 (.fl 4 (.nil)) .stop) .stop))) Z (oM Z f200 (oM Z Z (ZP (pv:=[(0,jV (w64 (x177 + x211)))]) (zs:=[jV 0]) (cs:=[jV (w64 (x177 + x211))]) Z Z Z Z Z (wAI Z wAU) zE zI Zu Z Z Z Z Z hS197 ?_)))))
      intro W287 b288 hS289
      let B10:Res:=.row (some ⟨b288,0,none⟩) 1 3 1 (nA KL.encI [w64 (x177 + x211)])
      have hS291:sW w U U195 [B10,.blk b157 130 B6,.blk b84 127 B3,B5,B4,.blk b2 27 B0,.row A179 c180 3 1 (nA KL.encI l178)] W287:=hS289
      refine bnK hm286 fun x292 h293 hm294=>yC (j:=6) (enc:=KL.encI) (xs:=l178) (ys:=[w64 (x177 + x211)]) (zs:=x292) rfl rfl rfl rfl rfl Zf wEm rfl rfl rfl rfl rfl rfl hS291 rfl rfl rfl (hS291.srcR (j:=0) rfl (by decide) (wAN (f:=KL.encI) (sz:=1) (fun _=>rfl) [w64 (x177 + x211)])) (fun _=>rfl) (fun _=>rfl) h293 rfl ?_
      intro A295 c296 W297 hS298
      have hS299:sW w U U195 [B10,.blk b157 130 B6,.blk b84 127 B3,B5,B4,.blk b2 27 B0,.row A295 c296 3 1 (nA KL.encI x292)] W297:=hS298
      refine oA Z Z (zj (zg (zF (rR fL2 Z (oR Z (ZD (zU Z fi194 Z) (congrArg (jV) hi210.out)) (oM Z Z (zj ?_)))))))
      cases hm294
      exact zF ⟨rfl,⟨U195,A295,c296,rfl,f198,rfl,rfl,f201,f202,f203,f204,f205,f206,f207,f208,le196,(hS299.pick [1,2,3,4,5,6] _ (by decide) rfl)⟩⟩
    ·rintro σ304 W305 ⟨U314,A312,c313,fi307,f317,f318,f319,f320,f321,f322,f323,f324,f325,f326,f327,le315,hS316⟩
     have c328:Hid (¬ ((↑(((↑x140.Loops.length:Int):Int) - 0).toNat:Int) < (↑x140.Loops.length:Int))):=zG (wAa)
     refine sR fL1 Z (oR Z (zS Z fi307 f327) (eN (zB (cF Z c328 (ZG (zW (zW (zr (zg (zF (rR fL2 Z (oR Z (ZD (zU Z f326 Z) (congrArg (jV) hi139.out)) (oM Z Z (zj ?_))))))))))))))
     cases hm182
     exact zF ⟨rfl,⟨U314,A312,c313,rfl,f317,f318,f319,f321,f322,f323,f324,f325,(le128.trans le315),(hS316.pick [1,2,3,4,5] _ (by decide) rfl)⟩⟩
   ·rintro σ333 W334 ⟨U343,A341,c342,fi336,f346,f347,f348,f349,f350,f351,f352,f353,le344,hS345⟩
    have c354:Hid (¬ ((↑(((↑x66.Legs.length:Int):Int) - 0).toNat:Int) < (↑x66.Legs.length:Int))):=zG (wAa)
    refine sR fL1 Z (oR Z (zS Z fi336 f353) (eN (zB (cF Z c354 (ZG (zW (zW (zr (zF (rR (wGH (.fx 6 (.fx 7 (.fl 8 (.fl 9 (.fx 10 (.nil) .stop))) .stop) .stop)) Z (oM Z f346 (oM Z f346 (oR Z (yb Z Z) (oR Z (zA Z Z Zk Z yE) (oL Z (hS345.ldB (j:=2) Z Z Z Tryz.isAgg39 (v:=.slice A38 l37.length c39) Z) (oM Z f348 ?_))))))))))))))))
    have q:=hS345.freezeR (k:=4) (n:=y117.length) rfl (wAN (f:=KL.encI) (sz:=1) (fun _=>rfl) y117) (by decide)
    obtain ⟨U358,le359,hs360,hS361⟩:=q
    have hS362:sW w U U358 [.blk b84 127 B3,B5,B4,.blk b2 27 B0] W334:=hS361
    let B11:List Value:=[.slice A341 y117.length c342]
    refine ZP (pv:=[(0,.slice A341 y117.length c342)]) (zs:=[.slice none 0 0]) (cs:=B11) Z Z Z Z Z (wAI Z wAU) zV zO yY Z Z Z Z Z hS362 ?_
    intro W355 b356 hS357
    have hr364:RlL U358 wDL [y117] B11:=(RlL.cons (R:=wDL) (x:=y117) (vs:=B11) ⟨A341,c342,rfl,hs360⟩ RlL.nil)
    let B12:Res:=.row (some ⟨b356,0,none⟩) 1 22 1 B11
    have hS365:sW w U U358 [B12,.blk b84 127 B3,B5,B4,.blk b2 27 B0] W355:=hS357
    refine bnK hm112 fun x366 h367 hm368=>?_
    have h375:=h63.le le344
    have h376:=h375.le le359
    refine yP (R:=wDL) (j:=2) (xs:=l37) (ys:=[y117]) (zs:=x366) rfl rfl rfl rfl rfl yW wHu rfl rfl rfl rfl rfl rfl rfl hS365 rfl rfl rfl h376 hr364 (hS365.srcR (j:=0) rfl (by decide) (RlL.len hr364)) h367 rfl ?_
    intro A369 c370 cs371 W372 hS373 hr374
    have hS377:sW w U U358 [B12,.blk b84 127 B3,.row A369 c370 22 1 cs371,B4,.blk b2 27 B0] W372:=hS373
    refine oR Z (yb Z Z) (oR Z (zA Z Z Zk Z yE) (ZE (j:=3) (vs:=[.slice A369 x366.length c370]) Z Z Z Z hS377 Z Z Z Z yE (zD Z) Z Z Z ?_))
    intro W378 hS379
    have hS380:sW w U U358 [B12,.blk b84 127 B3,.row A369 c370 22 1 cs371,.blk b18 246 [.slice pA0_0_0 p0.Rules.Classes.length pc0_0_0,jV p0.Rules.Each,jV p0.Rules.Laps,jV p0.Rules.Spare,jV p0.Rules.Loop,jV p0.Rules.Unused,jV p0.Start,.slice pA0_2 p0.Teams.length pc0_2,.slice A369 x366.length c370],.blk b2 27 B0] W378:=hS379
    refine zj (zg (zF (rR fL2 Z (oR Z (ZD (zU Z f351 Z) (congrArg (jV) hi65.out)) (oM Z Z (zj ?_))))))
    cases hm368
    exact zF ⟨rfl,⟨U358,A369,c370,cs371,rfl,f346,f349,f350,((le58.trans le344).trans le359),(hS380.pick [2,3,4] _ (by decide) rfl),hr374⟩⟩
  ·rintro σ385 W386 ⟨U396,A393,c394,c395,fi388,f399,f400,f401,le397,hS398,h402⟩
   have c403:Hid (¬ ((↑(((↑p0.Teams.length:Int):Int) - 0).toNat:Int) < (↑p0.Teams.length:Int))):=zG (wAa)
   refine sR fL1 Z (oR Z (zS Z fi388 f401) (eN (zB (cF Z c403 (ZG (zW (zW (zr (zF (sR fL3 Z (oM Z f399 (oA Z Z (oA Z Z (eN (zM ?_)))))))))))))))
   have h404:=ha0.le le12
   have h405:=h404.le le397
   have h406:=ha1.le le12
   have h407:=h406.le le397
   cases hm43
   exact ⟨rfl,_,(wIc rfl rfl),U396,_,(hS398.pick [1,0] _ (by decide) rfl),b18,pA0_0_0,pc0_0_0,pA0_2,pc0_2,A393,c394,c395,rfl,rfl,h405,h407,h402⟩
 ·intro c15 hm408
  refine cT Z c15 (sR fL3 Z (oM Z Z (oA Z Z (oA Z Z (eN (zM (zC ?_)))))))
  cases hm408
  exact ⟨rfl,_,(wIc rfl rfl),U8,_,(hS14.pick [] _ (by decide) rfl),rfl,rfl⟩
theorem wDo (p0:wCg) (pb0:Nat) (pA0_0_0_0:Option Addr) (pc0_0_0_0:Nat) (pA0_0_2:Option Addr) (pc0_0_2:Nat) (pA0_1:Option Addr) (pc0_1:Nat) (p1:Int) (w:World) (U:PHeap) (hS:St0 w U [.blk pb0 246 [.slice pA0_0_0_0 p0.Race.Rules.Classes.length pc0_0_0_0,jV p0.Race.Rules.Each,jV p0.Race.Rules.Laps,jV p0.Race.Rules.Spare,jV p0.Race.Rules.Loop,jV p0.Race.Rules.Unused,jV p0.Race.Start,.slice pA0_0_2 p0.Race.Teams.length pc0_0_2,.slice pA0_1 p0.after.length pc0_1]]) (ha0:Sl U 1 pA0_0_0_0 pc0_0_0_0 p0.Race.Rules.Classes.length (nA KL.encI p0.Race.Rules.Classes)) (ha1:SlR U wCS pA0_0_2 pc0_0_2 p0.Race.Teams) (ha2:SlR U wDL pA0_1 pc0_1 p0.after) {r:(List Int)} (hm:wBj p0 p1=some r):Gv Tryz.prog 99 [.pointer (some ⟨pb0,0,none⟩),jV p1] w (wCj w [.blk pb0 246 [.slice pA0_0_0_0 p0.Race.Rules.Classes.length pc0_0_0_0,jV p0.Race.Rules.Each,jV p0.Race.Rules.Laps,jV p0.Race.Rules.Spare,jV p0.Race.Rules.Loop,jV p0.Race.Rules.Unused,jV p0.Race.Start,.slice pA0_0_2 p0.Race.Teams.length pc0_0_2,.slice pA0_1 p0.after.length pc0_1]] U (fun U_ L_ v=>∃ (A0:Option Addr) (c0:Nat),v=.slice A0 r.length c0/\L_=[.row A0 c0 3 1 (nA KL.encI r),.blk pb0 246 [.slice pA0_0_0_0 p0.Race.Rules.Classes.length pc0_0_0_0,jV p0.Race.Rules.Each,jV p0.Race.Rules.Laps,jV p0.Race.Rules.Spare,jV p0.Race.Rules.Loop,jV p0.Race.Rules.Unused,jV p0.Race.Start,.slice pA0_0_2 p0.Race.Teams.length pc0_0_2,.slice pA0_1 p0.after.length pc0_1]])):=by
 unfold wBj at hm
 refine Gv.of Tryz.func99 Z Tryz.ntmps99 Tryz.results99 Z (sR fL1 Z (oA Z Z (eN (sR fL1 Z (oA Z Z (eN (zB (sR fL9 Z (oM Z Z (oR Z (yb Z Z) (oR Z (zA Z Z Zk Z yE) (oL Z (hS.ldB (j:=0) Z Z Z Tryz.isAgg39 (v:=.slice pA0_1 p0.after.length pc0_1) Z) (oM Z Z (bnK hm fun x2 h3 hm4=>?_))))))))))))))
 have q:=ha2.el (wAE h3)
 obtain ⟨b5,off6,vs9,hA7,hC8,hr10⟩:=q
 obtain ⟨pA11,pc12,rfl,h13⟩:=hr10
 replace hC8:Cl U b5 (off6 + p1.toNat * 1) [.slice pA11 x2.length pc12]:=hC8
 refine oR Z (ZQ Z Z hA7 Z zV zO (wAx h3) (wBE h3)) (oL Z (hS.ldC (f:=0) hC8 (v:=.slice pA11 x2.length pc12) Z Z zd Z) (oR Z (zN Z Z zE) (oM Z Z (eN (zL (bnK hm4 fun y36 hf33 hm32=>?_))))))
 have q:=wAu hf33
 obtain ⟨hle34,hf35⟩:=q
 replace hle34:=zG hle34
 let B0:Res:=.blk pb0 246 [.slice pA0_0_0_0 p0.Race.Rules.Classes.length pc0_0_0_0,jV p0.Race.Rules.Each,jV p0.Race.Rules.Laps,jV p0.Race.Rules.Spare,jV p0.Race.Rules.Loop,jV p0.Race.Rules.Unused,jV p0.Race.Start,.slice pA0_0_2 p0.Race.Teams.length pc0_0_2,.slice pA0_1 p0.after.length pc0_1]
 refine CK.forN' (fun k31 l27 σ_ w_=>∃ (U_:PHeap) (A28:Option Addr) (c29:Nat),σ_ 16=jV (↑k31:Int)/\σ_ 0=.pointer (some ⟨pb0,0,none⟩)/\σ_ 5=.slice A28 l27.length c29/\σ_ 14=.slice pA11 x2.length pc12/\σ_ 15=jV (↑x2.length:Int)/\PHeap.Le U U_/\SW w [B0] U U_ [B0,.row A28 c29 3 1 (nA KL.encI l27)] w_) hf35 ?_ ?_ ?_
 ·have hS37:=hS.nilrow 3 1
  exact ⟨U,none,0,rfl,rfl,rfl,rfl,rfl,(zZ _),(hS37.pick [1,0] _ (by decide) rfl)⟩
 ·rintro k31 l27 xx41 σ39 W40 hk44 ⟨U46,A28,c29,fi45,f49,f50,f51,f52,le47,hS48⟩ hx42
  have c53:Hid ((↑k31:Int) < (↑x2.length:Int)):=zG (wAy hk44)
  replace hk44:=zG hk44
  have hi54:Hid (w64 ((↑k31:Int) + 1)=(↑(k31 + 1):Int)):=zG (by have h1:=hle34.out;have h2:=c53.out;rw [wAK] <;> omega)
  refine sR fL1 Z (oR Z (zS Z fi45 f52) (eN (zB (cT Z c53 (kN (zB (zL (sR fL5 Z (oM Z fi45 (bnK hx42 fun x55 h56 hm57=>?_))))))))))
  have h58:=h13.le le47
  have q:=h58.el (fun _=>rfl) (wAE h56)
  obtain ⟨b59,off60,hA61,hC62⟩:=q
  refine oR Z (zx Z f51 hA61 fi45 zE zI (wAc h56)) (oL Z (hS48.ldC (f:=0) hC62 (v:=jV x55) Z Z zP Z) (oA Z Z (oA Z Z (eN (sR fL10 Z (oM Z Z (oR Z (ZD (zU Z Z Z) (congrArg (jV) hi54.out)) (oM Z f49 (oR Z (yb Z Z) (oR Z (zA Z Z Zk Z ZH) (oR Z (zA Z Z zY Z ZX) (oR Z (zA Z Z zm Z zI) (oL Z (hS48.ldB (j:=0) Z Z Z zP (v:=jV p0.Race.Rules.Laps) Z) (bnK hm57 fun x63 h64 hm65=>oR Z (Runs.rem Z Z Z h64) (oR Z (yI Z Z Z) (eN (ifc hm65 ?_ ?_)))))))))))))))))
  ·intro c66 hm67
   refine cT Z c66 (rR (.fl 0 (.fl 1 (.fx 2 (.fx 3 (.fl 4 (.nil)) .stop) .stop))) Z (oM Z f50 (oM Z Z (ZP (pv:=[(0,jV x55)]) (zs:=[jV 0]) (cs:=[jV x55]) Z Z Z Z Z (wAI Z wAU) zE zI Zu Z Z Z Z Z hS48 ?_))))
   intro W68 b69 hS70
   let B1:Res:=.row (some ⟨b69,0,none⟩) 1 3 1 (nA KL.encI [x55])
   have hS72:SW w [B0] U U46 [B1,B0,.row A28 c29 3 1 (nA KL.encI l27)] W68:=hS70
   refine bnK hm67 fun x73 h74 hm75=>yC (j:=2) (enc:=KL.encI) (xs:=l27) (ys:=[x55]) (zs:=x73) rfl rfl rfl rfl rfl Zf wEm rfl rfl rfl rfl rfl rfl hS72 rfl rfl rfl (hS72.srcR (j:=0) rfl (by decide) (wAN (f:=KL.encI) (sz:=1) (fun _=>rfl) [x55])) (fun _=>rfl) (fun _=>rfl) h74 rfl ?_
   intro A76 c77 W78 hS79
   have hS80:SW w [B0] U U46 [B1,B0,.row A76 c77 3 1 (nA KL.encI x73)] W78:=hS79
   refine oA Z Z (zj (zg (zF (rR fL2 Z (oR Z (ZD (zU Z fi45 Z) (congrArg (jV) hi54.out)) (oM Z Z (zj ?_)))))))
   cases hm75
   exact zF ⟨rfl,⟨U46,A76,c77,rfl,f49,rfl,f51,f52,le47,(hS80.pick [1,2] _ (by decide) rfl)⟩⟩
  ·intro c66 hm84
   refine cF Z c66 (ZW (zg (zF (rR fL2 Z (oR Z (ZD (zU Z fi45 Z) (congrArg (jV) hi54.out)) (oM Z Z (zj ?_)))))))
   cases hm84
   exact zF ⟨Z,⟨U46,A28,c29,Z,f49,f50,f51,f52,le47,hS48⟩⟩
 ·rintro σ88 W89 ⟨U97,A95,c96,fi91,f100,f101,f102,f103,le98,hS99⟩
  have c104:Hid (¬ ((↑(((↑x2.length:Int):Int) - 0).toNat:Int) < (↑x2.length:Int))):=zG (wAa)
  refine sR fL1 Z (oR Z (zS Z fi91 f103) (eN (zB (cF Z c104 (ZG (zW (zW (zr (zF (sR fL2 Z (oM Z f101 (oA Z Z (eN (zM ?_))))))))))))))
  have hE:=nB hm32;first | subst r | cases hE
  exact ⟨rfl,_,(zt rfl),U97,_,(hS99.pick [1,0] _ (by decide) rfl),A95,c96,rfl,rfl⟩
theorem wFx (p0:wAA) (pA0_0_0:Option Addr) (pc0_0_0:Nat) (pA0_2:Option Addr) (pc0_2:Nat) (w:World) (U:PHeap) (hS:St0 w U []) (ha0:Sl U 1 pA0_0_0 pc0_0_0 p0.Rules.Classes.length (nA KL.encI p0.Rules.Classes)) (ha1:SlR U wCS pA0_2 pc0_2 p0.Teams) {r:(List (List Int)) × Int} (hm:wCD p0=some r):Gv Tryz.prog 15 [.agg #[.slice pA0_0_0 p0.Rules.Classes.length pc0_0_0,jV p0.Rules.Each,jV p0.Rules.Laps,jV p0.Rules.Spare,jV p0.Rules.Loop,jV p0.Rules.Unused,jV p0.Start,.slice pA0_2 p0.Teams.length pc0_2]] w (wCj w [] U (fun U_ L_ v=>∃ (A0:Option Addr) (c0:Nat) (cs0:List Value),v=.tuple #[.slice A0 r.1.length c0,jV r.2]/\L_=[.row A0 c0 22 1 cs0]/\RlL U_ wDL r.1 cs0)):=by
 unfold wCD at hm
 refine Gv.of Tryz.func15 Z Tryz.ntmps15 Tryz.results15 Z (sR (.fx 0 (.fl 1 (.fl 2 (.nil))) .stop) Z ?_)
 let B0:List Value:=[.slice pA0_0_0 p0.Rules.Classes.length pc0_0_0,jV p0.Rules.Each,jV p0.Rules.Laps,jV p0.Rules.Spare,jV p0.Rules.Loop,jV p0.Rules.Unused,jV p0.Start,.slice pA0_2 p0.Teams.length pc0_2]
 refine Ze (cs:=B0) rfl rfl rfl rfl rfl rfl (by rfl) hS ?_
 intro W1 b2 hS3
 refine oA Z Z (oA Z Z (eN (sR (.fl 0 (.fx 1 (wGo (.nil)) .stop)) Z (oL Z (hS3.ldBA (j:=0) Z Z Z Zd ZH (vs:=B0) Z Z) ?_))))
 have q:=bnd hm
 obtain ⟨⟨x5,x6⟩,h7,hm8⟩:=q
 try dsimp only at hm8
 refine zQ 0 Z Z Z Z (zR Z Z Tryz.call98 (zH Z ze) Z) hS3 (fun hs=>wEV p0 pA0_0_0 pc0_0_0 pA0_2 pc0_2 W1 U hs ha0 ha1 h7) (.inr Z) ?_
 rintro U9 L10 v11 W12 le13 hS14 hP23
 rcases x5 with _ | x24
 ·try dsimp only at hm8
  obtain ⟨rfl,rfl⟩:=hP23
  have hS25:sW w U U9 [.blk b2 27 B0] W12:=hS14
  refine oM Z Z (oR Z (ZK Z Z (v:=.pointer none) Z) (oR Z (ZK Z Z (v:=jV x6) Z) (oA Z Z (oA Z Z (eN (zB (sR fL2 Z (oM Z Z (oR Z (ZV Z Z Z) (eN (ifc hm8 ?_ ?_)))))))))))
  ·intro c26 hm27
   refine zo (zw (fun h=>h c26.out)) (kN (sR fL1 Z (oA Z Z (eN (zB (sR fL4 Z (oR Z (zA Z Z zY Z Zb) (oL Z (hS25.ldB (j:=0) Z Z Z Zg (v:=.slice pA0_2 p0.Teams.length pc0_2) Z) (oR Z (zN Z Z zn) (oM Z Z (eN (zL ?_))))))))))))
   have q:=bnd hm27
   obtain ⟨⟨⟩,hf31,hm30⟩:=q
   try dsimp only at hm30
   have q:=wAu hf31
   obtain ⟨hle32,hf33⟩:=q
   replace hle32:=zG hle32
   refine CK.forN' (fun k29 _ σ_ w_=>∃ (U_:PHeap),σ_ 19=jV (↑k29:Int)/\σ_ 4=.pointer none/\σ_ 6=.slice none 0 0/\σ_ 18=jV (↑p0.Teams.length:Int)/\PHeap.Le U9 U_/\sW w U U_ [.blk b2 27 B0] w_) hf33 ?_ ?_ ?_
   ·exact ⟨U9,Z,Z,Z,Z,(zZ _),hS25⟩
   ·rintro k29 ⟨⟩ xx36 σ34 W35 hk39 ⟨U41,fi40,f44,f45,f46,le42,hS43⟩ hx37
    try dsimp only at hx37
    have c47:Hid ((↑k29:Int) < (↑p0.Teams.length:Int)):=zG (wAy hk39)
    replace hk39:=zG hk39
    have hi48:Hid (w64 ((↑k29:Int) + 1)=(↑(k29 + 1):Int)):=zG (by have h1:=hle32.out;have h2:=c47.out;rw [wAK] <;> omega)
    refine sR fL1 Z (oR Z (zS Z fi40 f46) (eN (zB (cT Z c47 (kN (zB (zL (sR fL2 Z (oM Z fi40 (oA Z Z (eN (rR (wEK (.fx 3 (.fx 4 (.fx 5 (.fl 6 (.nil)) .stop) .stop) .stop)) Z (oM Z f45 (oM Z f44 (oM Z Z ?_)))))))))))))))
    cases hx37
   ·rintro σ49 W50 ⟨U53,fi52,f56,f57,f58,le54,hS55⟩
    have c59:Hid (¬ ((↑(((↑p0.Teams.length:Int):Int) - 0).toNat:Int) < (↑p0.Teams.length:Int))):=zG (wAa)
    refine sR fL1 Z (oR Z (zS Z fi52 f58) (eN (zB (cF Z c59 (ZG (zW (zW (zr (zF (sR fL3 Z (oM Z f57 (oA Z Z (oA Z Z (eN (zM ?_)))))))))))))))
    have hS60:=hS55.nilrow 22 1
    cases hm30
    exact ⟨rfl,_,(wIc rfl rfl),U53,_,(hS60.pick [0] _ (by decide) rfl),none,0,[],rfl,rfl,RlL.nil⟩
  ·intro c26 hm62
   refine cT Z c26 (sR fL3 Z (oM Z Z (oA Z Z (oA Z Z (eN (zM (zC ?_)))))))
   have hS63:=hS25.nilrow 22 1
   cases hm62
   exact ⟨rfl,_,(wIc rfl rfl),U9,_,(hS63.pick [0] _ (by decide) rfl),none,0,[],rfl,rfl,RlL.nil⟩
 ·try dsimp only at hm8
  obtain ⟨b15,A16,c17,A18,c19,A20,c21,c22,rfl,rfl,h67,h68,h69⟩:=hP23
  let B1:Res:=.blk b15 246 [.slice A16 x24.Race.Rules.Classes.length c17,jV x24.Race.Rules.Each,jV x24.Race.Rules.Laps,jV x24.Race.Rules.Spare,jV x24.Race.Rules.Loop,jV x24.Race.Rules.Unused,jV x24.Race.Start,.slice A18 x24.Race.Teams.length c19,.slice A20 x24.after.length c21]
  have hS70:sW w U U9 [B1,.row A20 c21 22 1 c22,.blk b2 27 B0] W12:=hS14
  refine oM Z Z (oR Z (ZK Z Z (v:=.pointer (some ⟨b15,0,none⟩)) Z) (oR Z (ZK Z Z (v:=jV x6) Z) (oA Z Z (oA Z Z (eN (zB (sR fL2 Z (oM Z Z (oR Z (ZV Z Z Z) (eN (ifc hm8 ?_ ?_)))))))))))
  ·intro c71 hm72
   refine zo (zw (fun h=>h c71.out)) (kN (sR fL1 Z (oA Z Z (eN (zB (sR fL4 Z (oR Z (zA Z Z zY Z Zb) (oL Z (hS70.ldB (j:=2) Z Z Z Zg (v:=.slice pA0_2 p0.Teams.length pc0_2) Z) (oR Z (zN Z Z zn) (oM Z Z (eN (zL ?_))))))))))))
   have q:=hS70.freezeRR (R:=wDL) (k:=1) rfl h69 rfl (by decide)
   obtain ⟨U74,le75,hs76,hS77⟩:=q
   have hS78:sW w U U74 [B1,.blk b2 27 B0] W12:=hS77
   refine bnK hm72 fun y105 hf102 hm101=>?_
   have q:=wAu hf102
   obtain ⟨hle103,hf104⟩:=q
   replace hle103:=zG hle103
   refine CK.forN' (fun k100 l95 σ_ w_=>∃ (U_:PHeap) (A96:Option Addr) (c97:Nat) (cs99:List Value),σ_ 19=jV (↑k100:Int)/\σ_ 4=.pointer (some ⟨b15,0,none⟩)/\σ_ 6=.slice A96 l95.length c97/\σ_ 18=jV (↑p0.Teams.length:Int)/\PHeap.Le U74 U_/\sW w U U_ [B1,.blk b2 27 B0,.row A96 c97 22 1 cs99] w_/\RlL U_ wDL l95 cs99) hf104 ?_ ?_ ?_
   ·have hS106:=hS78.nilrow 22 1
    exact ⟨U74,none,0,[],rfl,rfl,rfl,rfl,(zZ _),(hS106.pick [1,2,0] _ (by decide) rfl),RlL.nil⟩
   ·rintro k100 l95 xx110 σ108 W109 hk113 ⟨U115,A96,c97,cs99,fi114,f118,f119,f120,le116,hS117,h121⟩ hx111
    have c122:Hid ((↑k100:Int) < (↑p0.Teams.length:Int)):=zG (wAy hk113)
    replace hk113:=zG hk113
    have hi123:Hid (w64 ((↑k100:Int) + 1)=(↑(k100 + 1):Int)):=zG (by have h1:=hle103.out;have h2:=c122.out;rw [wAK] <;> omega)
    refine sR fL1 Z (oR Z (zS Z fi114 f120) (eN (zB (cT Z c122 (kN (zB (zL (sR fL2 Z (oM Z fi114 (oA Z Z (eN (rR (wEK (.fx 3 (.fx 4 (.fx 5 (.fl 6 (.nil)) .stop) .stop) .stop)) Z (oM Z f119 (oM Z f118 (oM Z Z ?_)))))))))))))))
    have h124:=h67.le le75
    have h125:=h124.le le116
    have h126:=h68.le le75
    have h127:=h126.le le116
    have h128:=hs76.le le116
    refine bnK hx111 fun x129 h130 hm131=>zQ 1 Z Z Z Z (zR Z Z Tryz.call99 (zH Z (zH Z ze)) Z) hS117 (fun hs=>wDo x24 b15 A16 c17 A18 c19 A20 c21 (↑k100:Int) W109 U115 hs h125 h127 h128 h130) (.inl Z) ?_
    rintro U132 L133 v134 W135 le136 hS137 ⟨A138,c139,rfl,rfl⟩
    let B2:Res:=.row A96 c97 22 1 cs99
    have hS141:sW w U U132 [.row A138 c139 3 1 (nA KL.encI x129),B1,.blk b2 27 B0,B2] W135:=hS137
    have q:=hS141.freezeR (k:=0) (n:=x129.length) rfl (wAN (f:=KL.encI) (sz:=1) (fun _=>rfl) x129) (by decide)
    obtain ⟨U145,le146,hs147,hS148⟩:=q
    have hS149:sW w U U145 [B1,.blk b2 27 B0,B2] W135:=hS148
    let B3:List Value:=[.slice A138 x129.length c139]
    refine ZP (pv:=[(0,.slice A138 x129.length c139)]) (zs:=[.slice none 0 0]) (cs:=B3) Z Z Z Z Z (wAI Z wAU) zV zO yY Z Z Z Z Z hS149 ?_
    intro W142 b143 hS144
    have hr151:RlL U145 wDL [x129] B3:=(RlL.cons (R:=wDL) (x:=x129) (vs:=B3) ⟨A138,c139,rfl,hs147⟩ RlL.nil)
    let B4:Res:=.row (some ⟨b143,0,none⟩) 1 22 1 B3
    have hS152:sW w U U145 [B4,B1,.blk b2 27 B0,B2] W142:=hS144
    refine bnK hm131 fun x153 h154 hm155=>?_
    have h162:=h121.le le136
    have h163:=h162.le le146
    refine yP (R:=wDL) (j:=3) (xs:=l95) (ys:=[x129]) (zs:=x153) rfl rfl rfl rfl rfl yW wHu rfl rfl rfl rfl rfl rfl rfl hS152 rfl rfl rfl h163 hr151 (hS152.srcR (j:=0) rfl (by decide) (RlL.len hr151)) h154 rfl ?_
    intro A156 c157 cs158 W159 hS160 hr161
    have hS164:sW w U U145 [B4,B1,.blk b2 27 B0,.row A156 c157 22 1 cs158] W159:=hS160
    refine oA Z Z (zj (zg (zF (rR fL2 Z (oR Z (ZD (zU Z fi114 Z) (congrArg (jV) hi123.out)) (oM Z Z (zj ?_)))))))
    cases hm155
    exact zF ⟨rfl,⟨U145,A156,c157,cs158,rfl,f118,rfl,f120,((le116.trans le136).trans le146),(hS164.pick [1,2,3] _ (by decide) rfl),hr161⟩⟩
   ·rintro σ169 W170 ⟨U180,A177,c178,c179,fi172,f183,f184,f185,le181,hS182,h186⟩
    have c187:Hid (¬ ((↑(((↑p0.Teams.length:Int):Int) - 0).toNat:Int) < (↑p0.Teams.length:Int))):=zG (wAa)
    refine sR fL1 Z (oR Z (zS Z fi172 f185) (eN (zB (cF Z c187 (ZG (zW (zW (zr (zF (sR fL3 Z (oM Z f184 (oA Z Z (oA Z Z (eN (zM ?_)))))))))))))))
    cases hm101
    exact ⟨rfl,_,(wIc rfl rfl),U180,_,(hS182.pick [2] _ (by decide) rfl),A177,c178,c179,rfl,rfl,h186⟩
  ·intro c71 hm188
   refine cT Z c71 (sR fL3 Z (oM Z Z (oA Z Z (oA Z Z (eN (zM (zC ?_)))))))
   have hS189:=hS70.nilrow 22 1
   cases hm188
   exact ⟨rfl,_,(wIc rfl rfl),U9,_,(hS189.pick [0] _ (by decide) rfl),none,0,[],rfl,rfl,RlL.nil⟩
end Go.Proofs.YthbficbpebiekaaGreat
namespace Go.Proofs.YthbficbpebiekaaGreat
open Go.KL
set_option maxHeartbeats 4000000
theorem wDU (p0:wAD) (pA0_0_0:Option Addr) (pc0_0_0:Nat) (pA0_2:Option Addr) (pc0_2:Nat) (p1:Int) (p2:Int) (p3:Int) (w:World) (U:PHeap) (hS:St0 w U []) (ha0:Sl U 1 pA0_0_0 pc0_0_0 p0.Rules.Classes.length (nA KL.encI p0.Rules.Classes)) (ha1:SlR U wET pA0_2 pc0_2 p0.Teams) {r:Int} (hm:wBa p0 p1 p2 p3=some r):Gv Tryz.prog 100 [.agg #[.slice pA0_0_0 p0.Rules.Classes.length pc0_0_0,jV p0.Rules.Each,jV p0.Rules.Laps,jV p0.Rules.Spare,jV p0.Rules.Loop,jV p0.Rules.Unused,jV p0.Start,.slice pA0_2 p0.Teams.length pc0_2],jV p1,jV p2,jV p3] w (wCj w [] U (fun U_ L_ v=>v=jV r/\L_=[])):=by
 unfold wBa at hm
 refine Gv.of Tryz.func100 Z Tryz.ntmps100 Tryz.results100 Z (sR (.fx 0 (.fl 1 (.nil)) .stop) Z ?_)
 let B0:List Value:=[.slice pA0_0_0 p0.Rules.Classes.length pc0_0_0,jV p0.Rules.Each,jV p0.Rules.Laps,jV p0.Rules.Spare,jV p0.Rules.Loop,jV p0.Rules.Unused,jV p0.Start,.slice pA0_2 p0.Teams.length pc0_2]
 refine Ze (cs:=B0) rfl rfl rfl rfl rfl rfl (by rfl) hS ?_
 intro W1 b2 hS3
 refine oA Z Z (eN (sR fL3 Z (oR Z (zA Z Z zX Z zI) (oL Z (hS3.ldB (j:=0) Z Z Z zP (v:=jV p0.Start) Z) (oA Z Z (eN (zB (sR fL1 Z (oA Z Z (eN (zL (bnK hm fun y16 hf13 hm12=>?_))))))))))))
 have q:=wAu hf13
 obtain ⟨hle14,hf15⟩:=q
 replace hle14:=zG hle14
 refine CK.forN' (fun k11 x10 σ_ w_=>∃ (U_:PHeap),σ_ 10=jV (↑k11:Int)/\σ_ 1=jV p1/\σ_ 2=jV p2/\σ_ 3=jV p3/\σ_ 4=.pointer (some ⟨b2,0,none⟩)/\σ_ 9=jV x10/\PHeap.Le U U_/\sW w U U_ [.blk b2 34 B0] w_) hf15 ?_ ?_ ?_
 ·exact ⟨U,Z,Z,Z,Z,Z,Z,(zZ _),hS3⟩
 ·rintro k11 x10 xx19 σ17 W18 hk22 ⟨U24,fi23,f27,f28,f29,f30,f31,le25,hS26⟩ hx20
  have c32:Hid ((↑k11:Int) <= p2):=zG (wSo hk22)
  replace hk22:=zG hk22
  have hi33:Hid (w64 ((↑k11:Int) + 1)=(↑(k11 + 1):Int)):=zG (by have h1:=hle14.out;have h2:=c32.out;rw [wAK] <;> omega)
  refine zB (sR fL3 Z (oM Z fi23 (oM Z f28 (oR Z (Runs.leq Z Z Z) (eN (cT Z c32 (kN (zB (zL (sR (wQU (.fx 9 (.fx 10 (.nil) .stop) .stop)) Z (oR Z (zA Z f30 zX Z ZR) (oL Z (hS26.ldB (j:=0) Z Z Z ZY (v:=.slice pA0_2 p0.Teams.length pc0_2) Z) (oM Z f27 (bnK hx20 fun x34 h35 hm36=>?_))))))))))))))
  have h37:=ha1.le le25
  have q:=h37.el (wAE h35)
  obtain ⟨b38,off39,vs42,hA40,hC41,hr43⟩:=q
  obtain ⟨pA44,pc45,pA46,pc47,rfl,h48,h49⟩:=hr43
  replace hC41:Cl U24 b38 (off39 + p1.toNat * 3) [jV x34.Bib,.slice pA44 x34.Classes.length pc45,.slice pA46 x34.Legs.length pc47]:=hC41
  refine oR Z (ZQ Z Z hA40 Z zy ZU (wAx h35) (wBE h35)) (oR Z (zA Z Z zk Z ZT) (oL Z (hS26.ldC (f:=2) hC41 (v:=.slice pA46 x34.Legs.length pc47) Z Z Zc Z) (oM Z fi23 (bnK hm36 fun x50 h51 hm52=>?_))))
  have q:=h49.el (wAE h51)
  obtain ⟨b53,off54,vs57,hA55,hC56,hr58⟩:=q
  obtain ⟨pA59,pc60,pA61,pc62,rfl,h63,h64⟩:=hr58
  replace hC56:Cl U24 b53 (off54 + k11 * 3) [jV x50.Skier,.slice pA59 x50.Loops.length pc60,.slice pA61 x50.Bouts.length pc62]:=hC56
  refine oR Z (zx Z Z hA55 Z ZF Zp (wAc h51)) (oL Z (hS26.ldCA (f:=0) hC56 Z Z Tryz.isAgg161 Zp (us:=[jV x50.Skier,.slice pA59 x50.Loops.length pc60,.slice pA61 x50.Bouts.length pc62]) Z Z) (zq (cs:=[jV 0,.slice none 0 0,.slice none 0 0]) Z Z Z Z Z Tryz.zeroValue161 Z hS26 ?_))
  intro W65 b66 hS67
  let B1:List Value:=[jV x50.Skier,.slice pA59 x50.Loops.length pc60,.slice pA61 x50.Bouts.length pc62]
  refine ZE (j:=0) (vs:=B1) Z Z Z Z hS67 Z Z Z Z Zp (zD Z) Z Z Z ?_
  intro W69 hS70
  have hS71:sW w U U24 [.blk b66 161 B1,.blk b2 34 B0] W69:=hS70
  refine eN (sR fL4 Z (oR Z (zA Z Z ZS Z zO) (oL Z (hS71.ldB (j:=0) Z Z Z zd (v:=.slice pA59 x50.Loops.length pc60) Z) (oR Z (zN Z Z zE) (oA Z Z (eN (zB (sR fL3 Z (oM Z fi23 (oM Z f28 (oR Z (yI Z Z Z) (eN (ifc hm52 ?_ ?_)))))))))))))
  ·intro c72 hm73
   refine cT Z c72 (rR fL2 Z (oM Z f29 (oA Z Z (eN (sR fL1 Z (oA Z Z (eN (zL (bnK hm73 fun y85 hf82 hm81=>?_)))))))))
   have q:=wAu hf82
   obtain ⟨hle83,hf84⟩:=q
   replace hle83:=zG hle83
   refine CK.forN' (fun k80 x79 σ_ w_=>∃ (U_:PHeap),σ_ 13=jV (↑k80:Int)/\σ_ 1=jV p1/\σ_ 2=jV p2/\σ_ 3=jV p3/\σ_ 4=.pointer (some ⟨b2,0,none⟩)/\σ_ 9=jV x79/\σ_ 10=jV (↑k11:Int)/\σ_ 11=.pointer (some ⟨b66,0,none⟩)/\σ_ 12=jV p3/\PHeap.Le U24 U_/\sW w U U_ [.blk b66 161 B1,.blk b2 34 B0] w_) hf84 ?_ ?_ ?_
   ·exact ⟨U24,Z,f27,f28,f29,f30,f31,fi23,Z,Z,(zZ _),hS71⟩
   ·rintro k80 x79 xx88 σ86 W87 hk91 ⟨U93,fi92,f96,f97,f98,f99,f100,f101,f102,f103,le94,hS95⟩ hx89
    have c104:Hid ((↑k80:Int) < p3):=zG (wAy hk91)
    replace hk91:=zG hk91
    have hi105:Hid (w64 ((↑k80:Int) + 1)=(↑(k80 + 1):Int)):=zG (by have h1:=hle83.out;have h2:=c104.out;rw [wAK] <;> omega)
    refine zB (sR fL3 Z (oM Z fi92 (oM Z f103 (oR Z (zS Z Z Z) (eN (cT Z c104 (kN (zB (zL (sR fL8 Z (oM Z f100 (oR Z (zA Z f102 ZS Z zO) (oL Z (hS95.ldB (j:=0) Z Z Z zd (v:=.slice pA59 x50.Loops.length pc60) Z) (oM Z fi92 (bnK hx89 fun x106 h107 hm108=>?_)))))))))))))))
    have h109:=h63.le le94
    have q:=h109.el (fun _=>rfl) (wAE h107)
    obtain ⟨b110,off111,hA112,hC113⟩:=q
    refine oR Z (zx Z Z hA112 Z zE zI (wAc h107)) (oL Z (hS95.ldC (f:=0) hC113 (v:=jV x106) Z Z zP Z) (oR Z (zU Z Z Z) (oA Z Z (eN (sR fL2 Z (oM Z fi92 (oR Z (yF Z Z Z) (eN (ifc hm108 ?_ ?_)))))))))
    ·intro c114 hm115
     refine cT Z c114 (sR (wGH (.fx 6 (wSQ (.fx 10 (.fx 11 (.fl 12 (.nil)) .stop) .stop)) .stop)) Z (oR Z (zA Z f102 ZS Z Zm) (oL Z (hS95.ldB (j:=0) Z Z Z Zr (v:=.slice pA61 x50.Bouts.length pc62) Z) (oM Z fi92 (oR Z (Zn Z Z Z) (bnK hm115 fun x116 h117 hm118=>?_))))))
     have h119:=h64.le le94
     have q:=h119.el (wAE h117)
     obtain ⟨b120,off121,vs124,hA122,hC123,hr125⟩:=q
     obtain ⟨pA126,pc127,rfl,h128⟩:=hr125
     replace hC123:Cl U93 b120 (off121 + (w64 ((↑k80:Int) - 1)).toNat * 1) [.slice pA126 x116.length pc127]:=hC123
     refine oR Z (ZQ Z Z hA122 Z ZC yL (wAx h117) (wBE h117)) (oL Z (hS95.ldC (f:=0) hC123 (v:=.slice pA126 x116.length pc127) Z Z yX Z) ?_)
     have q:=bnd hm118
     obtain ⟨⟨x129,x130⟩,h131,hm132⟩:=q
     try dsimp only at hm132
     refine zQ 0 Z Z Z Z (zR Z Z Tryz.call97 (zH Z ze) Z) hS95 (fun hs=>wCu x116 pA126 pc127 W87 U93 hs h128 h131) (.inr Z) ?_
     rintro U133 L134 v135 W136 le137 hS138 ⟨rfl,rfl⟩
     have hS139:sW w U U133 [.blk b66 161 B1,.blk b2 34 B0] W136:=hS138
     refine oM Z Z (oR Z (ZK Z Z (v:=.agg #[jV x129.Spares,jV x129.Loops,jV x129.Unused]) Z) (oR Z (ZK Z Z (v:=jV x130) Z) (zq (cs:=[jV 0,jV 0,jV 0]) Z Z Z Z Z yO Z hS139 ?_)))
     intro W140 b141 hS142
     let B2:List Value:=[jV x129.Spares,jV x129.Loops,jV x129.Unused]
     refine ZE (j:=0) (vs:=B2) Z Z Z Z hS142 Z Z Z Z yH (zD Z) Z Z Z ?_
     intro W144 hS145
     have hS146:sW w U U133 [.blk b141 172 B2,.blk b66 161 B1,.blk b2 34 B0] W144:=hS145
     refine oA Z Z (eN (rR fL16 Z (oM Z Z (oR Z (zA Z Z Tryz.runUnderlying172 Z zI) (oL Z (hS146.ldB (j:=0) Z Z Z zP (v:=jV x129.Spares) Z) (oR Z (zA Z f99 zX Z Zs) (oR Z (zA Z Z ZJ Z zI) (oL Z (hS146.ldB (j:=2) Z Z Z zP (v:=jV p0.Rules.Spare) Z) (oR Z (Runs.mulw Z Z Z) (oR Z (zU Z Z Z) (oR Z (zA Z Z Tryz.runUnderlying172 Z zI) (oL Z (hS146.ldB (j:=0) Z Z Z zP (v:=jV x129.Loops) Z) (oR Z (zA Z f99 zX Z Zs) (oR Z (zA Z Z ZJ Z zI) (oL Z (hS146.ldB (j:=2) Z Z Z zP (v:=jV p0.Rules.Loop) Z) (oR Z (Runs.mulw Z Z Z) (oR Z (zU Z Z Z) (oA Z Z (zj (zg (zF (rR fL3 Z (oM Z fi92 (oR Z (ZD (zU Z Z Z) (congrArg (jV) hi105.out)) (oA Z Z (zj ?_))))))))))))))))))))))))))
     cases hm132
     exact zF ⟨rfl,⟨U133,rfl,f96,f97,f98,f99,rfl,f101,f102,f103,(le94.trans le137),(hS146.pick [1,2] _ (by decide) rfl)⟩⟩
    ·intro c114 hm148
     refine cF Z c114 (ZW (zg (zF (rR fL3 Z (oM Z fi92 (oR Z (ZD (zU Z Z Z) (congrArg (jV) hi105.out)) (oA Z Z (zj ?_))))))))
     cases hm148
     exact zF ⟨Z,⟨U93,Z,f96,f97,f98,f99,Z,f101,f102,f103,le94,hS95⟩⟩
   ·rintro σ150 W151 ⟨U155,fi153,f158,f159,f160,f161,f162,f163,f164,f165,le156,hS157⟩
    have c166:Hid (¬ ((↑((p3:Int) - 0).toNat:Int) < p3)):=zG (wAa)
    refine zB (sR fL3 Z (oM Z fi153 (oM Z f165 (oR Z (zS Z Z Z) (eN (cF Z c166 (ZG (zW (zW (zr (zg (zF (rR fL3 Z (oM Z f163 (oR Z (ZD (zU Z Z Z) (congrArg (jV) hi33.out)) (oA Z Z (zj ?_)))))))))))))))))
    cases hm81
    exact zF ⟨rfl,⟨U155,rfl,f158,f159,f160,f161,f162,(le25.trans le156),(hS157.pick [1] _ (by decide) rfl)⟩⟩
  ·intro c72 hm168
   refine cF Z c72 (kN (sR fL1 Z (oA Z Z (eN (zL (bnK hm168 fun y180 hf177 hm176=>?_))))))
   have q:=wAu hf177
   obtain ⟨hle178,hf179⟩:=q
   replace hle178:=zG hle178
   refine CK.forN' (fun k175 x174 σ_ w_=>∃ (U_:PHeap),σ_ 13=jV (↑k175:Int)/\σ_ 1=jV p1/\σ_ 2=jV p2/\σ_ 3=jV p3/\σ_ 4=.pointer (some ⟨b2,0,none⟩)/\σ_ 9=jV x174/\σ_ 10=jV (↑k11:Int)/\σ_ 11=.pointer (some ⟨b66,0,none⟩)/\σ_ 12=jV (↑x50.Loops.length:Int)/\PHeap.Le U24 U_/\sW w U U_ [.blk b66 161 B1,.blk b2 34 B0] w_) hf179 ?_ ?_ ?_
   ·exact ⟨U24,Z,f27,f28,f29,f30,f31,fi23,Z,Z,(zZ _),hS71⟩
   ·rintro k175 x174 xx183 σ181 W182 hk186 ⟨U188,fi187,f191,f192,f193,f194,f195,f196,f197,f198,le189,hS190⟩ hx184
    have c199:Hid ((↑k175:Int) < (↑x50.Loops.length:Int)):=zG (wAy hk186)
    replace hk186:=zG hk186
    have hi200:Hid (w64 ((↑k175:Int) + 1)=(↑(k175 + 1):Int)):=zG (by have h1:=hle178.out;have h2:=c199.out;rw [wAK] <;> omega)
    refine zB (sR fL3 Z (oM Z fi187 (oM Z f198 (oR Z (zS Z Z Z) (eN (cT Z c199 (kN (zB (zL (sR fL8 Z (oM Z f195 (oR Z (zA Z f197 ZS Z zO) (oL Z (hS190.ldB (j:=0) Z Z Z zd (v:=.slice pA59 x50.Loops.length pc60) Z) (oM Z fi187 (bnK hx184 fun x201 h202 hm203=>?_)))))))))))))))
    have h204:=h63.le le189
    have q:=h204.el (fun _=>rfl) (wAE h202)
    obtain ⟨b205,off206,hA207,hC208⟩:=q
    refine oR Z (zx Z Z hA207 Z zE zI (wAc h202)) (oL Z (hS190.ldC (f:=0) hC208 (v:=jV x201) Z Z zP Z) (oR Z (zU Z Z Z) (oA Z Z (eN (sR fL2 Z (oM Z fi187 (oR Z (yF Z Z Z) (eN (ifc hm203 ?_ ?_)))))))))
    ·intro c209 hm210
     refine cT Z c209 (sR (wGH (.fx 6 (wSQ (.fx 10 (.fx 11 (.fl 12 (.nil)) .stop) .stop)) .stop)) Z (oR Z (zA Z f197 ZS Z Zm) (oL Z (hS190.ldB (j:=0) Z Z Z Zr (v:=.slice pA61 x50.Bouts.length pc62) Z) (oM Z fi187 (oR Z (Zn Z Z Z) (bnK hm210 fun x211 h212 hm213=>?_))))))
     have h214:=h64.le le189
     have q:=h214.el (wAE h212)
     obtain ⟨b215,off216,vs219,hA217,hC218,hr220⟩:=q
     obtain ⟨pA221,pc222,rfl,h223⟩:=hr220
     replace hC218:Cl U188 b215 (off216 + (w64 ((↑k175:Int) - 1)).toNat * 1) [.slice pA221 x211.length pc222]:=hC218
     refine oR Z (ZQ Z Z hA217 Z ZC yL (wAx h212) (wBE h212)) (oL Z (hS190.ldC (f:=0) hC218 (v:=.slice pA221 x211.length pc222) Z Z yX Z) ?_)
     have q:=bnd hm213
     obtain ⟨⟨x224,x225⟩,h226,hm227⟩:=q
     try dsimp only at hm227
     refine zQ 0 Z Z Z Z (zR Z Z Tryz.call97 (zH Z ze) Z) hS190 (fun hs=>wCu x211 pA221 pc222 W182 U188 hs h223 h226) (.inr Z) ?_
     rintro U228 L229 v230 W231 le232 hS233 ⟨rfl,rfl⟩
     have hS234:sW w U U228 [.blk b66 161 B1,.blk b2 34 B0] W231:=hS233
     refine oM Z Z (oR Z (ZK Z Z (v:=.agg #[jV x224.Spares,jV x224.Loops,jV x224.Unused]) Z) (oR Z (ZK Z Z (v:=jV x225) Z) (zq (cs:=[jV 0,jV 0,jV 0]) Z Z Z Z Z yO Z hS234 ?_)))
     intro W235 b236 hS237
     let B3:List Value:=[jV x224.Spares,jV x224.Loops,jV x224.Unused]
     refine ZE (j:=0) (vs:=B3) Z Z Z Z hS237 Z Z Z Z yH (zD Z) Z Z Z ?_
     intro W239 hS240
     have hS241:sW w U U228 [.blk b236 172 B3,.blk b66 161 B1,.blk b2 34 B0] W239:=hS240
     refine oA Z Z (eN (rR fL16 Z (oM Z Z (oR Z (zA Z Z Tryz.runUnderlying172 Z zI) (oL Z (hS241.ldB (j:=0) Z Z Z zP (v:=jV x224.Spares) Z) (oR Z (zA Z f194 zX Z Zs) (oR Z (zA Z Z ZJ Z zI) (oL Z (hS241.ldB (j:=2) Z Z Z zP (v:=jV p0.Rules.Spare) Z) (oR Z (Runs.mulw Z Z Z) (oR Z (zU Z Z Z) (oR Z (zA Z Z Tryz.runUnderlying172 Z zI) (oL Z (hS241.ldB (j:=0) Z Z Z zP (v:=jV x224.Loops) Z) (oR Z (zA Z f194 zX Z Zs) (oR Z (zA Z Z ZJ Z zI) (oL Z (hS241.ldB (j:=2) Z Z Z zP (v:=jV p0.Rules.Loop) Z) (oR Z (Runs.mulw Z Z Z) (oR Z (zU Z Z Z) (oA Z Z (zj (zg (zF (rR fL3 Z (oM Z fi187 (oR Z (ZD (zU Z Z Z) (congrArg (jV) hi200.out)) (oA Z Z (zj ?_))))))))))))))))))))))))))
     cases hm227
     exact zF ⟨rfl,⟨U228,rfl,f191,f192,f193,f194,rfl,f196,f197,f198,(le189.trans le232),(hS241.pick [1,2] _ (by decide) rfl)⟩⟩
    ·intro c209 hm243
     refine cF Z c209 (ZW (zg (zF (rR fL3 Z (oM Z fi187 (oR Z (ZD (zU Z Z Z) (congrArg (jV) hi200.out)) (oA Z Z (zj ?_))))))))
     cases hm243
     exact zF ⟨Z,⟨U188,Z,f191,f192,f193,f194,Z,f196,f197,f198,le189,hS190⟩⟩
   ·rintro σ245 W246 ⟨U250,fi248,f253,f254,f255,f256,f257,f258,f259,f260,le251,hS252⟩
    have c261:Hid (¬ ((↑(((↑x50.Loops.length:Int):Int) - 0).toNat:Int) < (↑x50.Loops.length:Int))):=zG (wAa)
    refine zB (sR fL3 Z (oM Z fi248 (oM Z f260 (oR Z (zS Z Z Z) (eN (cF Z c261 (ZG (zW (zW (zr (zg (zF (rR fL3 Z (oM Z f258 (oR Z (ZD (zU Z Z Z) (congrArg (jV) hi33.out)) (oA Z Z (zj ?_)))))))))))))))))
    cases hm176
    exact zF ⟨rfl,⟨U250,rfl,f253,f254,f255,f256,f257,(le25.trans le251),(hS252.pick [1] _ (by decide) rfl)⟩⟩
 ·rintro σ263 W264 ⟨U268,fi266,f271,f272,f273,f274,f275,le269,hS270⟩
  have c276:Hid (¬ ((↑(((p2 + 1):Int) - 0).toNat:Int) <= p2)):=zG (wMY)
  refine zB (sR fL3 Z (oM Z fi266 (oM Z f272 (oR Z (Runs.leq Z Z Z) (eN (cF Z c276 (ZG (zW (zW (zr (zF (sR fL2 Z (oM Z f275 (oA Z Z (eN (zM ?_))))))))))))))))
  have hE:=nB hm12;first | subst r | cases hE
  exact ⟨rfl,_,(zt rfl),U268,_,(hS270.pick [] _ (by decide) rfl),rfl,rfl⟩
theorem wCo (p0:wAD) (pA0_0_0:Option Addr) (pc0_0_0:Nat) (pA0_2:Option Addr) (pc0_2:Nat) (w:World) (U:PHeap) (hS:St0 w U []) (ha0:Sl U 1 pA0_0_0 pc0_0_0 p0.Rules.Classes.length (nA KL.encI p0.Rules.Classes)) (ha1:SlR U wET pA0_2 pc0_2 p0.Teams) {r:(List (List Int)) × Int} (hm:wAX p0=some r):Gv Tryz.prog 16 [.agg #[.slice pA0_0_0 p0.Rules.Classes.length pc0_0_0,jV p0.Rules.Each,jV p0.Rules.Laps,jV p0.Rules.Spare,jV p0.Rules.Loop,jV p0.Rules.Unused,jV p0.Start,.slice pA0_2 p0.Teams.length pc0_2]] w (wCj w [] U (fun U_ L_ v=>∃ (A0:Option Addr) (c0:Nat) (cs0:List Value),v=.tuple #[.slice A0 r.1.length c0,jV r.2]/\L_=[.row A0 c0 22 1 cs0]/\RlL U_ wDL r.1 cs0)):=by
 unfold wAX at hm
 refine Gv.of Tryz.func16 Z Tryz.ntmps16 Tryz.results16 Z (sR (.fx 0 (.fl 1 (.fl 2 (.nil))) .stop) Z ?_)
 let B0:List Value:=[.slice pA0_0_0 p0.Rules.Classes.length pc0_0_0,jV p0.Rules.Each,jV p0.Rules.Laps,jV p0.Rules.Spare,jV p0.Rules.Loop,jV p0.Rules.Unused,jV p0.Start,.slice pA0_2 p0.Teams.length pc0_2]
 refine Ze (cs:=B0) rfl rfl rfl rfl rfl rfl (by rfl) hS ?_
 intro W1 b2 hS3
 refine oA Z Z (oA Z Z (eN (zB (sR (.fl 0 (.fx 1 (.fl 2 (.nil)) .stop)) Z (oL Z (hS3.ldBA (j:=0) Z Z Z Zy Zl (vs:=B0) Z Z) (bnK hm fun x5 h6 hm7=>zQ 0 Z Z Z Z (zR Z Z Tryz.call14 (zH Z ze) Z) hS3 (fun hs=>wCn p0 pA0_0_0 pc0_0_0 pA0_2 pc0_2 W1 U hs ha0 ha1 h6) (.inr Z) ?_))))))
 rintro U8 L9 v10 W11 le12 hS13 ⟨rfl,rfl⟩
 have hS14:sW w U U8 [.blk b2 34 B0] W11:=hS13
 refine oA Z Z (eN (sR fL2 Z (oM Z Z (oR Z (ZV Z Z Z) (eN (ifc hm7 ?_ ?_))))))
 ·intro c15 hm16
  refine zo (zw (fun h=>h c15.out)) (kN (sR fL1 Z (oA Z Z (eN (zB (sR fL1 Z (oA Z Z (eN (zL (yV (fun (l34,x39) σ_ w_=>∃ (U_:PHeap) (A35:Option Addr) (c36:Nat) (cs38:List Value),σ_ 1=.pointer (some ⟨b2,0,none⟩)/\σ_ 5=.slice A35 l34.length c36/\σ_ 6=jV x39/\PHeap.Le U8 U_/\sW w U U_ [.blk b2 34 B0,.row A35 c36 22 1 cs38] w_/\RlL U_ wDL l34 cs38) hm16 ?_ ?_))))))))))
  ·have hS40:=hS14.nilrow 22 1
   exact ⟨U8,none,0,[],rfl,rfl,rfl,(zZ _),(hS40.pick [1,0] _ (by decide) rfl),RlL.nil⟩
  ·rintro ⟨l34,x39⟩ xx44 σ42 W43 ⟨U49,A35,c36,cs38,f52,f53,f54,le50,hS51,h55⟩ hx45 hb46
   try dsimp only at hx45
   refine zB (sR fL5 Z (oM Z f54 (oR Z (zA Z f52 zX Z ZR) (oL Z (hS51.ldB (j:=0) Z Z Z ZY (v:=.slice pA0_2 p0.Teams.length pc0_2) Z) (oR Z (zN Z Z zy) (oR Z (zS Z Z Z) (eN ?_)))))))
   by_cases c56:x39 < (↑p0.Teams.length:Int)
   ·have hm57:=hx45;rw [if_pos c56] at hm57;replace c56:=zG c56
    refine cT Z c56 (kN (zB (zL (sR fL1 Z (oA Z Z (eN (zB (sR fL1 Z (oA Z Z (eN (zL ?_)))))))))))
    let B1:Res:=.row A35 c36 22 1 cs38
    refine yV (fun (l72,x76) σ_ w_=>∃ (U_:PHeap) (A73:Option Addr) (c74:Nat),σ_ 1=.pointer (some ⟨b2,0,none⟩)/\σ_ 5=.slice A35 l34.length c36/\σ_ 6=jV x39/\σ_ 7=.slice A73 l72.length c74/\σ_ 8=jV x76/\PHeap.Le U49 U_/\sW w U U_ [.blk b2 34 B0,B1,.row A73 c74 3 1 (nA KL.encI l72)] w_) hm57 ?_ ?_
    ·have hS77:=hS51.nilrow 3 1
     exact ⟨U49,none,0,f52,f53,f54,rfl,rfl,(zZ _),(hS77.pick [1,2,0] _ (by decide) rfl)⟩
    ·rintro ⟨l72,x76⟩ xx81 σ79 W80 ⟨U86,A73,c74,f89,f90,f91,f92,f93,le87,hS88⟩ hx82 hb83
     try dsimp only at hx82
     refine zB (sR fL9 Z (oM Z f93 (oR Z (zA Z f89 zX Z ZR) (oL Z (hS88.ldB (j:=0) Z Z Z ZY (v:=.slice pA0_2 p0.Teams.length pc0_2) Z) (oM Z f91 (bnK hx82 fun x94 h95 hm96=>?_))))))
     have h97:=ha1.le le12
     have h98:=h97.le le50
     have h99:=h98.le le87
     have q:=h99.el (wAE h95)
     obtain ⟨b100,off101,vs104,hA102,hC103,hr105⟩:=q
     obtain ⟨pA106,pc107,pA108,pc109,rfl,h110,h111⟩:=hr105
     replace hC103:Cl U86 b100 (off101 + x39.toNat * 3) [jV x94.Bib,.slice pA106 x94.Classes.length pc107,.slice pA108 x94.Legs.length pc109]:=hC103
     refine oR Z (ZQ Z Z hA102 Z zy ZU (wAx h95) (wBE h95)) (oR Z (zA Z Z zk Z ZT) (oL Z (hS88.ldC (f:=2) hC103 (v:=.slice pA108 x94.Legs.length pc109) Z Z Zc Z) (oR Z (zN Z Z ZF) (oR Z (zS Z Z Z) (eN (ifc hm96 ?_ ?_))))))
     ·intro c112 hm113
      refine cT Z c112 (kN (zB (zL (zB (Zv Zt [3,1,3,3,3,1,3,3,3,1,3,3,3,1,3] fL15 (by kernel_rfl) ?_)))))
      have hS114:=hS88.drew
      generalize hw_W115:({ W80 with drawn:=W80.drawn + 1 }:World)=W115 at hS114 ⊢
      refine oR Z (zA Z f89 zX Z ZR) (oL Z (hS114.ldB (j:=0) Z Z Z ZY (v:=.slice pA0_2 p0.Teams.length pc0_2) Z) (oM Z f91 ?_))
      have q:=h99.el (wAE h95)
      obtain ⟨b116,off117,vs120,hA118,hC119,hr121⟩:=q
      obtain ⟨pA122,pc123,pA124,pc125,rfl,h126,h127⟩:=hr121
      replace hC119:Cl U86 b116 (off117 + x39.toNat * 3) [jV x94.Bib,.slice pA122 x94.Classes.length pc123,.slice pA124 x94.Legs.length pc125]:=hC119
      refine oR Z (ZQ Z Z hA118 Z zy ZU (wAx h95) (wBE h95)) (oR Z (zA Z Z zk Z ZT) (oL Z (hS114.ldC (f:=2) hC119 (v:=.slice pA124 x94.Legs.length pc125) Z Z Zc Z) (oM Z f93 (bnK hm113 fun x128 h129 hm130=>?_))))
      have q:=h127.el (wAE h129)
      obtain ⟨b131,off132,vs135,hA133,hC134,hr136⟩:=q
      obtain ⟨pA137,pc138,pA139,pc140,rfl,h141,h142⟩:=hr136
      replace hC134:Cl U86 b131 (off132 + x76.toNat * 3) [jV x128.Skier,.slice pA137 x128.Loops.length pc138,.slice pA139 x128.Bouts.length pc140]:=hC134
      refine oR Z (ZQ Z Z hA133 Z ZF Zp (wAx h129) (wBE h129)) (oR Z (zA Z Z ZS Z zO) (oL Z (hS114.ldC (f:=1) hC134 (v:=.slice pA137 x128.Loops.length pc138) Z Z zd Z) (oR Z (zN Z Z zE) (oR Z (zA Z f89 zX Z Zs) (oR Z (zA Z Z ZJ Z zI) (oL Z (hS114.ldB (j:=0) Z Z Z zP (v:=jV p0.Rules.Laps) Z) (oR Z (yI Z Z Z) (eN (ifc hm130 ?_ ?_)))))))))
      ·intro c143 hm144
       refine cT Z c143 (rR (wQT (.fx 7 (.fx 8 (.fx 9 (.fl 10 (.nil)) .stop) .stop) .stop)) Z (oM Z f92 (oL Z (hS114.ldBA (j:=0) Z Z f89 Zy Zl (vs:=B0) Z Z) (oM Z f91 (oM Z f93 (oR Z (zA Z f89 zX Z Zs) (oR Z (zA Z Z ZJ Z zI) (oL Z (hS114.ldB (j:=0) Z Z Z zP (v:=jV p0.Rules.Laps) Z) ?_))))))))
       have h145:=ha0.le le12
       have h146:=h145.le le50
       have h147:=h146.le le87
       refine bnK hm144 fun x148 h149 hm150=>zQ 0 Z Z Z Z (zR Z Z Tryz.call100 (zH Z (zH Z (zH Z (zH Z ze)))) Z) hS114 (fun hs=>wDU p0 pA0_0_0 pc0_0_0 pA0_2 pc0_2 x39 x76 p0.Rules.Laps W115 U86 hs h147 h99 h149) (.inr Z) ?_
       rintro U151 L152 v153 W154 le155 hS156 ⟨rfl,rfl⟩
       let B2:Res:=.row A73 c74 3 1 (nA KL.encI l72)
       have hS157:sW w U U151 [.blk b2 34 B0,B1,B2] W154:=hS156
       refine ZP (pv:=[(0,jV x148)]) (zs:=[jV 0]) (cs:=[jV x148]) Z Z Z Z Z (wAI Z wAU) zE zI Zu Z Z Z Z Z hS157 ?_
       intro W158 b159 hS160
       let B3:Res:=.row (some ⟨b159,0,none⟩) 1 3 1 (nA KL.encI [x148])
       have hS162:sW w U U151 [B3,.blk b2 34 B0,B1,B2] W158:=hS160
       refine bnK hm150 fun x163 h164 hm165=>yC (j:=3) (enc:=KL.encI) (xs:=l72) (ys:=[x148]) (zs:=x163) rfl rfl rfl rfl rfl Zf wEm rfl rfl rfl rfl rfl rfl hS162 rfl rfl rfl (hS162.srcR (j:=0) rfl (by decide) (wAN (f:=KL.encI) (sz:=1) (fun _=>rfl) [x148])) (fun _=>rfl) (fun _=>rfl) h164 rfl ?_
       intro A166 c167 W168 hS169
       have hS170:sW w U U151 [B3,.blk b2 34 B0,B1,.row A166 c167 3 1 (nA KL.encI x163)] W168:=hS169
       refine oA Z Z (zj (zg (zF (rR fL3 Z (oM Z f93 (oR Z (zU Z Z Z) (oA Z Z (zj ?_))))))))
       obtain rfl:=nB hm165
       exact zF ⟨rfl,_,rfl,⟨U151,A166,c167,f89,f90,f91,rfl,rfl,(le87.trans le155),(hS170.pick [1,2,3] _ (by decide) rfl)⟩⟩
      ·intro c143 hm175
       refine cF Z c143 (ZW (zg (zF (rR fL3 Z (oM Z f93 (oR Z (zU Z Z Z) (oA Z Z (zj ?_))))))))
       obtain rfl:=nB hm175
       exact zF ⟨Z,_,Z,⟨U86,A73,c74,f89,f90,f91,f92,Z,le87,hS114⟩⟩
     ·intro c112 hm180
      refine cF Z c112 (ZG (zW ?_))
      have q:=wAF hm180
      obtain ⟨v181,hm182,e183⟩:=q
      obtain rfl:=hb83 v181 e183
      refine zW (zr (zF (rR (.fl 0 (.fl 1 (.fx 2 (.fx 3 (.fl 4 (.nil)) .stop) .stop))) Z (oM Z f90 (oM Z f92 ?_)))))
      have q:=hS88.freezeR (k:=2) (n:=l72.length) rfl (wAN (f:=KL.encI) (sz:=1) (fun _=>rfl) l72) (by decide)
      obtain ⟨U187,le188,hs189,hS190⟩:=q
      have hS191:sW w U U187 [.blk b2 34 B0,B1] W80:=hS190
      let B4:List Value:=[.slice A73 l72.length c74]
      refine ZP (pv:=[(0,.slice A73 l72.length c74)]) (zs:=[.slice none 0 0]) (cs:=B4) Z Z Z Z Z (wAI Z wAU) zV zO yY Z Z Z Z Z hS191 ?_
      intro W184 b185 hS186
      have hr193:RlL U187 wDL [l72] B4:=(RlL.cons (R:=wDL) (x:=l72) (vs:=B4) ⟨A73,c74,rfl,hs189⟩ RlL.nil)
      let B5:Res:=.row (some ⟨b185,0,none⟩) 1 22 1 B4
      have hS194:sW w U U187 [B5,.blk b2 34 B0,B1] W184:=hS186
      refine bnK hm182 fun x195 h196 hm197=>?_
      have h204:=h55.le le87
      have h205:=h204.le le188
      refine yP (R:=wDL) (j:=2) (xs:=l34) (ys:=[l72]) (zs:=x195) rfl rfl rfl rfl rfl yW wHu rfl rfl rfl rfl rfl rfl rfl hS194 rfl rfl rfl h205 hr193 (hS194.srcR (j:=0) rfl (by decide) (RlL.len hr193)) h196 rfl ?_
      intro A198 c199 cs200 W201 hS202 hr203
      have hS206:sW w U U187 [B5,.blk b2 34 B0,.row A198 c199 22 1 cs200] W201:=hS202
      refine oA Z Z (zj (zg (zF (rR fL3 Z (oM Z f91 (oR Z (zU Z Z Z) (oA Z Z (zj ?_))))))))
      obtain rfl:=nB hm197
      exact zF ⟨rfl,_,rfl,⟨U187,A198,c199,cs200,f89,rfl,rfl,((le50.trans le87).trans le188),(hS206.pick [1,2] _ (by decide) rfl),hr203⟩⟩
   ·have hm212:=hx45;rw [if_neg c56] at hm212;replace c56:=zG c56
    refine cF Z c56 (ZG (zW ?_))
    have q:=wAF hm212
    obtain ⟨v213,hm214,e215⟩:=q
    obtain rfl:=hb46 v213 e215
    refine zW (zr (zF (sR fL3 Z (oM Z f53 (oA Z Z (oA Z Z (eN (zM ?_))))))))
    cases hm214
    exact ⟨rfl,_,(wIc rfl rfl),U49,_,(hS51.pick [1] _ (by decide) rfl),A35,c36,cs38,rfl,rfl,h55⟩
 ·intro c15 hm216
  refine cT Z c15 (sR fL3 Z (oM Z Z (oA Z Z (oA Z Z (eN (zM (zC ?_)))))))
  have hS217:=hS14.nilrow 22 1
  cases hm216
  exact ⟨rfl,_,(wIc rfl rfl),U8,_,(hS217.pick [0] _ (by decide) rfl),none,0,[],rfl,rfl,RlL.nil⟩
theorem wAt (p0:List Int) (pA0:Option Addr) (pc0:Nat) (p1:List Int) (pA1:Option Addr) (pc1:Nat) (w:World) (U:PHeap) (hS:St0 w U []) (ha0:Sl U 1 pA0 pc0 p0.length (nA KL.encI p0)) (ha1:Sl U 1 pA1 pc1 p1.length (nA KL.encI p1)) {r:Bool} (hm:wAW p0 p1=some r):Gv Tryz.prog 20 [.slice pA0 p0.length pc0,.slice pA1 p1.length pc1] w (wCj w [] U (fun U_ L_ v=>v=.bool r/\L_=[])):=by
 unfold wAW at hm
 refine Gv.of Tryz.func20 Z Tryz.ntmps20 Tryz.results20 Z (sR fL1 Z (oA Z Z (eN (zB (sR fL5 Z (oM Z Z (oR Z (zN Z Z zE) (oM Z Z (oR Z (zN Z Z zE) (oR Z (ZV Z Z Z) (eN ?_)))))))))))
 by_cases c1:(↑p0.length:Int)=(↑p1.length:Int)
 ·have hm2:=hm;rw [if_pos c1] at hm2;replace c1:=zG c1
  refine zo (zw (fun h=>h c1.out)) (kN (zB (sR fL3 Z (oM Z Z (oR Z (zN Z Z zE) (oM Z Z (eN (zL ?_))))))))
  have q:=wCM hm2
  obtain ⟨r5,hX6⟩:=q
  have q:=wCL hX6
  obtain ⟨hle7,hf8⟩:=q
  replace hle7:=zG hle7
  refine yK (fun k4 _ σ_ w_=>∃ (U_:PHeap),σ_ 13=jV (↑k4:Int)/\σ_ 0=.slice pA0 p0.length pc0/\σ_ 1=.slice pA1 p1.length pc1/\σ_ 12=jV (↑p0.length:Int)/\PHeap.Le U U_/\sW w U U_ [] w_) hf8 ?_ ?_ ?_
  ·exact ⟨U,Z,Z,Z,Z,(zZ _),hS⟩
  ·rintro k4 ⟨⟩ xx11 σ9 W10 hk14 ⟨U16,fi15,f19,f20,f21,le17,hS18⟩ hx12 hb13
   try dsimp only at hx12
   have c22:Hid ((↑k4:Int) < (↑p0.length:Int)):=zG (wAy hk14)
   replace hk14:=zG hk14
   have hi23:Hid (w64 ((↑k4:Int) + 1)=(↑(k4 + 1):Int)):=zG (by have h1:=hle7.out;have h2:=c22.out;rw [wAK] <;> omega)
   refine sR fL1 rfl (zu rfl rfl rfl rfl (fun _=>zS rfl fi15 f21) (eN (zB (cT Z c22 (kN (zB (zL (sR fL2 rfl (ZM rfl rfl rfl rfl rfl fi15 (OKS.ra rfl rfl rfl rfl rfl rfl (eN (zB (Zv Zt [3,3,3,1,3,3,3,1,3] fL9 (by kernel_rfl) ?_)))))))))))))
   have hS24:=hS18.drew
   generalize hw_W25:({ W10 with drawn:=W10.drawn + 1 }:World)=W25 at hS24 ⊢
   refine oM Z f19 (oM Z Z (bnK hx12 fun x26 h27 hm28=>?_))
   have h29:=ha0.le le17
   have q:=h29.el (fun _=>rfl) (wAE h27)
   obtain ⟨b30,off31,hA32,hC33⟩:=q
   refine oR Z (zx Z Z hA32 Z zE zI (wAc h27)) (oL Z (hS24.ldC (f:=0) hC33 (v:=jV x26) Z Z zP Z) (oM Z f20 (oM Z Z (bnK hm28 fun x34 h35 hm36=>?_))))
   have h37:=ha1.le le17
   have q:=h37.el (fun _=>rfl) (wAE h35)
   obtain ⟨b38,off39,hA40,hC41⟩:=q
   refine oR Z (zx Z Z hA40 Z zE zI (wAc h35)) (oL Z (hS24.ldC (f:=0) hC41 (v:=jV x34) Z Z zP Z) (oR Z (ZV Z Z Z) (eN (ifc hm36 ?_ ?_))))
   ·intro c42 hm43
    refine zo (zw (fun h=>h c42.out)) (ZW (zg (zF (rR fL2 Z (oR Z (ZD (zU Z fi15 Z) (congrArg (jV) hi23.out)) (oM Z Z (zj ?_)))))))
    obtain rfl:=nB hm43
    exact zF ⟨Z,_,Z,⟨U16,Z,f19,f20,f21,le17,hS24⟩⟩
   ·intro c42 hm44
    refine cT Z c42 (sR fL1 Z (oA Z Z (eN (zM (zK (zC ?_))))))
    have q:=wAF hm44
    obtain ⟨v45,hm46,e47⟩:=q
    obtain rfl:=wBd hm2 hX6 (hb13 v45 e47)
    refine zC (zK (zC ?_))
    have hE:=nB hm46;first | subst r | cases hE
    exact ⟨Z,_,(zt Z),U16,_,hS24,Z,Z⟩
  ·rintro ⟨⟩ σ48 W49 ⟨U52,fi51,f55,f56,f57,le53,hS54⟩ hb50
   have hm58:=wCv hm2 hX6 hb50
   try dsimp only at hm58
   have c59:Hid (¬ ((↑(((↑p0.length:Int):Int) - 0).toNat:Int) < (↑p0.length:Int))):=zG (wAa)
   refine sR fL1 Z (oR Z (zS Z fi51 f57) (eN (zB (cF Z c59 (ZG (zW (zW (zr (zF (sR fL1 Z (oA Z Z (eN (zM ?_)))))))))))))
   have hE:=nB hm58;first | subst r | cases hE
   exact ⟨Z,_,(zt Z),U52,_,hS54,Z,Z⟩
 ·have hm60:=hm;rw [if_neg c1] at hm60;replace c1:=zG c1
  refine cT Z c1 (sR fL1 Z (oA Z Z (eN (zM (zC ?_)))))
  have hE:=nB hm60;first | subst r | cases hE
  exact ⟨Z,_,(zt Z),U,_,hS,Z,Z⟩
theorem wCG (p0:List (List Int)) (pA0:Option Addr) (pc0:Nat) (p1:List (List Int)) (pA1:Option Addr) (pc1:Nat) (w:World) (U:PHeap) (hS:St0 w U []) (ha0:SlR U wDL pA0 pc0 p0) (ha1:SlR U wDL pA1 pc1 p1) {r:Bool} (hm:wAh p0 p1=some r):Gv Tryz.prog 17 [.slice pA0 p0.length pc0,.slice pA1 p1.length pc1] w (wCj w [] U (fun U_ L_ v=>v=.bool r/\L_=[])):=by
 unfold wAh at hm
 refine Gv.of Tryz.func17 Z Tryz.ntmps17 Tryz.results17 Z (sR fL1 Z (oA Z Z (eN (zB (sR fL5 Z (oM Z Z (oR Z (zN Z Z zV) (oM Z Z (oR Z (zN Z Z zV) (oR Z (ZV Z Z Z) (eN ?_)))))))))))
 by_cases c1:(↑p0.length:Int)=(↑p1.length:Int)
 ·have hm2:=hm;rw [if_pos c1] at hm2;replace c1:=zG c1
  refine zo (zw (fun h=>h c1.out)) (kN (zB (sR fL3 Z (oM Z Z (oR Z (zN Z Z zV) (oM Z Z (eN (zL ?_))))))))
  have q:=wCM hm2
  obtain ⟨r5,hX6⟩:=q
  have q:=wCL hX6
  obtain ⟨hle7,hf8⟩:=q
  replace hle7:=zG hle7
  refine yK (fun k4 _ σ_ w_=>∃ (U_:PHeap),σ_ 13=jV (↑k4:Int)/\σ_ 0=.slice pA0 p0.length pc0/\σ_ 1=.slice pA1 p1.length pc1/\σ_ 12=jV (↑p0.length:Int)/\PHeap.Le U U_/\sW w U U_ [] w_) hf8 ?_ ?_ ?_
  ·exact ⟨U,Z,Z,Z,Z,(zZ _),hS⟩
  ·rintro k4 ⟨⟩ xx11 σ9 W10 hk14 ⟨U16,fi15,f19,f20,f21,le17,hS18⟩ hx12 hb13
   try dsimp only at hx12
   have c22:Hid ((↑k4:Int) < (↑p0.length:Int)):=zG (wAy hk14)
   replace hk14:=zG hk14
   have hi23:Hid (w64 ((↑k4:Int) + 1)=(↑(k4 + 1):Int)):=zG (by have h1:=hle7.out;have h2:=c22.out;rw [wAK] <;> omega)
   refine sR fL1 rfl (zu rfl rfl rfl rfl (fun _=>zS rfl fi15 f21) (eN (zB (cT Z c22 (kN (zB (zL (sR fL2 rfl (ZM rfl rfl rfl rfl rfl fi15 (OKS.ra rfl rfl rfl rfl rfl rfl (eN (zB (Zv Zt [3,3,3,1,3,3,3,1,2,3] (wSO (.fx 8 (.fl 9 (.nil)) .stop)) (by kernel_rfl) ?_)))))))))))))
   have hS24:=hS18.drew
   generalize hw_W25:({ W10 with drawn:=W10.drawn + 1 }:World)=W25 at hS24 ⊢
   refine oM Z f19 (oM Z Z (bnK hx12 fun x26 h27 hm28=>?_))
   have h29:=ha0.le le17
   have q:=h29.el (wAE h27)
   obtain ⟨b30,off31,vs34,hA32,hC33,hr35⟩:=q
   obtain ⟨pA36,pc37,rfl,h38⟩:=hr35
   replace hC33:Cl U16 b30 (off31 + k4 * 1) [.slice pA36 x26.length pc37]:=hC33
   refine oR Z (zx Z Z hA32 Z zV zO (wAc h27)) (oL Z (hS24.ldC (f:=0) hC33 (v:=.slice pA36 x26.length pc37) Z Z zd Z) (oM Z f20 (oM Z Z (bnK hm28 fun x39 h40 hm41=>?_))))
   have h42:=ha1.le le17
   have q:=h42.el (wAE h40)
   obtain ⟨b43,off44,vs47,hA45,hC46,hr48⟩:=q
   obtain ⟨pA49,pc50,rfl,h51⟩:=hr48
   replace hC46:Cl U16 b43 (off44 + k4 * 1) [.slice pA49 x39.length pc50]:=hC46
   refine oR Z (zx Z Z hA45 Z zV zO (wAc h40)) (oL Z (hS24.ldC (f:=0) hC46 (v:=.slice pA49 x39.length pc50) Z Z zd Z) (bnK hm41 fun x52 h53 hm54=>zQ 0 Z Z Z Z (zR Z Z Tryz.call20 (zH Z (zH Z ze)) Z) hS24 (fun hs=>wAt x26 pA36 pc37 x39 pA49 pc50 W25 U16 hs h38 h51 h53) (.inr Z) ?_))
   rintro U55 L56 v57 W58 le59 hS60 ⟨rfl,rfl⟩
   have hS61:sW w U U55 [] W58:=hS60
   refine oR Z (Za Z Z) (eN (ifc hm54 ?_ ?_))
   ·intro c62 hm63
    refine zo (nC c62.out) (ZW (zg (zF (rR fL2 Z (oR Z (ZD (zU Z fi15 Z) (congrArg (jV) hi23.out)) (oM Z Z (zj ?_)))))))
    obtain rfl:=nB hm63
    exact zF ⟨Z,_,Z,⟨U55,Z,f19,f20,f21,(le17.trans le59),hS61⟩⟩
   ·intro c62 hm64
    refine zp (nF (c62.out)) (sR fL1 Z (oA Z Z (eN (zM (zK (zC ?_))))))
    have q:=wAF hm64
    obtain ⟨v65,hm66,e67⟩:=q
    obtain rfl:=wBd hm2 hX6 (hb13 v65 e67)
    refine zC (zK (zC ?_))
    have hE:=nB hm66;first | subst r | cases hE
    exact ⟨Z,_,(zt Z),U55,_,hS61,Z,Z⟩
  ·rintro ⟨⟩ σ68 W69 ⟨U72,fi71,f75,f76,f77,le73,hS74⟩ hb70
   have hm78:=wCv hm2 hX6 hb70
   try dsimp only at hm78
   have c79:Hid (¬ ((↑(((↑p0.length:Int):Int) - 0).toNat:Int) < (↑p0.length:Int))):=zG (wAa)
   refine sR fL1 Z (oR Z (zS Z fi71 f77) (eN (zB (cF Z c79 (ZG (zW (zW (zr (zF (sR fL1 Z (oA Z Z (eN (zM ?_)))))))))))))
   have hE:=nB hm78;first | subst r | cases hE
   exact ⟨Z,_,(zt Z),U72,_,hS74,Z,Z⟩
 ·have hm80:=hm;rw [if_neg c1] at hm80;replace c1:=zG c1
  refine cT Z c1 (sR fL1 Z (oA Z Z (eN (zM (zC ?_)))))
  have hE:=nB hm80;first | subst r | cases hE
  exact ⟨Z,_,(zt Z),U,_,hS,Z,Z⟩
end Go.Proofs.YthbficbpebiekaaGreat
namespace Go.Proofs.YthbficbpebiekaaGreat
open Go.KL
set_option maxHeartbeats 4000000
theorem wEc (p0:List Int) (pA0:Option Addr) (pc0:Nat) (w:World) (U:PHeap) (hS:St0 w U []) (ha0:Sl U 1 pA0 pc0 p0.length (nA KL.encI p0)) {r:(List Int)} (hm:wBy p0=some r):Gv Tryz.prog 178 [.slice pA0 p0.length pc0] w (wCj w [] U (fun U_ L_ v=>∃ (A0:Option Addr) (c0:Nat),v=.slice A0 r.length c0/\L_=[.row A0 c0 3 1 (nA KL.encI r)])):=by
 unfold wBy at hm
 refine Gv.of Tryz.func178 Z Tryz.ntmps178 Tryz.results178 Z (sR fL1 Z (oA Z Z (eN (zB (sR fL2 Z (oM Z Z (oR Z (Runs.eqNil Z Z Z zE) (eN ?_))))))))
 by_cases c1:pA0.isNone=true
 ·replace c1:=zG c1
  have hp2:p0=[]:=List.eq_nil_of_length_eq_zero (Sl.nilA (Option.isNone_iff_eq_none.1 c1.out ▸ ha0))
  have hm3:(some [])=some r:=by simpa [hp2,app] using hm
  refine zp (congrArg nD c1.out) (sR fL1 Z (oA Z Z (eN (zM (zC ?_)))))
  have hS4:=hS.nilrow 3 1
  cases hm3
  exact ⟨Z,_,(zt Z),U,_,hS4,none,0,Z,Z⟩
 ·replace c1:=zG c1
  refine zo (congrArg nD (nE.2 c1.out)) (kN (sR (.fx 0 (.fl 1 (.fx 2 (.fl 3 (.nil)) .stop)) .stop) Z (OKS.buildSlice0 1 Z Z Z Z Z zE zI hS ?_)))
  intro W6 b7 hS8
  have hS10:sW w U U [.row (some ⟨b7,0,none⟩) 0 3 1 (nA KL.encI ([]:List Int))] W6:=hS8
  refine oM Z Z (bnK hm fun x11 h12 hm13=>yC (j:=0) (enc:=KL.encI) (xs:=([]:List Int)) (ys:=p0) (zs:=x11) Z Z Z Z Z Zf wEm Z Z Z Z Z Z hS10 Z Z Z (hS10.srcS ha0) (fun _=>Z) (fun _=>Z) h12 Z ?_)
  intro A14 c15 W16 hS17
  have hS18:sW w U U [.row A14 c15 3 1 (nA KL.encI x11)] W16:=hS17
  refine oA Z Z (eN (zM ?_))
  have hE:=nB hm13;first | subst r | cases hE
  exact ⟨Z,_,(zt Z),U,_,hS18,A14,c15,Z,Z⟩
theorem wGQ (p0:wCg) (pb0:Nat) (pA0_0_0_0:Option Addr) (pc0_0_0_0:Nat) (pA0_0_2:Option Addr) (pc0_0_2:Nat) (pA0_1:Option Addr) (pc0_1:Nat) (w:World) (U:PHeap) (hS:St0 w U [.blk pb0 246 [.slice pA0_0_0_0 p0.Race.Rules.Classes.length pc0_0_0_0,jV p0.Race.Rules.Each,jV p0.Race.Rules.Laps,jV p0.Race.Rules.Spare,jV p0.Race.Rules.Loop,jV p0.Race.Rules.Unused,jV p0.Race.Start,.slice pA0_0_2 p0.Race.Teams.length pc0_0_2,.slice pA0_1 p0.after.length pc0_1]]) (ha0:Sl U 1 pA0_0_0_0 pc0_0_0_0 p0.Race.Rules.Classes.length (nA KL.encI p0.Race.Rules.Classes)) (ha1:SlR U wCS pA0_0_2 pc0_0_2 p0.Race.Teams) (ha2:SlR U wDL pA0_1 pc0_1 p0.after) {r:wCT} (hm:wCk p0=some r):Gv Tryz.prog 101 [.pointer (some ⟨pb0,0,none⟩)] w (wCj w [.blk pb0 246 [.slice pA0_0_0_0 p0.Race.Rules.Classes.length pc0_0_0_0,jV p0.Race.Rules.Each,jV p0.Race.Rules.Laps,jV p0.Race.Rules.Spare,jV p0.Race.Rules.Loop,jV p0.Race.Rules.Unused,jV p0.Race.Start,.slice pA0_0_2 p0.Race.Teams.length pc0_0_2,.slice pA0_1 p0.after.length pc0_1]] U (fun U_ L_ v=>∃ (A01:Option Addr) (c01:Nat) (A02:Option Addr) (c02:Nat) (cs02:List Value),v=.agg #[jV r.Laps,.slice A01 r.Bibs.length c01,.slice A02 r.Times.length c02]/\L_=[.row A01 c01 3 1 (nA KL.encI r.Bibs),.row A02 c02 22 1 cs02,.blk pb0 246 [.slice pA0_0_0_0 p0.Race.Rules.Classes.length pc0_0_0_0,jV p0.Race.Rules.Each,jV p0.Race.Rules.Laps,jV p0.Race.Rules.Spare,jV p0.Race.Rules.Loop,jV p0.Race.Rules.Unused,jV p0.Race.Start,.slice pA0_0_2 p0.Race.Teams.length pc0_0_2,.slice pA0_1 p0.after.length pc0_1]]/\RlL U_ wDL r.Times cs02)):=by
 unfold wCk at hm
 refine Gv.of Tryz.func101 Z Tryz.ntmps101 Tryz.results101 Z (sR (.fx 0 (.nil) .stop) Z ?_)
 let B0:List Value:=[jV 0,.slice none 0 0,.slice none 0 0]
 refine zq (cs:=B0) Z Z Z Z Z yZ Z hS ?_
 intro W2 b3 hS4
 refine eN (zB (Zv Zt [3,3,3,3,3,1,3,3,3,3,3,3,1,3,3,2,0] (wQw (.fx 15 (.fx 16 (.nil) .stop) .stop)) (by kernel_rfl) ?_))
 have hS6:=hS4.drew
 generalize hw_W7:({ W2 with drawn:=W2.drawn + 1 }:World)=W7 at hS6 ⊢
 refine oM Z Z (oR Z (yb Z Z) (oR Z (zA Z Z Zk Z ZH) (oR Z (zA Z Z zY Z ZX) (oR Z (zA Z Z zm Z zO) (oL Z (hS6.ldB (j:=1) Z Z Z zd (v:=.slice pA0_0_0_0 p0.Race.Rules.Classes.length pc0_0_0_0) Z) (oR Z (zN Z Z zE) (oM Z Z (oR Z (yb Z Z) (oR Z (zA Z Z Zk Z ZH) (oR Z (zA Z Z zY Z ZX) (oR Z (zA Z Z zm Z zI) (oL Z (hS6.ldB (j:=1) Z Z Z zP (v:=jV p0.Race.Rules.Laps) Z) (oR Z (Runs.mulw Z Z Z) ?_)))))))))))))
 let B1:List Value:=[jV (w64 ((↑p0.Race.Rules.Classes.length:Int) * p0.Race.Rules.Laps)),.slice none 0 0,.slice none 0 0]
 refine oR Z (Zh (pv:=[(0,jV (w64 ((↑p0.Race.Rules.Classes.length:Int) * p0.Race.Rules.Laps)))]) (z:=B0) (cs:=B1) Z (wAI Z wAU) yZ wJT Z Z) (zq (cs:=B0) Z Z Z Z Z yZ Z hS6 ?_)
 intro W8 b9 hS10
 refine ZE (j:=0) (vs:=B1) Z Z Z Z hS10 Z Z Z Z yJ (zD Z) Z Z Z ?_
 intro W12 hS13
 let B2:Res:=.blk pb0 246 [.slice pA0_0_0_0 p0.Race.Rules.Classes.length pc0_0_0_0,jV p0.Race.Rules.Each,jV p0.Race.Rules.Laps,jV p0.Race.Rules.Spare,jV p0.Race.Rules.Loop,jV p0.Race.Rules.Unused,jV p0.Race.Start,.slice pA0_0_2 p0.Race.Teams.length pc0_0_2,.slice pA0_1 p0.after.length pc0_1]
 have hS14:SW w [B2] U U [.blk b9 45 B1,.blk b3 45 B0,B2] W12:=hS13
 refine eN (zB (sR fL7 Z (oM Z Z (oR Z (yb Z Z) (oR Z (zA Z Z Zk Z ZH) (oR Z (zA Z Z zY Z Zb) (oL Z (hS14.ldB (j:=2) Z Z Z Zg (v:=.slice pA0_0_2 p0.Race.Teams.length pc0_0_2) Z) (oR Z (zN Z Z zn) (oM Z Z (eN (zL ?_)))))))))))
 have q:=bnd hm
 obtain ⟨⟨y56,y57⟩,hf53,hm52⟩:=q
 try dsimp only at hm52
 have q:=wAu hf53
 obtain ⟨hle54,hf55⟩:=q
 replace hle54:=zG hle54
 refine CK.forN' (fun k51 (l42,l46) σ_ w_=>∃ (U_:PHeap) (A43:Option Addr) (c44:Nat) (A47:Option Addr) (c48:Nat) (cs50:List Value),σ_ 27=jV (↑k51:Int)/\σ_ 0=.pointer (some ⟨pb0,0,none⟩)/\σ_ 2=.pointer (some ⟨b3,0,none⟩)/\σ_ 3=.pointer (some ⟨b9,0,none⟩)/\σ_ 25=.slice pA0_0_2 p0.Race.Teams.length pc0_0_2/\σ_ 26=jV (↑p0.Race.Teams.length:Int)/\PHeap.Le U U_/\SW w [B2] U U_ [.row A43 c44 3 1 (nA KL.encI l42),.row A47 c48 22 1 cs50,.blk b9 45 [jV (w64 ((↑p0.Race.Rules.Classes.length:Int) * p0.Race.Rules.Laps)),.slice A43 l42.length c44,.slice A47 l46.length c48],.blk b3 45 B0,B2] w_/\RlL U_ wDL l46 cs50) hf55 ?_ ?_ ?_
 ·have hS58:=hS14.nilrow 3 1
  have hS60:=hS58.nilrow 22 1
  exact ⟨U,none,0,none,0,[],rfl,rfl,rfl,rfl,rfl,rfl,(zZ _),(hS60.pick [1,0,2,3,4] _ (by decide) rfl),RlL.nil⟩
 ·rintro k51 ⟨l42,l46⟩ xx64 σ62 W63 hk67 ⟨U69,A43,c44,A47,c48,cs50,fi68,f72,f73,f74,f75,f76,le70,hS71,h77⟩ hx65
  try dsimp only at hx65
  have c78:Hid ((↑k51:Int) < (↑p0.Race.Teams.length:Int)):=zG (wAy hk67)
  replace hk67:=zG hk67
  have hi79:Hid (w64 ((↑k51:Int) + 1)=(↑(k51 + 1):Int)):=zG (by have h1:=hle54.out;have h2:=c78.out;rw [wAK] <;> omega)
  refine sR fL1 Z (oR Z (zS Z fi68 f76) (eN (zB (cT Z c78 (kN (zB (zL (sR (wEK (.fx 3 (.fl 4 (.fx 5 (.nil) .stop)) .stop)) Z (oM Z fi68 (bnK hx65 fun x80 h81 hm82=>?_))))))))))
  have h83:=ha1.le le70
  have q:=h83.el (wAE h81)
  obtain ⟨b84,off85,vs88,hA86,hC87,hr89⟩:=q
  obtain ⟨pA90,pc91,pA92,pc93,rfl,h94,h95⟩:=hr89
  replace hC87:Cl U69 b84 (off85 + k51 * 3) [jV x80.Bib,.slice pA90 x80.Classes.length pc91,.slice pA92 x80.Legs.length pc93]:=hC87
  refine oR Z (zx Z f75 hA86 fi68 zn zz (wAc h81)) (oL Z (hS71.ldCA (f:=0) hC87 Z Z yD zz (us:=[jV x80.Bib,.slice pA90 x80.Classes.length pc91,.slice pA92 x80.Legs.length pc93]) Z Z) (zq (cs:=B0) Z Z Z Z Z Zi Z hS71 ?_))
  intro W96 b97 hS98
  refine oA Z Z ?_
  let B3:List Value:=[jV x80.Bib,.slice pA90 x80.Classes.length pc91,.slice pA92 x80.Legs.length pc93]
  refine ZE (j:=0) (vs:=B3) Z Z Z Z hS98 Z Z Z Z zz (zD Z) Z Z Z ?_
  intro W100 hS101
  let B4:Res:=.blk b9 45 [jV (w64 ((↑p0.Race.Rules.Classes.length:Int) * p0.Race.Rules.Laps)),.slice A43 l42.length c44,.slice A47 l46.length c48]
  let B5:Res:=.row A47 c48 22 1 cs50
  let B6:Res:=.row A43 c44 3 1 (nA KL.encI l42)
  have hS102:SW w [B2] U U69 [.blk b97 127 B3,B6,B5,B4,.blk b3 45 B0,B2] W100:=hS101
  refine eN (sR (wLY (.fx 4 (.fx 5 (.fl 6 (.fx 7 (.nil) .stop)) .stop) .stop)) Z (oR Z (zA Z f74 yM Z zO) (oL Z (hS102.ldB (j:=3) Z Z Z zd (v:=.slice A43 l42.length c44) Z) (oR Z (zA Z Z zl Z zI) (oL Z (hS102.ldB (j:=0) Z Z Z zP (v:=jV x80.Bib) Z) (ZP (pv:=[(0,jV x80.Bib)]) (zs:=[jV 0]) (cs:=[jV x80.Bib]) Z Z Z Z Z (wAI Z wAU) zE zI Zu Z Z Z Z Z hS102 ?_))))))
  intro W103 b104 hS105
  let B7:Res:=.row (some ⟨b104,0,none⟩) 1 3 1 (nA KL.encI [x80.Bib])
  have hS107:SW w [B2] U U69 [B7,.blk b97 127 B3,B6,B5,B4,.blk b3 45 B0,B2] W103:=hS105
  refine bnK hm82 fun x108 h109 hm110=>yC (j:=2) (enc:=KL.encI) (xs:=l42) (ys:=[x80.Bib]) (zs:=x108) rfl rfl rfl rfl rfl Zf wEm rfl rfl rfl rfl rfl rfl hS107 rfl rfl rfl (hS107.srcR (j:=0) rfl (by decide) (wAN (f:=KL.encI) (sz:=1) (fun _=>rfl) [x80.Bib])) (fun _=>rfl) (fun _=>rfl) h109 rfl ?_
  intro A111 c112 W113 hS114
  let B8:Res:=.row A111 c112 3 1 (nA KL.encI x108)
  have hS115:SW w [B2] U U69 [B7,.blk b97 127 B3,B8,B5,B4,.blk b3 45 B0,B2] W113:=hS114
  refine oR Z (zA Z f74 yM Z zO) (ZE (j:=4) (vs:=[.slice A111 x108.length c112]) Z Z Z Z hS115 Z Z Z Z zO (zD Z) Z Z Z ?_)
  intro W116 hS117
  let B9:Res:=.blk b9 45 [jV (w64 ((↑p0.Race.Rules.Classes.length:Int) * p0.Race.Rules.Laps)),.slice A111 x108.length c112,.slice A47 l46.length c48]
  have hS118:SW w [B2] U U69 [B7,.blk b97 127 B3,B8,B5,B9,.blk b3 45 B0,B2] W116:=hS117
  refine eN (Zv Zt [3,1,3,3,3,1,3,3,1,2,2,0,3,0] (wQU (.fx 9 (.fx 10 (.fx 11 (.fl 12 (.fx 13 (.nil) .stop)) .stop) .stop) .stop)) (by kernel_rfl) ?_)
  have hS119:=hS118.drew
  generalize hw_W120:({ W116 with drawn:=W116.drawn + 1 }:World)=W120 at hS119 ⊢
  refine oR Z (zA Z f74 yM Z yE) (oL Z (hS119.ldB (j:=4) Z Z Z Tryz.isAgg39 (v:=.slice A47 l46.length c48) Z) (oM Z f72 (oR Z (yb Z Z) (oR Z (zA Z Z Zk Z yE) (oL Z (hS119.ldB (j:=6) Z Z Z Tryz.isAgg39 (v:=.slice pA0_1 p0.after.length pc0_1) Z) (oM Z Z (bnK hm110 fun x121 h122 hm123=>?_)))))))
  have h124:=ha2.le le70
  have q:=h124.el (wAE h122)
  obtain ⟨b125,off126,vs129,hA127,hC128,hr130⟩:=q
  obtain ⟨pA131,pc132,rfl,h133⟩:=hr130
  replace hC128:Cl U69 b125 (off126 + k51 * 1) [.slice pA131 x121.length pc132]:=hC128
  refine oR Z (zx Z Z hA127 Z zV zO (wAc h122)) (oL Z (hS119.ldC (f:=0) hC128 (v:=.slice pA131 x121.length pc132) Z Z zd Z) (bnK hm123 fun x134 h135 hm136=>zQ 0 Z Z Z Z (zR Z Z Tryz.call178 (zH Z ze) Z) hS119 (fun hs=>wEc x121 pA131 pc132 W120 U69 hs h133 h135) (.inr Z) ?_))
  rintro U137 L138 v139 W140 le141 hS142 ⟨A143,c144,rfl,rfl⟩
  have hS146:SW w [B2] U U137 [.row A143 c144 3 1 (nA KL.encI x134),B7,.blk b97 127 B3,B8,B5,B9,.blk b3 45 B0,B2] W140:=hS142
  have q:=hS146.freezeR (k:=0) (n:=x134.length) rfl (wAN (f:=KL.encI) (sz:=1) (fun _=>rfl) x134) (by decide)
  obtain ⟨U150,le151,hs152,hS153⟩:=q
  have hS154:SW w [B2] U U150 [B7,.blk b97 127 B3,B8,B5,B9,.blk b3 45 B0,B2] W140:=hS153
  let B10:List Value:=[.slice A143 x134.length c144]
  refine ZP (pv:=[(0,.slice A143 x134.length c144)]) (zs:=[.slice none 0 0]) (cs:=B10) Z Z Z Z Z (wAI Z wAU) zV zO yY Z Z Z Z Z hS154 ?_
  intro W147 b148 hS149
  have hr156:RlL U150 wDL [x134] B10:=(RlL.cons (R:=wDL) (x:=x134) (vs:=B10) ⟨A143,c144,rfl,hs152⟩ RlL.nil)
  let B11:Res:=.row (some ⟨b148,0,none⟩) 1 22 1 B10
  have hS157:SW w [B2] U U150 [B11,B7,.blk b97 127 B3,B8,B5,B9,.blk b3 45 B0,B2] W147:=hS149
  refine bnK hm136 fun x158 h159 hm160=>?_
  have h167:=h77.le le141
  have h168:=h167.le le151
  refine yP (R:=wDL) (j:=4) (xs:=l46) (ys:=[x134]) (zs:=x158) rfl rfl rfl rfl rfl yW wHu rfl rfl rfl rfl rfl rfl rfl hS157 rfl rfl rfl h168 hr156 (hS157.srcR (j:=0) rfl (by decide) (RlL.len hr156)) h159 rfl ?_
  intro A161 c162 cs163 W164 hS165 hr166
  have hS169:SW w [B2] U U150 [B11,B7,.blk b97 127 B3,B8,.row A161 c162 22 1 cs163,B9,.blk b3 45 B0,B2] W164:=hS165
  refine oR Z (zA Z f74 yM Z yE) (ZE (j:=5) (vs:=[.slice A161 x158.length c162]) Z Z Z Z hS169 Z Z Z Z yE (zD Z) Z Z Z ?_)
  intro W170 hS171
  have hS172:SW w [B2] U U150 [B11,B7,.blk b97 127 B3,B8,.row A161 c162 22 1 cs163,.blk b9 45 [jV (w64 ((↑p0.Race.Rules.Classes.length:Int) * p0.Race.Rules.Laps)),.slice A111 x108.length c112,.slice A161 x158.length c162],.blk b3 45 B0,B2] W170:=hS171
  refine zj (zg (zF (rR fL2 Z (oR Z (ZD (zU Z fi68 Z) (congrArg (jV) hi79.out)) (oM Z Z (zj ?_))))))
  cases hm160
  exact zF ⟨rfl,⟨U150,A111,c112,A161,c162,cs163,rfl,f72,f73,f74,f75,f76,((le70.trans le141).trans le151),(hS172.pick [3,4,5,6,7] _ (by decide) rfl),hr166⟩⟩
 ·rintro σ180 W181 ⟨U196,A191,c192,A193,c194,c195,fi183,f199,f200,f201,f202,f203,le197,hS198,h204⟩
  have c205:Hid (¬ ((↑(((↑p0.Race.Teams.length:Int):Int) - 0).toNat:Int) < (↑p0.Race.Teams.length:Int))):=zG (wAa)
  refine sR fL1 Z (oR Z (zS Z fi183 f203) (eN (zB (cF Z c205 (ZG (zW (zW (zr (zF (sR (.fl 0 (.fx 1 (.nil) .stop)) Z ?_))))))))))
  let B12:List Value:=[jV (w64 ((↑p0.Race.Rules.Classes.length:Int) * p0.Race.Rules.Laps)),.slice A191 y56.length c192,.slice A193 y57.length c194]
  refine oL Z (hS198.ldBA (j:=2) Z Z f201 Tryz.isAgg45 yJ (vs:=B12) Z Z) (ZE (j:=3) (vs:=B12) Z Z Z Z hS198 Z f200 Z Z yJ (zD Z) Z Z Z ?_)
  intro W206 hS207
  have hS208:SW w [B2] U U196 [.row A191 c192 3 1 (nA KL.encI y56),.row A193 c194 22 1 c195,.blk b9 45 B12,.blk b3 45 B12,B2] W206:=hS207
  refine eN (zM ?_)
  cases hm52
  exact ⟨rfl,_,(wFI (v:=.agg B12.toArray) ⟨⟨_,f200,(wDO Tryz.isAgg45 yJ (hS208.blkAt (k:=3) rfl) (vs:=B12) rfl rfl)⟩,trivial⟩),U196,_,(hS208.pick [0,1,4] _ (by decide) rfl),A191,c192,A193,c194,c195,rfl,rfl,h204⟩
theorem wKK (p0:wAA) (pA0_0_0:Option Addr) (pc0_0_0:Nat) (pA0_2:Option Addr) (pc0_2:Nat) (w:World) (U:PHeap) (hS:St0 w U []) (ha0:Sl U 1 pA0_0_0 pc0_0_0 p0.Rules.Classes.length (nA KL.encI p0.Rules.Classes)) (ha1:SlR U wCS pA0_2 pc0_2 p0.Teams) {r:wCT × Int} (hm:wCh p0=some r):Gv Tryz.prog 18 [.agg #[.slice pA0_0_0 p0.Rules.Classes.length pc0_0_0,jV p0.Rules.Each,jV p0.Rules.Laps,jV p0.Rules.Spare,jV p0.Rules.Loop,jV p0.Rules.Unused,jV p0.Start,.slice pA0_2 p0.Teams.length pc0_2]] w (wCj w [] U (fun U_ L_ v=>∃ (A01:Option Addr) (c01:Nat) (A02:Option Addr) (c02:Nat) (cs02:List Value),v=.tuple #[.agg #[jV r.1.Laps,.slice A01 r.1.Bibs.length c01,.slice A02 r.1.Times.length c02],jV r.2]/\L_=[.row A01 c01 3 1 (nA KL.encI r.1.Bibs),.row A02 c02 22 1 cs02]/\RlL U_ wDL r.1.Times cs02)):=by
 unfold wCh at hm
 refine Gv.of Tryz.func18 Z Tryz.ntmps18 Tryz.results18 Z (sR (.fx 0 (.fx 1 (.fl 2 (.nil)) .stop) .stop) Z ?_)
 let B0:List Value:=[.slice pA0_0_0 p0.Rules.Classes.length pc0_0_0,jV p0.Rules.Each,jV p0.Rules.Laps,jV p0.Rules.Spare,jV p0.Rules.Loop,jV p0.Rules.Unused,jV p0.Start,.slice pA0_2 p0.Teams.length pc0_2]
 refine Ze (cs:=B0) rfl rfl rfl rfl rfl rfl (by rfl) hS ?_
 intro W1 b2 hS3
 let B1:List Value:=[jV 0,.slice none 0 0,.slice none 0 0]
 refine zq (cs:=B1) Z Z Z Z Z yZ Z hS3 ?_
 intro W5 b6 hS7
 refine oA Z Z (eN (sR (.fl 0 (.fx 1 (wGo (.nil)) .stop)) Z (oL Z (hS7.ldBA (j:=1) Z Z Z Zd ZH (vs:=B0) Z Z) ?_)))
 have q:=bnd hm
 obtain ⟨⟨x9,x10⟩,h11,hm12⟩:=q
 try dsimp only at hm12
 refine zQ 0 Z Z Z Z (zR Z Z Tryz.call98 (zH Z ze) Z) hS7 (fun hs=>wEV p0 pA0_0_0 pc0_0_0 pA0_2 pc0_2 W5 U hs ha0 ha1 h11) (.inr Z) ?_
 rintro U13 L14 v15 W16 le17 hS18 hP27
 rcases x9 with _ | x28
 ·try dsimp only at hm12
  obtain ⟨rfl,rfl⟩:=hP27
  have hS29:sW w U U13 [.blk b6 45 B1,.blk b2 27 B0] W16:=hS18
  refine oM Z Z (oR Z (ZK Z Z (v:=.pointer none) Z) (oR Z (ZK Z Z (v:=jV x10) Z) (oA Z Z (oA Z Z (eN (zB (sR fL2 Z (oM Z Z (oR Z (ZV Z Z Z) (eN (ifc hm12 ?_ ?_)))))))))))
  ·intro c30 hm31
   refine zo (zw (fun h=>h c30.out)) (kN (sR (.fl 0 (.fx 1 (.fx 2 (.fl 3 (.nil)) .stop) .stop)) Z (oM Z Z ?_)))
   cases hm31
  ·intro c30 hm32
   refine cT Z c30 (sR (.fl 0 (.fl 1 (.fx 2 (.fl 3 (.nil)) .stop))) Z (oR Z (Zh (pv:=[]) (z:=B1) (cs:=B1) Z wAU yZ wJT Z Z) (oM Z Z (ZE (j:=0) (vs:=B1) Z Z Z Z hS29 Z Z Z Z yJ (zD Z) Z Z Z ?_))))
   intro W33 hS34
   have hS35:sW w U U13 [.blk b6 45 B1,.blk b2 27 B0] W33:=hS34
   refine oA Z Z (eN (zM (zC ?_)))
   have hS36:=hS35.nilrow 3 1
   have hS38:=hS36.nilrow 22 1
   cases hm32
   exact ⟨rfl,_,(wFk (rs:=[.cell 2 45,.tmp 3]) (vs:=[.agg B1.toArray,jV x10]) ⟨⟨_,rfl,(wDO Tryz.isAgg45 yJ (hS38.blkAt (k:=2) rfl) (vs:=B1) rfl rfl)⟩,⟨rfl,trivial⟩⟩ rfl),U13,_,(hS38.pick [1,0] _ (by decide) rfl),none,0,none,0,[],rfl,rfl,RlL.nil⟩
 ·try dsimp only at hm12
  obtain ⟨b19,A20,c21,A22,c23,A24,c25,c26,rfl,rfl,h42,h43,h44⟩:=hP27
  let B2:Res:=.blk b19 246 [.slice A20 x28.Race.Rules.Classes.length c21,jV x28.Race.Rules.Each,jV x28.Race.Rules.Laps,jV x28.Race.Rules.Spare,jV x28.Race.Rules.Loop,jV x28.Race.Rules.Unused,jV x28.Race.Start,.slice A22 x28.Race.Teams.length c23,.slice A24 x28.after.length c25]
  have hS45:sW w U U13 [B2,.row A24 c25 22 1 c26,.blk b6 45 B1,.blk b2 27 B0] W16:=hS18
  refine oM Z Z (oR Z (ZK Z Z (v:=.pointer (some ⟨b19,0,none⟩)) Z) (oR Z (ZK Z Z (v:=jV x10) Z) (oA Z Z (oA Z Z (eN (zB (sR fL2 Z (oM Z Z (oR Z (ZV Z Z Z) (eN (ifc hm12 ?_ ?_)))))))))))
  ·intro c46 hm47
   refine zo (zw (fun h=>h c46.out)) (kN (sR (.fl 0 (.fx 1 (.fx 2 (.fl 3 (.nil)) .stop) .stop)) Z (oM Z Z ?_)))
   have q:=hS45.freezeRR (R:=wDL) (k:=1) rfl h44 rfl (by decide)
   obtain ⟨U48,le49,hs50,hS51⟩:=q
   have hS52:sW w U U48 [B2,.blk b6 45 B1,.blk b2 27 B0] W16:=hS51
   have h53:=h42.le le49
   have h54:=h43.le le49
   refine bnK hm47 fun x55 h56 hm57=>zQ 1 Z Z Z Z (zR Z Z Tryz.call101 (zH Z ze) Z) hS52 (fun hs=>wGQ x28 b19 A20 c21 A22 c23 A24 c25 W16 U48 hs h53 h54 hs50 h56) (.inl Z) ?_
   rintro U58 L59 v60 W61 le62 hS63 ⟨A64,c65,A66,c67,c68,rfl,rfl,h71⟩
   let B3:Res:=.row A64 c65 3 1 (nA KL.encI x55.Bibs)
   have hS72:sW w U U58 [B3,.row A66 c67 22 1 c68,B2,.blk b6 45 B1,.blk b2 27 B0] W61:=hS63
   let B4:List Value:=[jV x55.Laps,.slice A64 x55.Bibs.length c65,.slice A66 x55.Times.length c67]
   refine ZE (j:=3) (vs:=B4) Z Z Z Z hS72 Z Z Z Z yJ (zD Z) Z Z Z ?_
   intro W73 hS74
   have hS75:sW w U U58 [B3,.row A66 c67 22 1 c68,B2,.blk b6 45 B4,.blk b2 27 B0] W73:=hS74
   refine oA Z Z (eN (zM ?_))
   cases hm57
   exact ⟨rfl,_,(wFk (rs:=[.cell 2 45,.tmp 3]) (vs:=[.agg B4.toArray,jV 0]) ⟨⟨_,rfl,(wDO Tryz.isAgg45 yJ (hS75.blkAt (k:=3) rfl) (vs:=B4) rfl rfl)⟩,⟨rfl,trivial⟩⟩ rfl),U58,_,(hS75.pick [0,1] _ (by decide) rfl),A64,c65,A66,c67,c68,rfl,rfl,h71⟩
  ·intro c46 hm76
   refine cT Z c46 (sR (.fl 0 (.fl 1 (.fx 2 (.fl 3 (.nil)) .stop))) Z (oR Z (Zh (pv:=[]) (z:=B1) (cs:=B1) Z wAU yZ wJT Z Z) (oM Z Z (ZE (j:=2) (vs:=B1) Z Z Z Z hS45 Z Z Z Z yJ (zD Z) Z Z Z ?_))))
   intro W77 hS78
   have hS79:sW w U U13 [B2,.row A24 c25 22 1 c26,.blk b6 45 B1,.blk b2 27 B0] W77:=hS78
   refine oA Z Z (eN (zM (zC ?_)))
   have hS80:=hS79.nilrow 3 1
   have hS82:=hS80.nilrow 22 1
   cases hm76
   exact ⟨rfl,_,(wFk (rs:=[.cell 2 45,.tmp 3]) (vs:=[.agg B1.toArray,jV x10]) ⟨⟨_,rfl,(wDO Tryz.isAgg45 yJ (hS82.blkAt (k:=4) rfl) (vs:=B1) rfl rfl)⟩,⟨rfl,trivial⟩⟩ rfl),U13,_,(hS82.pick [1,0] _ (by decide) rfl),none,0,none,0,[],rfl,rfl,RlL.nil⟩
theorem wFX (p0:wAD) (pA0_0_0:Option Addr) (pc0_0_0:Nat) (pA0_2:Option Addr) (pc0_2:Nat) (w:World) (U:PHeap) (hS:St0 w U []) (ha0:Sl U 1 pA0_0_0 pc0_0_0 p0.Rules.Classes.length (nA KL.encI p0.Rules.Classes)) (ha1:SlR U wET pA0_2 pc0_2 p0.Teams) {r:wCX × Int} (hm:wBP p0=some r):Gv Tryz.prog 19 [.agg #[.slice pA0_0_0 p0.Rules.Classes.length pc0_0_0,jV p0.Rules.Each,jV p0.Rules.Laps,jV p0.Rules.Spare,jV p0.Rules.Loop,jV p0.Rules.Unused,jV p0.Start,.slice pA0_2 p0.Teams.length pc0_2]] w (wCj w [] U (fun U_ L_ v=>∃ (A01:Option Addr) (c01:Nat) (A02:Option Addr) (c02:Nat) (cs02:List Value),v=.tuple #[.agg #[jV r.1.Laps,.slice A01 r.1.Bibs.length c01,.slice A02 r.1.Times.length c02],jV r.2]/\L_=[.row A01 c01 3 1 (nA KL.encI r.1.Bibs),.row A02 c02 22 1 cs02]/\RlL U_ wDL r.1.Times cs02)):=by
 unfold wBP at hm
 refine Gv.of Tryz.func19 Z Tryz.ntmps19 Tryz.results19 Z (sR (.fx 0 (.fx 1 (.fl 2 (.nil)) .stop) .stop) Z ?_)
 let B0:List Value:=[.slice pA0_0_0 p0.Rules.Classes.length pc0_0_0,jV p0.Rules.Each,jV p0.Rules.Laps,jV p0.Rules.Spare,jV p0.Rules.Loop,jV p0.Rules.Unused,jV p0.Start,.slice pA0_2 p0.Teams.length pc0_2]
 refine Ze (cs:=B0) rfl rfl rfl rfl rfl rfl (by rfl) hS ?_
 intro W1 b2 hS3
 let B1:List Value:=[jV 0,.slice none 0 0,.slice none 0 0]
 refine zq (cs:=B1) Z Z Z Z Z Tryz.zeroValue48 Z hS3 ?_
 intro W5 b6 hS7
 refine oA Z Z (eN (zB (sR (.fl 0 (.fx 1 (.fl 2 (.nil)) .stop)) Z (oL Z (hS7.ldBA (j:=1) Z Z Z Zy Zl (vs:=B0) Z Z) (bnK hm fun x9 h10 hm11=>zQ 0 Z Z Z Z (zR Z Z Tryz.call14 (zH Z ze) Z) hS7 (fun hs=>wCn p0 pA0_0_0 pc0_0_0 pA0_2 pc0_2 W5 U hs ha0 ha1 h10) (.inr Z) ?_)))))
 rintro U12 L13 v14 W15 le16 hS17 ⟨rfl,rfl⟩
 have hS18:sW w U U12 [.blk b6 48 B1,.blk b2 34 B0] W15:=hS17
 refine oA Z Z (eN (sR fL2 Z (oM Z Z (oR Z (ZV Z Z Z) (eN (ifc hm11 ?_ ?_))))))
 ·intro c19 hm20
  refine zo (zw (fun h=>h c19.out)) (kN (sR (wQU (.fx 9 (.fx 10 (.nil) .stop) .stop)) Z (oR Z (zA Z Z zX Z Zs) (oR Z (zA Z Z ZJ Z zO) (oL Z (hS18.ldB (j:=1) Z Z Z zd (v:=.slice pA0_0_0 p0.Rules.Classes.length pc0_0_0) Z) (oR Z (zN Z Z zE) (oR Z (zA Z Z zX Z Zs) (oR Z (zA Z Z ZJ Z zI) (oL Z (hS18.ldB (j:=1) Z Z Z zP (v:=jV p0.Rules.Laps) Z) (oR Z (Runs.mulw Z Z Z) ?_))))))))))
  let B2:List Value:=[jV (w64 ((↑p0.Rules.Classes.length:Int) * p0.Rules.Laps)),.slice none 0 0,.slice none 0 0]
  refine oR Z (Zh (pv:=[(0,jV (w64 ((↑p0.Rules.Classes.length:Int) * p0.Rules.Laps)))]) (z:=B1) (cs:=B2) Z (wAI Z wAU) Tryz.zeroValue48 wMC Z Z) (zq (cs:=B1) Z Z Z Z Z Tryz.zeroValue48 Z hS18 ?_)
  intro W21 b22 hS23
  refine ZE (j:=0) (vs:=B2) Z Z Z Z hS23 Z Z Z Z ye (zD Z) Z Z Z ?_
  intro W25 hS26
  have hS27:sW w U U12 [.blk b22 48 B2,.blk b6 48 B1,.blk b2 34 B0] W25:=hS26
  refine eN (zB (sR fL1 Z (oA Z Z (eN (zL (yV (fun (l56,l60,x65) σ_ w_=>∃ (U_:PHeap) (A57:Option Addr) (c58:Nat) (A61:Option Addr) (c62:Nat) (cs64:List Value),σ_ 1=.pointer (some ⟨b2,0,none⟩)/\σ_ 2=.pointer (some ⟨b6,0,none⟩)/\σ_ 5=.pointer (some ⟨b22,0,none⟩)/\σ_ 6=jV x65/\PHeap.Le U12 U_/\sW w U U_ [.row A57 c58 3 1 (nA KL.encI l56),.row A61 c62 22 1 cs64,.blk b22 48 [jV (w64 ((↑p0.Rules.Classes.length:Int) * p0.Rules.Laps)),.slice A57 l56.length c58,.slice A61 l60.length c62],.blk b6 48 B1,.blk b2 34 B0] w_/\RlL U_ wDL l60 cs64) hm20 ?_ ?_))))))
  ·have hS66:=hS27.nilrow 3 1
   have hS68:=hS66.nilrow 22 1
   exact ⟨U12,none,0,none,0,[],rfl,rfl,rfl,rfl,(zZ _),(hS68.pick [1,0,2,3,4] _ (by decide) rfl),RlL.nil⟩
  ·rintro ⟨l56,l60,x65⟩ xx72 σ70 W71 ⟨U77,A57,c58,A61,c62,cs64,f80,f81,f82,f83,le78,hS79,h84⟩ hx73 hb74
   try dsimp only at hx73
   refine zB (sR fL5 Z (oM Z f83 (oR Z (zA Z f80 zX Z ZR) (oL Z (hS79.ldB (j:=4) Z Z Z ZY (v:=.slice pA0_2 p0.Teams.length pc0_2) Z) (oR Z (zN Z Z zy) (oR Z (zS Z Z Z) (eN ?_)))))))
   by_cases c85:x65 < (↑p0.Teams.length:Int)
   ·have hm86:=hx73;rw [if_pos c85] at hm86;replace c85:=zG c85
    refine cT Z c85 (kN (zB (zL (sR fL1 Z (oA Z Z (eN (zB (sR fL1 Z (oA Z Z (eN (zL ?_)))))))))))
    let B3:Res:=.blk b22 48 [jV (w64 ((↑p0.Rules.Classes.length:Int) * p0.Rules.Laps)),.slice A57 l56.length c58,.slice A61 l60.length c62]
    let B4:Res:=.row A57 c58 3 1 (nA KL.encI l56)
    let B5:Res:=.row A61 c62 22 1 cs64
    refine yV (fun (l101,x105) σ_ w_=>∃ (U_:PHeap) (A102:Option Addr) (c103:Nat),σ_ 1=.pointer (some ⟨b2,0,none⟩)/\σ_ 2=.pointer (some ⟨b6,0,none⟩)/\σ_ 5=.pointer (some ⟨b22,0,none⟩)/\σ_ 6=jV x65/\σ_ 7=.slice A102 l101.length c103/\σ_ 8=jV x105/\PHeap.Le U77 U_/\sW w U U_ [B4,B5,B3,.blk b6 48 B1,.blk b2 34 B0,.row A102 c103 3 1 (nA KL.encI l101)] w_) hm86 ?_ ?_
    ·have hS106:=hS79.nilrow 3 1
     exact ⟨U77,none,0,f80,f81,f82,f83,rfl,rfl,(zZ _),(hS106.pick [1,2,3,4,5,0] _ (by decide) rfl)⟩
    ·rintro ⟨l101,x105⟩ xx110 σ108 W109 ⟨U115,A102,c103,f118,f119,f120,f121,f122,f123,le116,hS117⟩ hx111 hb112
     try dsimp only at hx111
     refine zB (sR fL9 Z (oM Z f123 (oR Z (zA Z f118 zX Z ZR) (oL Z (hS117.ldB (j:=4) Z Z Z ZY (v:=.slice pA0_2 p0.Teams.length pc0_2) Z) (oM Z f121 (bnK hx111 fun x124 h125 hm126=>?_))))))
     have h127:=ha1.le le16
     have h128:=h127.le le78
     have h129:=h128.le le116
     have q:=h129.el (wAE h125)
     obtain ⟨b130,off131,vs134,hA132,hC133,hr135⟩:=q
     obtain ⟨pA136,pc137,pA138,pc139,rfl,h140,h141⟩:=hr135
     replace hC133:Cl U115 b130 (off131 + x65.toNat * 3) [jV x124.Bib,.slice pA136 x124.Classes.length pc137,.slice pA138 x124.Legs.length pc139]:=hC133
     refine oR Z (ZQ Z Z hA132 Z zy ZU (wAx h125) (wBE h125)) (oR Z (zA Z Z zk Z ZT) (oL Z (hS117.ldC (f:=2) hC133 (v:=.slice pA138 x124.Legs.length pc139) Z Z Zc Z) (oR Z (zN Z Z ZF) (oR Z (zS Z Z Z) (eN (ifc hm126 ?_ ?_))))))
     ·intro c142 hm143
      refine cT Z c142 (kN (zB (zL (sR fL1 Z (oA Z Z (eN (zL (yV (fun (l156,x159) σ_ w_=>∃ (U_:PHeap) (A157:Option Addr) (c158:Nat),σ_ 1=.pointer (some ⟨b2,0,none⟩)/\σ_ 2=.pointer (some ⟨b6,0,none⟩)/\σ_ 5=.pointer (some ⟨b22,0,none⟩)/\σ_ 6=jV x65/\σ_ 7=.slice A157 l156.length c158/\σ_ 8=jV x105/\σ_ 9=jV x159/\PHeap.Le U115 U_/\sW w U U_ [B4,B5,B3,.blk b6 48 B1,.blk b2 34 B0,.row A157 c158 3 1 (nA KL.encI l156)] w_) hm143 ?_ ?_))))))))
      ·exact ⟨U115,A102,c103,f118,f119,f120,f121,f122,f123,Z,(zZ _),hS117⟩
      ·rintro ⟨l156,x159⟩ xx162 σ160 W161 ⟨U167,A157,c158,f170,f171,f172,f173,f174,f175,f176,le168,hS169⟩ hx163 hb164
       try dsimp only at hx163
       refine zB (sR fL13 Z (oM Z f176 (oR Z (zA Z f170 zX Z ZR) (oL Z (hS169.ldB (j:=4) Z Z Z ZY (v:=.slice pA0_2 p0.Teams.length pc0_2) Z) (oM Z f173 ?_)))))
       have h177:=h129.le le168
       have q:=h177.el (wAE h125)
       obtain ⟨b178,off179,vs182,hA180,hC181,hr183⟩:=q
       obtain ⟨pA184,pc185,pA186,pc187,rfl,h188,h189⟩:=hr183
       replace hC181:Cl U167 b178 (off179 + x65.toNat * 3) [jV x124.Bib,.slice pA184 x124.Classes.length pc185,.slice pA186 x124.Legs.length pc187]:=hC181
       refine oR Z (ZQ Z Z hA180 Z zy ZU (wAx h125) (wBE h125)) (oR Z (zA Z Z zk Z ZT) (oL Z (hS169.ldC (f:=2) hC181 (v:=.slice pA186 x124.Legs.length pc187) Z Z Zc Z) (oM Z f175 (bnK hx163 fun x190 h191 hm192=>?_))))
       have q:=h189.el (wAE h191)
       obtain ⟨b193,off194,vs197,hA195,hC196,hr198⟩:=q
       obtain ⟨pA199,pc200,pA201,pc202,rfl,h203,h204⟩:=hr198
       replace hC196:Cl U167 b193 (off194 + x105.toNat * 3) [jV x190.Skier,.slice pA199 x190.Loops.length pc200,.slice pA201 x190.Bouts.length pc202]:=hC196
       refine oR Z (ZQ Z Z hA195 Z ZF Zp (wAx h191) (wBE h191)) (oR Z (zA Z Z ZS Z zO) (oL Z (hS169.ldC (f:=1) hC196 (v:=.slice pA199 x190.Loops.length pc200) Z Z zd Z) (oR Z (zN Z Z zE) (oR Z (Runs.leq Z Z Z) (eN (ifc hm192 ?_ ?_))))))
       ·intro c205 hm206
        refine cT Z c205 (kN (zB (zL (rR (wIQ (.fx 5 (.fx 6 (.fx 7 (.fl 8 (.nil)) .stop) .stop) .stop)) Z (oM Z f174 (oL Z (hS169.ldBA (j:=4) Z Z f170 Zy Zl (vs:=B0) Z Z) (oM Z f173 (oM Z f175 (oM Z f176 ?_)))))))))
        have h207:=ha0.le le16
        have h208:=h207.le le78
        have h209:=h208.le le116
        have h210:=h209.le le168
        refine bnK hm206 fun x211 h212 hm213=>zQ 0 Z Z Z Z (zR Z Z Tryz.call100 (zH Z (zH Z (zH Z (zH Z ze)))) Z) hS169 (fun hs=>wDU p0 pA0_0_0 pc0_0_0 pA0_2 pc0_2 x65 x105 x159 W161 U167 hs h210 h177 h212) (.inr Z) ?_
        rintro U214 L215 v216 W217 le218 hS219 ⟨rfl,rfl⟩
        let B6:Res:=.row A157 c158 3 1 (nA KL.encI l156)
        have hS220:sW w U U214 [B4,B5,B3,.blk b6 48 B1,.blk b2 34 B0,B6] W217:=hS219
        refine ZP (pv:=[(0,jV x211)]) (zs:=[jV 0]) (cs:=[jV x211]) Z Z Z Z Z (wAI Z wAU) zE zI Zu Z Z Z Z Z hS220 ?_
        intro W221 b222 hS223
        let B7:Res:=.row (some ⟨b222,0,none⟩) 1 3 1 (nA KL.encI [x211])
        have hS225:sW w U U214 [B7,B4,B5,B3,.blk b6 48 B1,.blk b2 34 B0,B6] W221:=hS223
        refine bnK hm213 fun x226 h227 hm228=>yC (j:=6) (enc:=KL.encI) (xs:=l156) (ys:=[x211]) (zs:=x226) rfl rfl rfl rfl rfl Zf wEm rfl rfl rfl rfl rfl rfl hS225 rfl rfl rfl (hS225.srcR (j:=0) rfl (by decide) (wAN (f:=KL.encI) (sz:=1) (fun _=>rfl) [x211])) (fun _=>rfl) (fun _=>rfl) h227 rfl ?_
        intro A229 c230 W231 hS232
        have hS233:sW w U U214 [B7,B4,B5,B3,.blk b6 48 B1,.blk b2 34 B0,.row A229 c230 3 1 (nA KL.encI x226)] W231:=hS232
        refine oA Z Z (zj (zg (zF (rR fL3 Z (oM Z f176 (oR Z (zU Z Z Z) (oA Z Z (zj ?_))))))))
        obtain rfl:=nB hm228
        exact zF ⟨rfl,_,rfl,⟨U214,A229,c230,f170,f171,f172,f173,rfl,f175,rfl,(le168.trans le218),(hS233.pick [1,2,3,4,5,6] _ (by decide) rfl)⟩⟩
       ·intro c205 hm238
        refine cF Z c205 (ZG (zW ?_))
        have q:=wAF hm238
        obtain ⟨v239,hm240,e241⟩:=q
        obtain rfl:=hb164 v239 e241
        refine zW (zr (zg (zF (rR fL3 Z (oM Z f175 (oR Z (zU Z Z Z) (oA Z Z (zj ?_))))))))
        obtain rfl:=nB hm240
        exact zF ⟨Z,_,Z,⟨U167,A157,c158,f170,f171,f172,f173,f174,Z,(le116.trans le168),hS169⟩⟩
     ·intro c142 hm246
      refine cF Z c142 (ZG (zW ?_))
      have q:=wAF hm246
      obtain ⟨v247,hm248,e249⟩:=q
      obtain rfl:=hb112 v247 e249
      refine zW (zr (zF (zB (Zv Zt [3,1,3,1,3,3,3,1,2,0,3,0] (wSO (.fx 8 (.fx 9 (.fl 10 (.fx 11 (.nil) .stop)) .stop) .stop)) (by kernel_rfl) ?_))))
      have hS250:=hS117.drew
      generalize hw_W251:({ W109 with drawn:=W109.drawn + 1 }:World)=W251 at hS250 ⊢
      refine oR Z (zA Z f120 yN Z zO) (oL Z (hS250.ldB (j:=2) Z Z Z zd (v:=.slice A57 l56.length c58) Z) (oR Z (zA Z f118 zX Z ZR) (oL Z (hS250.ldB (j:=4) Z Z Z ZY (v:=.slice pA0_2 p0.Teams.length pc0_2) Z) (oM Z f121 ?_))))
      have q:=h129.el (wAE h125)
      obtain ⟨b252,off253,vs256,hA254,hC255,hr257⟩:=q
      obtain ⟨pA258,pc259,pA260,pc261,rfl,h262,h263⟩:=hr257
      replace hC255:Cl U115 b252 (off253 + x65.toNat * 3) [jV x124.Bib,.slice pA258 x124.Classes.length pc259,.slice pA260 x124.Legs.length pc261]:=hC255
      refine oR Z (ZQ Z Z hA254 Z zy ZU (wAx h125) (wBE h125)) (oR Z (zA Z Z zk Z zI) (oL Z (hS250.ldC (f:=0) hC255 (v:=jV x124.Bib) Z Z zP Z) (ZP (pv:=[(0,jV x124.Bib)]) (zs:=[jV 0]) (cs:=[jV x124.Bib]) Z Z Z Z Z (wAI Z wAU) zE zI Zu Z Z Z Z Z hS250 ?_)))
      intro W264 b265 hS266
      let B8:Res:=.row (some ⟨b265,0,none⟩) 1 3 1 (nA KL.encI [x124.Bib])
      let B9:Res:=.row A102 c103 3 1 (nA KL.encI l101)
      have hS268:sW w U U115 [B8,B4,B5,B3,.blk b6 48 B1,.blk b2 34 B0,B9] W264:=hS266
      refine bnK hm248 fun x269 h270 hm271=>yC (j:=1) (enc:=KL.encI) (xs:=l56) (ys:=[x124.Bib]) (zs:=x269) rfl rfl rfl rfl rfl Zf wEm rfl rfl rfl rfl rfl rfl hS268 rfl rfl rfl (hS268.srcR (j:=0) rfl (by decide) (wAN (f:=KL.encI) (sz:=1) (fun _=>rfl) [x124.Bib])) (fun _=>rfl) (fun _=>rfl) h270 rfl ?_
      intro A272 c273 W274 hS275
      let B10:Res:=.row A272 c273 3 1 (nA KL.encI x269)
      have hS276:sW w U U115 [B8,B10,B5,B3,.blk b6 48 B1,.blk b2 34 B0,B9] W274:=hS275
      refine oR Z (zA Z f120 yN Z zO) (ZE (j:=3) (vs:=[.slice A272 x269.length c273]) Z Z Z Z hS276 Z Z Z Z zO (zD Z) Z Z Z ?_)
      intro W277 hS278
      let B11:Res:=.blk b22 48 [jV (w64 ((↑p0.Rules.Classes.length:Int) * p0.Rules.Laps)),.slice A272 x269.length c273,.slice A61 l60.length c62]
      have hS279:sW w U U115 [B8,B10,B5,B11,.blk b6 48 B1,.blk b2 34 B0,B9] W277:=hS278
      refine eN (rR (wEK (.fx 3 (.fx 4 (.fl 5 (.fx 6 (.nil) .stop)) .stop) .stop)) Z (oR Z (zA Z f120 yN Z yE) (oL Z (hS279.ldB (j:=3) Z Z Z Tryz.isAgg39 (v:=.slice A61 l60.length c62) Z) (oM Z f122 ?_))))
      have q:=hS279.freezeR (k:=6) (n:=l101.length) rfl (wAN (f:=KL.encI) (sz:=1) (fun _=>rfl) l101) (by decide)
      obtain ⟨U283,le284,hs285,hS286⟩:=q
      have hS287:sW w U U283 [B8,B10,B5,B11,.blk b6 48 B1,.blk b2 34 B0] W277:=hS286
      let B12:List Value:=[.slice A102 l101.length c103]
      refine ZP (pv:=[(0,.slice A102 l101.length c103)]) (zs:=[.slice none 0 0]) (cs:=B12) Z Z Z Z Z (wAI Z wAU) zV zO yY Z Z Z Z Z hS287 ?_
      intro W280 b281 hS282
      have hr289:RlL U283 wDL [l101] B12:=(RlL.cons (R:=wDL) (x:=l101) (vs:=B12) ⟨A102,c103,rfl,hs285⟩ RlL.nil)
      let B13:Res:=.row (some ⟨b281,0,none⟩) 1 22 1 B12
      have hS290:sW w U U283 [B13,B8,B10,B5,B11,.blk b6 48 B1,.blk b2 34 B0] W280:=hS282
      refine bnK hm271 fun x291 h292 hm293=>?_
      have h300:=h84.le le116
      have h301:=h300.le le284
      refine yP (R:=wDL) (j:=3) (xs:=l60) (ys:=[l101]) (zs:=x291) rfl rfl rfl rfl rfl yW wHu rfl rfl rfl rfl rfl rfl rfl hS290 rfl rfl rfl h301 hr289 (hS290.srcR (j:=0) rfl (by decide) (RlL.len hr289)) h292 rfl ?_
      intro A294 c295 cs296 W297 hS298 hr299
      have hS302:sW w U U283 [B13,B8,B10,.row A294 c295 22 1 cs296,B11,.blk b6 48 B1,.blk b2 34 B0] W297:=hS298
      refine oR Z (zA Z f120 yN Z yE) (ZE (j:=4) (vs:=[.slice A294 x291.length c295]) Z Z Z Z hS302 Z Z Z Z yE (zD Z) Z Z Z ?_)
      intro W303 hS304
      have hS305:sW w U U283 [B13,B8,B10,.row A294 c295 22 1 cs296,.blk b22 48 [jV (w64 ((↑p0.Rules.Classes.length:Int) * p0.Rules.Laps)),.slice A272 x269.length c273,.slice A294 x291.length c295],.blk b6 48 B1,.blk b2 34 B0] W303:=hS304
      refine zj (zg (zF (rR fL3 Z (oM Z f121 (oR Z (zU Z Z Z) (oA Z Z (zj ?_)))))))
      obtain rfl:=nB hm293
      exact zF ⟨rfl,_,rfl,⟨U283,A272,c273,A294,c295,cs296,f118,f119,f120,rfl,((le78.trans le116).trans le284),(hS305.pick [2,3,4,5,6] _ (by decide) rfl),hr299⟩⟩
   ·have hm314:=hx73;rw [if_neg c85] at hm314;replace c85:=zG c85
    refine cF Z c85 (ZG (zW ?_))
    have q:=wAF hm314
    obtain ⟨v315,hm316,e317⟩:=q
    obtain rfl:=hb74 v315 e317
    refine zW (zr (zF (sR (.fl 0 (.fx 1 (.fl 2 (.nil)) .stop)) Z ?_)))
    let B14:List Value:=[jV (w64 ((↑p0.Rules.Classes.length:Int) * p0.Rules.Laps)),.slice A57 l56.length c58,.slice A61 l60.length c62]
    refine oL Z (hS79.ldBA (j:=2) Z Z f82 Tryz.isAgg48 ye (vs:=B14) Z Z) (ZE (j:=3) (vs:=B14) Z Z Z Z hS79 Z f81 Z Z ye (zD Z) Z Z Z ?_)
    intro W318 hS319
    have hS320:sW w U U77 [.row A57 c58 3 1 (nA KL.encI l56),.row A61 c62 22 1 cs64,.blk b22 48 B14,.blk b6 48 B14,.blk b2 34 B0] W318:=hS319
    refine oA Z Z (eN (zM ?_))
    cases hm316
    exact ⟨rfl,_,(wFk (rs:=[.cell 2 48,.tmp 3]) (vs:=[.agg B14.toArray,jV 0]) ⟨⟨_,f81,(wDO Tryz.isAgg48 ye (hS320.blkAt (k:=3) rfl) (vs:=B14) rfl rfl)⟩,⟨rfl,trivial⟩⟩ rfl),U77,_,(hS320.pick [0,1] _ (by decide) rfl),A57,c58,A61,c62,cs64,rfl,rfl,h84⟩
 ·intro c19 hm321
  refine cT Z c19 (sR (.fl 0 (.fl 1 (.fx 2 (.fl 3 (.nil)) .stop))) Z (oR Z (Zh (pv:=[]) (z:=B1) (cs:=B1) Z wAU Tryz.zeroValue48 wMC Z Z) (oM Z Z (ZE (j:=0) (vs:=B1) Z Z Z Z hS18 Z Z Z Z ye (zD Z) Z Z Z ?_))))
  intro W322 hS323
  have hS324:sW w U U12 [.blk b6 48 B1,.blk b2 34 B0] W322:=hS323
  refine oA Z Z (eN (zM (zC ?_)))
  have hS325:=hS324.nilrow 3 1
  have hS327:=hS325.nilrow 22 1
  cases hm321
  exact ⟨rfl,_,(wFk (rs:=[.cell 2 48,.tmp 3]) (vs:=[.agg B1.toArray,jV x9]) ⟨⟨_,rfl,(wDO Tryz.isAgg48 ye (hS327.blkAt (k:=2) rfl) (vs:=B1) rfl rfl)⟩,⟨rfl,trivial⟩⟩ rfl),U12,_,(hS327.pick [1,0] _ (by decide) rfl),none,0,none,0,[],rfl,rfl,RlL.nil⟩
end Go.Proofs.YthbficbpebiekaaGreat
namespace Go.Proofs.YthbficbpebiekaaGreat
open Go.KL
set_option maxHeartbeats 4000000
theorem wGe (p0:wAA) (pA0_0_0:Option Addr) (pc0_0_0:Nat) (pA0_2:Option Addr) (pc0_2:Nat) (w:World) (U:PHeap) (hS:St0 w U []) (ha0:Sl U 1 pA0_0_0 pc0_0_0 p0.Rules.Classes.length (nA KL.encI p0.Rules.Classes)) (ha1:SlR U wCS pA0_2 pc0_2 p0.Teams) {r:(List (List Int)) × Int} (hm:wCV p0=some r):Gv Tryz.prog 21 [.agg #[.slice pA0_0_0 p0.Rules.Classes.length pc0_0_0,jV p0.Rules.Each,jV p0.Rules.Laps,jV p0.Rules.Spare,jV p0.Rules.Loop,jV p0.Rules.Unused,jV p0.Start,.slice pA0_2 p0.Teams.length pc0_2]] w (wCj w [] U (fun U_ L_ v=>∃ (A0:Option Addr) (c0:Nat) (cs0:List Value),v=.tuple #[.slice A0 r.1.length c0,jV r.2]/\L_=[.row A0 c0 22 1 cs0]/\RlL U_ wDL r.1 cs0)):=by
 unfold wCV at hm
 refine Gv.of Tryz.func21 Z Tryz.ntmps21 Tryz.results21 Z (sR (.fx 0 (.fl 1 (.fl 2 (.nil))) .stop) Z ?_)
 let B0:List Value:=[.slice pA0_0_0 p0.Rules.Classes.length pc0_0_0,jV p0.Rules.Each,jV p0.Rules.Laps,jV p0.Rules.Spare,jV p0.Rules.Loop,jV p0.Rules.Unused,jV p0.Start,.slice pA0_2 p0.Teams.length pc0_2]
 refine Ze (cs:=B0) rfl rfl rfl rfl rfl rfl (by rfl) hS ?_
 intro W1 b2 hS3
 refine oA Z Z (oA Z Z (eN (sR (.fl 0 (.fx 1 (wGo (.nil)) .stop)) Z (oL Z (hS3.ldBA (j:=0) Z Z Z Zd ZH (vs:=B0) Z Z) ?_))))
 have q:=bnd hm
 obtain ⟨⟨x5,x6⟩,h7,hm8⟩:=q
 try dsimp only at hm8
 refine zQ 0 Z Z Z Z (zR Z Z Tryz.call98 (zH Z ze) Z) hS3 (fun hs=>wEV p0 pA0_0_0 pc0_0_0 pA0_2 pc0_2 W1 U hs ha0 ha1 h7) (.inr Z) ?_
 rintro U9 L10 v11 W12 le13 hS14 hP23
 rcases x5 with _ | x24
 ·try dsimp only at hm8
  obtain ⟨rfl,rfl⟩:=hP23
  have hS25:sW w U U9 [.blk b2 27 B0] W12:=hS14
  refine oM Z Z (oR Z (ZK Z Z (v:=.pointer none) Z) (oR Z (ZK Z Z (v:=jV x6) Z) (oA Z Z (oA Z Z (eN (zB (sR fL2 Z (oM Z Z (oR Z (ZV Z Z Z) (eN (ifc hm8 ?_ ?_)))))))))))
  ·intro c26 hm27
   refine zo (zw (fun h=>h c26.out)) (kN (sR fL1 Z (oA Z Z (eN (zB (sR fL4 Z (oR Z (zA Z Z zY Z Zb) (oL Z (hS25.ldB (j:=0) Z Z Z Zg (v:=.slice pA0_2 p0.Teams.length pc0_2) Z) (oR Z (zN Z Z zn) (oM Z Z (eN (zL ?_))))))))))))
   have q:=bnd hm27
   obtain ⟨⟨⟩,hf31,hm30⟩:=q
   try dsimp only at hm30
   have q:=wAu hf31
   obtain ⟨hle32,hf33⟩:=q
   replace hle32:=zG hle32
   refine CK.forN' (fun k29 _ σ_ w_=>∃ (U_:PHeap),σ_ 23=jV (↑k29:Int)/\σ_ 1=.pointer (some ⟨b2,0,none⟩)/\σ_ 4=.pointer none/\σ_ 6=.slice none 0 0/\σ_ 22=jV (↑p0.Teams.length:Int)/\PHeap.Le U9 U_/\sW w U U_ [.blk b2 27 B0] w_) hf33 ?_ ?_ ?_
   ·exact ⟨U9,Z,Z,Z,Z,Z,(zZ _),hS25⟩
   ·rintro k29 ⟨⟩ xx36 σ34 W35 hk39 ⟨U41,fi40,f44,f45,f46,f47,le42,hS43⟩ hx37
    try dsimp only at hx37
    have c48:Hid ((↑k29:Int) < (↑p0.Teams.length:Int)):=zG (wAy hk39)
    replace hk39:=zG hk39
    have hi49:Hid (w64 ((↑k29:Int) + 1)=(↑(k29 + 1):Int)):=zG (by have h1:=hle32.out;have h2:=c48.out;rw [wAK] <;> omega)
    refine sR fL1 Z (oR Z (zS Z fi40 f47) (eN (zB (cT Z c48 (kN (zB (zL (sR fL2 Z (oM Z fi40 (oA Z Z (eN (sR fL3 Z (oR Z (zA Z f44 zY Z zI) (oL Z (hS43.ldB (j:=0) Z Z Z zP (v:=jV p0.Start) Z) (oA Z Z (eN (sR fL1 Z (oA Z Z (eN (zB (sR (.fl 0 (.fl 1 (.fx 2 (.fl 3 (.fl 4 (.nil))) .stop))) Z (oM Z f45 (oM Z Z ?_)))))))))))))))))))))))
    cases hx37
   ·rintro σ50 W51 ⟨U54,fi53,f57,f58,f59,f60,le55,hS56⟩
    have c61:Hid (¬ ((↑(((↑p0.Teams.length:Int):Int) - 0).toNat:Int) < (↑p0.Teams.length:Int))):=zG (wAa)
    refine sR fL1 Z (oR Z (zS Z fi53 f60) (eN (zB (cF Z c61 (ZG (zW (zW (zr (zF (sR fL3 Z (oM Z f59 (oA Z Z (oA Z Z (eN (zM ?_)))))))))))))))
    have hS62:=hS56.nilrow 22 1
    cases hm30
    exact ⟨rfl,_,(wIc rfl rfl),U54,_,(hS62.pick [0] _ (by decide) rfl),none,0,[],rfl,rfl,RlL.nil⟩
  ·intro c26 hm64
   refine cT Z c26 (sR fL3 Z (oM Z Z (oA Z Z (oA Z Z (eN (zM (zC ?_)))))))
   have hS65:=hS25.nilrow 22 1
   cases hm64
   exact ⟨rfl,_,(wIc rfl rfl),U9,_,(hS65.pick [0] _ (by decide) rfl),none,0,[],rfl,rfl,RlL.nil⟩
 ·try dsimp only at hm8
  obtain ⟨b15,A16,c17,A18,c19,A20,c21,c22,rfl,rfl,h69,h70,h71⟩:=hP23
  let B1:Res:=.blk b15 246 [.slice A16 x24.Race.Rules.Classes.length c17,jV x24.Race.Rules.Each,jV x24.Race.Rules.Laps,jV x24.Race.Rules.Spare,jV x24.Race.Rules.Loop,jV x24.Race.Rules.Unused,jV x24.Race.Start,.slice A18 x24.Race.Teams.length c19,.slice A20 x24.after.length c21]
  have hS72:sW w U U9 [B1,.row A20 c21 22 1 c22,.blk b2 27 B0] W12:=hS14
  refine oM Z Z (oR Z (ZK Z Z (v:=.pointer (some ⟨b15,0,none⟩)) Z) (oR Z (ZK Z Z (v:=jV x6) Z) (oA Z Z (oA Z Z (eN (zB (sR fL2 Z (oM Z Z (oR Z (ZV Z Z Z) (eN (ifc hm8 ?_ ?_)))))))))))
  ·intro c73 hm74
   refine zo (zw (fun h=>h c73.out)) (kN (sR fL1 Z (oA Z Z (eN (zB (sR fL4 Z (oR Z (zA Z Z zY Z Zb) (oL Z (hS72.ldB (j:=2) Z Z Z Zg (v:=.slice pA0_2 p0.Teams.length pc0_2) Z) (oR Z (zN Z Z zn) (oM Z Z (eN (zL ?_))))))))))))
   have q:=hS72.freezeRR (R:=wDL) (k:=1) rfl h71 rfl (by decide)
   obtain ⟨U76,le77,hs78,hS79⟩:=q
   have hS80:sW w U U76 [B1,.blk b2 27 B0] W12:=hS79
   refine bnK hm74 fun y107 hf104 hm103=>?_
   have q:=wAu hf104
   obtain ⟨hle105,hf106⟩:=q
   replace hle105:=zG hle105
   refine CK.forN' (fun k102 l97 σ_ w_=>∃ (U_:PHeap) (A98:Option Addr) (c99:Nat) (cs101:List Value),σ_ 23=jV (↑k102:Int)/\σ_ 1=.pointer (some ⟨b2,0,none⟩)/\σ_ 4=.pointer (some ⟨b15,0,none⟩)/\σ_ 6=.slice A98 l97.length c99/\σ_ 22=jV (↑p0.Teams.length:Int)/\PHeap.Le U76 U_/\sW w U U_ [B1,.blk b2 27 B0,.row A98 c99 22 1 cs101] w_/\RlL U_ wDL l97 cs101) hf106 ?_ ?_ ?_
   ·have hS108:=hS80.nilrow 22 1
    exact ⟨U76,none,0,[],rfl,rfl,rfl,rfl,rfl,(zZ _),(hS108.pick [1,2,0] _ (by decide) rfl),RlL.nil⟩
   ·rintro k102 l97 xx112 σ110 W111 hk115 ⟨U117,A98,c99,cs101,fi116,f120,f121,f122,f123,le118,hS119,h124⟩ hx113
    have c125:Hid ((↑k102:Int) < (↑p0.Teams.length:Int)):=zG (wAy hk115)
    replace hk115:=zG hk115
    have hi126:Hid (w64 ((↑k102:Int) + 1)=(↑(k102 + 1):Int)):=zG (by have h1:=hle105.out;have h2:=c125.out;rw [wAK] <;> omega)
    refine sR fL1 Z (oR Z (zS Z fi116 f123) (eN (zB (cT Z c125 (kN (zB (zL (sR fL2 Z (oM Z fi116 (oA Z Z (eN (sR fL3 Z (oR Z (zA Z f120 zY Z zI) (oL Z (hS119.ldB (j:=1) Z Z Z zP (v:=jV p0.Start) Z) (oA Z Z (eN (sR fL1 Z (oA Z Z (eN (zB (sR (.fl 0 (.fl 1 (.fx 2 (.fl 3 (.fl 4 (.nil))) .stop))) Z (oM Z f121 (oM Z Z ?_)))))))))))))))))))))))
    have h127:=h69.le le77
    have h128:=h127.le le118
    have h129:=h70.le le77
    have h130:=h129.le le118
    have h131:=hs78.le le118
    refine bnK hx113 fun x132 h133 hm134=>zQ 1 Z Z Z Z (zR Z Z Tryz.call99 (zH Z (zH Z ze)) Z) hS119 (fun hs=>wDo x24 b15 A16 c17 A18 c19 A20 c21 (↑k102:Int) W111 U117 hs h128 h130 h131 h133) (.inl Z) ?_
    rintro U135 L136 v137 W138 le139 hS140 ⟨A141,c142,rfl,rfl⟩
    let B2:Res:=.row A141 c142 3 1 (nA KL.encI x132)
    let B3:Res:=.row A98 c99 22 1 cs101
    have hS144:sW w U U135 [B2,B1,.blk b2 27 B0,B3] W138:=hS140
    refine oR Z (zN Z Z zE) (oM Z Z (eN (zL ?_)))
    have q:=bnd hm134
    obtain ⟨⟨y171,y172⟩,hf168,hm167⟩:=q
    try dsimp only at hm167
    have q:=wAu hf168
    obtain ⟨hle169,hf170⟩:=q
    replace hle169:=zG hle169
    refine CK.forN' (fun k166 (x161,l162) σ_ w_=>∃ (U_:PHeap) (A163:Option Addr) (c164:Nat),σ_ 32=jV (↑k166:Int)/\σ_ 1=.pointer (some ⟨b2,0,none⟩)/\σ_ 4=.pointer (some ⟨b15,0,none⟩)/\σ_ 6=.slice A98 l97.length c99/\σ_ 8=jV x161/\σ_ 9=.slice A163 l162.length c164/\σ_ 22=jV (↑p0.Teams.length:Int)/\σ_ 23=jV (↑k102:Int)/\σ_ 30=.slice A141 x132.length c142/\σ_ 31=jV (↑x132.length:Int)/\PHeap.Le U135 U_/\sW w U U_ [B1,.blk b2 27 B0,B3,.row A163 c164 3 1 (nA KL.encI l162),B2] w_) hf170 ?_ ?_ ?_
    ·have hS173:=hS144.nilrow 3 1
     exact ⟨U135,none,0,rfl,f120,f121,f122,rfl,rfl,f123,fi116,rfl,rfl,(zZ _),(hS173.pick [2,3,4,0,1] _ (by decide) rfl)⟩
    ·rintro k166 ⟨x161,l162⟩ xx177 σ175 W176 hk180 ⟨U182,A163,c164,fi181,f185,f186,f187,f188,f189,f190,f191,f192,f193,le183,hS184⟩ hx178
     try dsimp only at hx178
     have c194:Hid ((↑k166:Int) < (↑x132.length:Int)):=zG (wAy hk180)
     replace hk180:=zG hk180
     have hi195:Hid (w64 ((↑k166:Int) + 1)=(↑(k166 + 1):Int)):=zG (by have h1:=hle169.out;have h2:=c194.out;rw [wAK] <;> omega)
     refine sR fL1 Z (oR Z (zS Z fi181 f193) (eN (zB (cT Z c194 (kN (zB (zL (sR fL3 Z (bnK hx178 fun _ h196 hm197=>?_)))))))))
     obtain ⟨b198,hA199⟩:=hS184.rowSome (j:=4) rfl (by rw [wAN (f:=KL.encI) (sz:=1) (fun _=>rfl) x132];have hz:=wEf h196;omega)
     refine oR Z (zx Z f192 hA199 fi181 zE zI (wEf h196)) ?_
     have hg200:=wFA (xs:=x132) (wEf h196)
     refine ZN rfl rfl rfl rfl (hS184.ldR (j:=4) rfl hA199 rfl rfl zP (wGX (sz:=1) (fun _=>rfl) _ _ 0 _ hg200 (by first | omega | rfl | simp) rfl)) rfl (OKS.ra rfl rfl rfl rfl rfl rfl (eN (sR (wLY (.fx 4 (.fx 5 (.fl 6 (.nil)) .stop) .stop)) rfl (ZM rfl rfl rfl rfl rfl f189 (ZM rfl rfl rfl rfl rfl rfl (ZM rfl rfl rfl rfl rfl f188 (zu rfl rfl rfl rfl (fun _=>Zn rfl rfl rfl) (ZP (pv:=[(0,jV (w64 ((gd x132 k166) - x161)))]) (zs:=[jV 0]) (cs:=[jV (w64 ((gd x132 k166) - x161))]) rfl rfl rfl rfl rfl (wAI rfl wAU) zE zI Zu rfl rfl rfl rfl rfl hS184 ?_))))))))
     intro W201 b202 hS203
     let B4:Res:=.row (some ⟨b202,0,none⟩) 1 3 1 (nA KL.encI [w64 ((gd x132 k166) - x161)])
     have hS205:sW w U U182 [B4,B1,.blk b2 27 B0,B3,.row A163 c164 3 1 (nA KL.encI l162),B2] W201:=hS203
     refine bnK hm197 fun x206 h207 hm208=>yC (j:=4) (enc:=KL.encI) (xs:=l162) (ys:=[w64 ((gd x132 k166) - x161)]) (zs:=x206) rfl rfl rfl rfl rfl Zf wEm rfl rfl rfl rfl rfl rfl hS205 rfl rfl rfl (hS205.srcR (j:=0) rfl (by decide) (wAN (f:=KL.encI) (sz:=1) (fun _=>rfl) [w64 ((gd x132 k166) - x161)])) (fun _=>rfl) (fun _=>rfl) h207 rfl ?_
     intro A209 c210 W211 hS212
     have hS213:sW w U U182 [B4,B1,.blk b2 27 B0,B3,.row A209 c210 3 1 (nA KL.encI x206),B2] W211:=hS212
     refine oA Z Z (eN (rR fL2 Z (oM Z Z (oA Z Z (zj (zg (zF (rR fL2 Z (oR Z (ZD (zU Z fi181 Z) (congrArg (jV) hi195.out)) (oM Z Z (zj ?_)))))))))))
     cases hm208
     exact zF ⟨rfl,⟨U182,A209,c210,rfl,f185,f186,f187,rfl,rfl,f190,f191,f192,f193,le183,(hS213.pick [1,2,3,4,5] _ (by decide) rfl)⟩⟩
    ·rintro σ218 W219 ⟨U228,A226,c227,fi221,f231,f232,f233,f234,f235,f236,f237,f238,f239,le229,hS230⟩
     have c240:Hid (¬ ((↑(((↑x132.length:Int):Int) - 0).toNat:Int) < (↑x132.length:Int))):=zG (wAa)
     refine sR fL1 Z (oR Z (zS Z fi221 f239) (eN (zB (cF Z c240 (ZG (zW (zW (zr (zF (rR (.fl 0 (.fl 1 (.fx 2 (.fx 3 (.fl 4 (.nil)) .stop) .stop))) Z (oM Z f233 (oM Z f235 ?_))))))))))))
     have q:=hS230.freezeR (k:=3) (n:=y172.length) rfl (wAN (f:=KL.encI) (sz:=1) (fun _=>rfl) y172) (by decide)
     obtain ⟨U244,le245,hs246,hS247⟩:=q
     have hS248:sW w U U244 [B1,.blk b2 27 B0,B3,B2] W219:=hS247
     let B5:List Value:=[.slice A226 y172.length c227]
     refine ZP (pv:=[(0,.slice A226 y172.length c227)]) (zs:=[.slice none 0 0]) (cs:=B5) Z Z Z Z Z (wAI Z wAU) zV zO yY Z Z Z Z Z hS248 ?_
     intro W241 b242 hS243
     have hr250:RlL U244 wDL [y172] B5:=(RlL.cons (R:=wDL) (x:=y172) (vs:=B5) ⟨A226,c227,rfl,hs246⟩ RlL.nil)
     let B6:Res:=.row (some ⟨b242,0,none⟩) 1 22 1 B5
     have hS251:sW w U U244 [B6,B1,.blk b2 27 B0,B3,B2] W241:=hS243
     refine bnK hm167 fun x252 h253 hm254=>?_
     have h261:=h124.le le139
     have h262:=h261.le le229
     have h263:=h262.le le245
     refine yP (R:=wDL) (j:=3) (xs:=l97) (ys:=[y172]) (zs:=x252) rfl rfl rfl rfl rfl yW wHu rfl rfl rfl rfl rfl rfl rfl hS251 rfl rfl rfl h263 hr250 (hS251.srcR (j:=0) rfl (by decide) (RlL.len hr250)) h253 rfl ?_
     intro A255 c256 cs257 W258 hS259 hr260
     have hS264:sW w U U244 [B6,B1,.blk b2 27 B0,.row A255 c256 22 1 cs257,B2] W258:=hS259
     refine oA Z Z (zj (zg (zF (rR fL2 Z (oR Z (ZD (zU Z f237 Z) (congrArg (jV) hi126.out)) (oM Z Z (zj ?_)))))))
     cases hm254
     exact zF ⟨rfl,⟨U244,A255,c256,cs257,rfl,f231,f232,rfl,f236,(((le118.trans le139).trans le229).trans le245),(hS264.pick [1,2,3] _ (by decide) rfl),hr260⟩⟩
   ·rintro σ269 W270 ⟨U280,A277,c278,c279,fi272,f283,f284,f285,f286,le281,hS282,h287⟩
    have c288:Hid (¬ ((↑(((↑p0.Teams.length:Int):Int) - 0).toNat:Int) < (↑p0.Teams.length:Int))):=zG (wAa)
    refine sR fL1 Z (oR Z (zS Z fi272 f286) (eN (zB (cF Z c288 (ZG (zW (zW (zr (zF (sR fL3 Z (oM Z f285 (oA Z Z (oA Z Z (eN (zM ?_)))))))))))))))
    cases hm103
    exact ⟨rfl,_,(wIc rfl rfl),U280,_,(hS282.pick [2] _ (by decide) rfl),A277,c278,c279,rfl,rfl,h287⟩
  ·intro c73 hm289
   refine cT Z c73 (sR fL3 Z (oM Z Z (oA Z Z (oA Z Z (eN (zM (zC ?_)))))))
   have hS290:=hS72.nilrow 22 1
   cases hm289
   exact ⟨rfl,_,(wIc rfl rfl),U9,_,(hS290.pick [0] _ (by decide) rfl),none,0,[],rfl,rfl,RlL.nil⟩
theorem wDc (p0:wAD) (pA0_0_0:Option Addr) (pc0_0_0:Nat) (pA0_2:Option Addr) (pc0_2:Nat) (w:World) (U:PHeap) (hS:St0 w U []) (ha0:Sl U 1 pA0_0_0 pc0_0_0 p0.Rules.Classes.length (nA KL.encI p0.Rules.Classes)) (ha1:SlR U wET pA0_2 pc0_2 p0.Teams) {r:(List (List Int)) × Int} (hm:wAp p0=some r):Gv Tryz.prog 22 [.agg #[.slice pA0_0_0 p0.Rules.Classes.length pc0_0_0,jV p0.Rules.Each,jV p0.Rules.Laps,jV p0.Rules.Spare,jV p0.Rules.Loop,jV p0.Rules.Unused,jV p0.Start,.slice pA0_2 p0.Teams.length pc0_2]] w (wCj w [] U (fun U_ L_ v=>∃ (A0:Option Addr) (c0:Nat) (cs0:List Value),v=.tuple #[.slice A0 r.1.length c0,jV r.2]/\L_=[.row A0 c0 22 1 cs0]/\RlL U_ wDL r.1 cs0)):=by
 unfold wAp at hm
 refine Gv.of Tryz.func22 Z Tryz.ntmps22 Tryz.results22 Z (sR (.fx 0 (.fl 1 (.fl 2 (.nil))) .stop) Z ?_)
 let B0:List Value:=[.slice pA0_0_0 p0.Rules.Classes.length pc0_0_0,jV p0.Rules.Each,jV p0.Rules.Laps,jV p0.Rules.Spare,jV p0.Rules.Loop,jV p0.Rules.Unused,jV p0.Start,.slice pA0_2 p0.Teams.length pc0_2]
 refine Ze (cs:=B0) rfl rfl rfl rfl rfl rfl (by rfl) hS ?_
 intro W1 b2 hS3
 refine oA Z Z (oA Z Z (eN (sR (.fl 0 (.fx 1 (wGo (.nil)) .stop)) Z (oL Z (hS3.ldBA (j:=0) Z Z Z Zy Zl (vs:=B0) Z Z) ?_))))
 have q:=bnd hm
 obtain ⟨⟨x5,x6⟩,h7,hm8⟩:=q
 try dsimp only at hm8
 refine zQ 0 Z Z Z Z (zR Z Z Tryz.call16 (zH Z ze) Z) hS3 (fun hs=>wCo p0 pA0_0_0 pc0_0_0 pA0_2 pc0_2 W1 U hs ha0 ha1 h7) (.inr Z) ?_
 rintro U9 L10 v11 W12 le13 hS14 ⟨A15,c16,c17,rfl,rfl,h19⟩
 have hS20:sW w U U9 [.row A15 c16 22 1 c17,.blk b2 34 B0] W12:=hS14
 refine oM Z Z (oR Z (ZK Z Z (v:=.slice A15 x5.length c16) Z) (oR Z (ZK Z Z (v:=jV x6) Z) (oA Z Z (oA Z Z (eN (zB (sR fL2 Z (oM Z Z (oR Z (ZV Z Z Z) (eN (ifc hm8 ?_ ?_)))))))))))
 ·intro c21 hm22
  refine zo (zw (fun h=>h c21.out)) (kN (sR fL1 Z (oA Z Z (eN (zB (sR fL1 Z (oA Z Z (eN (zL ?_)))))))))
  have q:=hS20.freezeRR (R:=wDL) (k:=0) rfl h19 rfl (by decide)
  obtain ⟨U24,le25,hs26,hS27⟩:=q
  have hS28:sW w U U24 [.blk b2 34 B0] W12:=hS27
  refine bnK hm22 fun y55 hf52 hm51=>?_
  have q:=wAu hf52
  obtain ⟨hle53,hf54⟩:=q
  replace hle53:=zG hle53
  refine CK.forN' (fun k50 l45 σ_ w_=>∃ (U_:PHeap) (A46:Option Addr) (c47:Nat) (cs49:List Value),σ_ 7=jV (↑k50:Int)/\σ_ 1=.pointer (some ⟨b2,0,none⟩)/\σ_ 4=.slice A15 x5.length c16/\σ_ 6=.slice A46 l45.length c47/\PHeap.Le U24 U_/\sW w U U_ [.blk b2 34 B0,.row A46 c47 22 1 cs49] w_/\RlL U_ wDL l45 cs49) hf54 ?_ ?_ ?_
  ·have hS56:=hS28.nilrow 22 1
   exact ⟨U24,none,0,[],rfl,rfl,rfl,rfl,(zZ _),(hS56.pick [1,0] _ (by decide) rfl),RlL.nil⟩
  ·rintro k50 l45 xx60 σ58 W59 hk63 ⟨U65,A46,c47,cs49,fi64,f68,f69,f70,le66,hS67,h71⟩ hx61
   have c72:Hid ((↑k50:Int) < (↑x5.length:Int)):=zG (wAy hk63)
   replace hk63:=zG hk63
   have hi73:Hid (w64 ((↑k50:Int) + 1)=(↑(k50 + 1):Int)):=zG (by have h1:=hle53.out;have h2:=c72.out;rw [wAK] <;> omega)
   refine zB (sR fL4 Z (oM Z fi64 (oM Z f69 (oR Z (zN Z Z zV) (oR Z (zS Z Z Z) (eN (cT Z c72 (kN (zB (zL (sR fL1 Z (oA Z Z (eN (zB (sR fL1 Z (oA Z Z (eN (zL ?_))))))))))))))))))
   let B1:Res:=.row A46 c47 22 1 cs49
   refine yV (fun (l88,x92) σ_ w_=>∃ (U_:PHeap) (A89:Option Addr) (c90:Nat),σ_ 1=.pointer (some ⟨b2,0,none⟩)/\σ_ 4=.slice A15 x5.length c16/\σ_ 6=.slice A46 l45.length c47/\σ_ 7=jV (↑k50:Int)/\σ_ 8=.slice A89 l88.length c90/\σ_ 9=jV x92/\PHeap.Le U65 U_/\sW w U U_ [.blk b2 34 B0,B1,.row A89 c90 3 1 (nA KL.encI l88)] w_) hx61 ?_ ?_
   ·have hS93:=hS67.nilrow 3 1
    exact ⟨U65,none,0,f68,f69,f70,fi64,rfl,rfl,(zZ _),(hS93.pick [1,2,0] _ (by decide) rfl)⟩
   ·rintro ⟨l88,x92⟩ xx97 σ95 W96 ⟨U102,A89,c90,f105,f106,f107,f108,f109,f110,le103,hS104⟩ hx98 hb99
    try dsimp only at hx98
    refine zB (sR fL7 Z (oM Z f110 (oM Z f106 (oM Z f108 (bnK hx98 fun x111 h112 hm113=>?_)))))
    have h114:=hs26.le le66
    have h115:=h114.le le103
    have q:=h115.el (wAE h112)
    obtain ⟨b116,off117,vs120,hA118,hC119,hr121⟩:=q
    obtain ⟨pA122,pc123,rfl,h124⟩:=hr121
    replace hC119:Cl U102 b116 (off117 + k50 * 1) [.slice pA122 x111.length pc123]:=hC119
    refine oR Z (zx Z Z hA118 Z zV zO (wAc h112)) (oL Z (hS104.ldC (f:=0) hC119 (v:=.slice pA122 x111.length pc123) Z Z zd Z) (oR Z (zN Z Z zE) (oR Z (zS Z Z Z) (eN (ifc hm113 ?_ ?_)))))
    ·intro c125 hm126
     refine cT Z c125 (kN (zB (zL (sR fL2 Z (oM Z f110 (oR Z (yI Z Z Z) (eN (ifc hm126 ?_ ?_))))))))
     ·intro c127 hm128
      refine cT Z c127 (Zv Zt [3,3,3,3,1,3,3,1,3,1,3,2,0,3] (wQv (.fx 11 (.fx 12 (.fl 13 (.nil)) .stop) .stop)) (by kernel_rfl) ?_)
      have hS129:=hS104.drew
      generalize hw_W130:({ W96 with drawn:=W96.drawn + 1 }:World)=W130 at hS129 ⊢
      refine oM Z f109 (oM Z f106 (oM Z f108 ?_))
      have q:=h115.el (wAE h112)
      obtain ⟨b131,off132,vs135,hA133,hC134,hr136⟩:=q
      obtain ⟨pA137,pc138,rfl,h139⟩:=hr136
      replace hC134:Cl U102 b131 (off132 + k50 * 1) [.slice pA137 x111.length pc138]:=hC134
      refine oR Z (zx Z Z hA133 Z zV zO (wAc h112)) (oL Z (hS129.ldC (f:=0) hC134 (v:=.slice pA137 x111.length pc138) Z Z zd Z) (oM Z f110 (bnK hm128 fun x140 h141 hm142=>?_)))
      have q:=h139.el (fun _=>rfl) (wAE h141)
      obtain ⟨b143,off144,hA145,hC146⟩:=q
      refine oR Z (ZQ Z Z hA145 Z zE zI (wAx h141) (wBE h141)) (oL Z (hS129.ldC (f:=0) hC146 (v:=jV x140) Z Z zP Z) (oR Z (zA Z f105 zX Z zI) (oL Z (hS129.ldB (j:=0) Z Z Z zP (v:=jV p0.Start) Z) (oR Z (Zn Z Z Z) (ZP (pv:=[(0,jV (w64 (x140 - p0.Start)))]) (zs:=[jV 0]) (cs:=[jV (w64 (x140 - p0.Start))]) Z Z Z Z Z (wAI Z wAU) zE zI Zu Z Z Z Z Z hS129 ?_)))))
      intro W147 b148 hS149
      let B2:Res:=.row (some ⟨b148,0,none⟩) 1 3 1 (nA KL.encI [w64 (x140 - p0.Start)])
      have hS151:sW w U U102 [B2,.blk b2 34 B0,B1,.row A89 c90 3 1 (nA KL.encI l88)] W147:=hS149
      refine bnK hm142 fun x152 h153 hm154=>yC (j:=3) (enc:=KL.encI) (xs:=l88) (ys:=[w64 (x140 - p0.Start)]) (zs:=x152) rfl rfl rfl rfl rfl Zf wEm rfl rfl rfl rfl rfl rfl hS151 rfl rfl rfl (hS151.srcR (j:=0) rfl (by decide) (wAN (f:=KL.encI) (sz:=1) (fun _=>rfl) [w64 (x140 - p0.Start)])) (fun _=>rfl) (fun _=>rfl) h153 rfl ?_
      intro A155 c156 W157 hS158
      have hS159:sW w U U102 [B2,.blk b2 34 B0,B1,.row A155 c156 3 1 (nA KL.encI x152)] W157:=hS158
      refine oA Z Z (zj (zg (zF (rR fL3 Z (oM Z f110 (oR Z (zU Z Z Z) (oA Z Z (zj ?_))))))))
      obtain rfl:=nB hm154
      exact zF ⟨rfl,_,rfl,⟨U102,A155,c156,f105,f106,f107,f108,rfl,rfl,le103,(hS159.pick [1,2,3] _ (by decide) rfl)⟩⟩
     ·intro c127 hm164
      refine cF Z c127 (Zv Zt [3,3,3,3,1,3,3,1,3,3,3,1,3,3,3,1,3,2,0,3] (wTh (.fx 17 (.fx 18 (.fl 19 (.nil)) .stop) .stop)) (by kernel_rfl) ?_)
      have hS165:=hS104.drew
      generalize hw_W166:({ W96 with drawn:=W96.drawn + 1 }:World)=W166 at hS165 ⊢
      refine oM Z f109 (oM Z f106 (oM Z f108 ?_))
      have q:=h115.el (wAE h112)
      obtain ⟨b167,off168,vs171,hA169,hC170,hr172⟩:=q
      obtain ⟨pA173,pc174,rfl,h175⟩:=hr172
      replace hC170:Cl U102 b167 (off168 + k50 * 1) [.slice pA173 x111.length pc174]:=hC170
      refine oR Z (zx Z Z hA169 Z zV zO (wAc h112)) (oL Z (hS165.ldC (f:=0) hC170 (v:=.slice pA173 x111.length pc174) Z Z zd Z) (oM Z f110 (bnK hm164 fun x176 h177 hm178=>?_)))
      have q:=h175.el (fun _=>rfl) (wAE h177)
      obtain ⟨b179,off180,hA181,hC182⟩:=q
      refine oR Z (ZQ Z Z hA181 Z zE zI (wAx h177) (wBE h177)) (oL Z (hS165.ldC (f:=0) hC182 (v:=jV x176) Z Z zP Z) (oM Z f106 (oM Z f108 ?_)))
      have q:=h115.el (wAE h112)
      obtain ⟨b183,off184,vs187,hA185,hC186,hr188⟩:=q
      obtain ⟨pA189,pc190,rfl,h191⟩:=hr188
      replace hC186:Cl U102 b183 (off184 + k50 * 1) [.slice pA189 x111.length pc190]:=hC186
      refine oR Z (zx Z Z hA185 Z zV zO (wAc h112)) (oL Z (hS165.ldC (f:=0) hC186 (v:=.slice pA189 x111.length pc190) Z Z zd Z) (oM Z f110 (oR Z (Zn Z Z Z) (bnK hm178 fun x192 h193 hm194=>?_))))
      have q:=h191.el (fun _=>rfl) (wAE h193)
      obtain ⟨b195,off196,hA197,hC198⟩:=q
      refine oR Z (ZQ Z Z hA197 Z zE zI (wAx h193) (wBE h193)) (oL Z (hS165.ldC (f:=0) hC198 (v:=jV x192) Z Z zP Z) (oR Z (Zn Z Z Z) (ZP (pv:=[(0,jV (w64 (x176 - x192)))]) (zs:=[jV 0]) (cs:=[jV (w64 (x176 - x192))]) Z Z Z Z Z (wAI Z wAU) zE zI Zu Z Z Z Z Z hS165 ?_)))
      intro W199 b200 hS201
      let B3:Res:=.row (some ⟨b200,0,none⟩) 1 3 1 (nA KL.encI [w64 (x176 - x192)])
      have hS203:sW w U U102 [B3,.blk b2 34 B0,B1,.row A89 c90 3 1 (nA KL.encI l88)] W199:=hS201
      refine bnK hm194 fun x204 h205 hm206=>yC (j:=3) (enc:=KL.encI) (xs:=l88) (ys:=[w64 (x176 - x192)]) (zs:=x204) rfl rfl rfl rfl rfl Zf wEm rfl rfl rfl rfl rfl rfl hS203 rfl rfl rfl (hS203.srcR (j:=0) rfl (by decide) (wAN (f:=KL.encI) (sz:=1) (fun _=>rfl) [w64 (x176 - x192)])) (fun _=>rfl) (fun _=>rfl) h205 rfl ?_
      intro A207 c208 W209 hS210
      have hS211:sW w U U102 [B3,.blk b2 34 B0,B1,.row A207 c208 3 1 (nA KL.encI x204)] W209:=hS210
      refine oA Z Z (zj (zg (zF (rR fL3 Z (oM Z f110 (oR Z (zU Z Z Z) (oA Z Z (zj ?_))))))))
      obtain rfl:=nB hm206
      exact zF ⟨rfl,_,rfl,⟨U102,A207,c208,f105,f106,f107,f108,rfl,rfl,le103,(hS211.pick [1,2,3] _ (by decide) rfl)⟩⟩
    ·intro c125 hm216
     refine cF Z c125 (ZG (zW ?_))
     have q:=wAF hm216
     obtain ⟨v217,hm218,e219⟩:=q
     obtain rfl:=hb99 v217 e219
     refine zW (zr (zF (rR (.fl 0 (.fl 1 (.fx 2 (.fx 3 (.fl 4 (.nil)) .stop) .stop))) Z (oM Z f107 (oM Z f109 ?_)))))
     have q:=hS104.freezeR (k:=2) (n:=l88.length) rfl (wAN (f:=KL.encI) (sz:=1) (fun _=>rfl) l88) (by decide)
     obtain ⟨U223,le224,hs225,hS226⟩:=q
     have hS227:sW w U U223 [.blk b2 34 B0,B1] W96:=hS226
     let B4:List Value:=[.slice A89 l88.length c90]
     refine ZP (pv:=[(0,.slice A89 l88.length c90)]) (zs:=[.slice none 0 0]) (cs:=B4) Z Z Z Z Z (wAI Z wAU) zV zO yY Z Z Z Z Z hS227 ?_
     intro W220 b221 hS222
     have hr229:RlL U223 wDL [l88] B4:=(RlL.cons (R:=wDL) (x:=l88) (vs:=B4) ⟨A89,c90,rfl,hs225⟩ RlL.nil)
     let B5:Res:=.row (some ⟨b221,0,none⟩) 1 22 1 B4
     have hS230:sW w U U223 [B5,.blk b2 34 B0,B1] W220:=hS222
     refine bnK hm218 fun x231 h232 hm233=>?_
     have h240:=h71.le le103
     have h241:=h240.le le224
     refine yP (R:=wDL) (j:=2) (xs:=l45) (ys:=[l88]) (zs:=x231) rfl rfl rfl rfl rfl yW wHu rfl rfl rfl rfl rfl rfl rfl hS230 rfl rfl rfl h241 hr229 (hS230.srcR (j:=0) rfl (by decide) (RlL.len hr229)) h232 rfl ?_
     intro A234 c235 cs236 W237 hS238 hr239
     have hS242:sW w U U223 [B5,.blk b2 34 B0,.row A234 c235 22 1 cs236] W237:=hS238
     refine oA Z Z (zj (zg (zF (rR fL3 Z (oM Z f108 (oR Z (ZD (zU Z Z Z) (congrArg (jV) hi73.out)) (oA Z Z (zj ?_))))))))
     cases hm233
     exact zF ⟨rfl,⟨U223,A234,c235,cs236,rfl,f105,f106,rfl,((le66.trans le103).trans le224),(hS242.pick [1,2] _ (by decide) rfl),hr239⟩⟩
  ·rintro σ247 W248 ⟨U258,A255,c256,c257,fi250,f261,f262,f263,le259,hS260,h264⟩
   have c265:Hid (¬ ((↑(((↑x5.length:Int):Int) - 0).toNat:Int) < (↑x5.length:Int))):=zG (wAa)
   refine zB (sR fL4 Z (oM Z fi250 (oM Z f262 (oR Z (zN Z Z zV) (oR Z (zS Z Z Z) (eN (cF Z c265 (ZG (zW (zW (zr (zF (sR fL3 Z (oM Z f263 (oA Z Z (oA Z Z (eN (zM ?_))))))))))))))))))
   cases hm51
   exact ⟨rfl,_,(wIc rfl rfl),U258,_,(hS260.pick [1] _ (by decide) rfl),A255,c256,c257,rfl,rfl,h264⟩
 ·intro c21 hm266
  refine cT Z c21 (sR fL3 Z (oM Z Z (oA Z Z (oA Z Z (eN (zM (zC ?_)))))))
  have hS267:=hS20.nilrow 22 1
  cases hm266
  exact ⟨rfl,_,(wIc rfl rfl),U9,_,(hS267.pick [0] _ (by decide) rfl),none,0,[],rfl,rfl,RlL.nil⟩
theorem wIX (p0:wAA) (pA0_0_0:Option Addr) (pc0_0_0:Nat) (pA0_2:Option Addr) (pc0_2:Nat) (p1:Int) (w:World) (U:PHeap) (hS:St0 w U []) (ha0:Sl U 1 pA0_0_0 pc0_0_0 p0.Rules.Classes.length (nA KL.encI p0.Rules.Classes)) (ha1:SlR U wCS pA0_2 pc0_2 p0.Teams) {r:(List Int) × Int} (hm:wBe p0 p1=some r):Gv Tryz.prog 23 [.agg #[.slice pA0_0_0 p0.Rules.Classes.length pc0_0_0,jV p0.Rules.Each,jV p0.Rules.Laps,jV p0.Rules.Spare,jV p0.Rules.Loop,jV p0.Rules.Unused,jV p0.Start,.slice pA0_2 p0.Teams.length pc0_2],jV p1] w (wCj w [] U (fun U_ L_ v=>∃ (A0:Option Addr) (c0:Nat),v=.tuple #[.slice A0 r.1.length c0,jV r.2]/\L_=[.row A0 c0 3 1 (nA KL.encI r.1)])):=by
 unfold wBe at hm
 refine Gv.of Tryz.func23 Z Tryz.ntmps23 Tryz.results23 Z (sR (.fx 0 (.fl 1 (.fl 2 (.nil))) .stop) Z ?_)
 let B0:List Value:=[.slice pA0_0_0 p0.Rules.Classes.length pc0_0_0,jV p0.Rules.Each,jV p0.Rules.Laps,jV p0.Rules.Spare,jV p0.Rules.Loop,jV p0.Rules.Unused,jV p0.Start,.slice pA0_2 p0.Teams.length pc0_2]
 refine Ze (cs:=B0) rfl rfl rfl rfl rfl rfl (by rfl) hS ?_
 intro W1 b2 hS3
 refine oA Z Z (oA Z Z (eN (sR (.fl 0 (.fx 1 (wGo (.nil)) .stop)) Z (oL Z (hS3.ldBA (j:=0) Z Z Z Zd ZH (vs:=B0) Z Z) ?_))))
 have q:=bnd hm
 obtain ⟨⟨x5,x6⟩,h7,hm8⟩:=q
 try dsimp only at hm8
 refine zQ 0 Z Z Z Z (zR Z Z Tryz.call15 (zH Z ze) Z) hS3 (fun hs=>wFx p0 pA0_0_0 pc0_0_0 pA0_2 pc0_2 W1 U hs ha0 ha1 h7) (.inr Z) ?_
 rintro U9 L10 v11 W12 le13 hS14 ⟨A15,c16,c17,rfl,rfl,h19⟩
 let B1:Res:=.row A15 c16 22 1 c17
 have hS20:sW w U U9 [B1,.blk b2 27 B0] W12:=hS14
 refine oM Z Z (oR Z (ZK Z Z (v:=.slice A15 x5.length c16) Z) (oR Z (ZK Z Z (v:=jV x6) Z) (oA Z Z (oA Z Z (eN (zB (zL (sR fL3 Z (oM Z Z (oR Z (ZV Z Z Z) (oA Z Z (eN (ifc hm8 ?_ ?_)))))))))))))
 ·intro c21 hm22
  refine zo (zw (fun h=>h c21.out)) (sR (wGH (.fx 6 (.fl 7 (.fl 8 (.nil))) .stop)) Z (oM Z Z (oR Z (zA Z Z zY Z ZX) (oR Z (zA Z Z zm Z zO) (oL Z (hS20.ldB (j:=1) Z Z Z zd (v:=.slice pA0_0_0 p0.Rules.Classes.length pc0_0_0) Z) (oR Z (zN Z Z zE) (oR Z (Zn Z Z Z) (bnK hm22 fun x23 h24 hm25=>zQ 0 Z Z Z Z (zR Z Z yQ (zH Z (zH Z (zH Z ze))) Z) hS20 (fun hs=>wCB p1 0 (w64 ((↑p0.Rules.Classes.length:Int) - 1)) W12 U9 hs h24) (.inr Z) ?_))))))))
  rintro U26 L27 v28 W29 le30 hS31 ⟨rfl,rfl⟩
  have hS32:sW w U U26 [B1,.blk b2 27 B0] W29:=hS31
  refine oR Z (Za Z Z) (oA Z Z (eN (ifc hm25 ?_ ?_)))
  ·intro c33 hm34
   refine zo (nC c33.out) (ZW (zg (zF (sR (.fl 0 (.fl 1 (.fx 2 (.fl 3 (.nil)) .stop))) Z (oM Z Z (oR Z (zN Z Z zV) (bnK hm34 fun x35 h36 hm37=>OKS.makeSlice (enc:=KL.encI) (z:=0) (v:=jV 0) Z Z Z Z Z (wLe zE) wEm Z Z Z Z Z Z h36 hS32 ?_)))))))
   intro W38 b39 hS40
   let B2:Res:=.row (some ⟨b39,0,none⟩) x35.length 3 1 (nA KL.encI x35)
   have hS42:sW w U U26 [B2,B1,.blk b2 27 B0] W38:=hS40
   refine oA Z Z (eN (zB (sR fL3 Z (oM Z Z (oR Z (zN Z Z zV) (oM Z Z (eN (zL ?_))))))))
   have h48:=h19.le le30
   have q:=hS42.freezeRR (R:=wDL) (k:=1) rfl h48 rfl (by decide)
   obtain ⟨U44,le45,hs46,hS47⟩:=q
   have hS49:sW w U U44 [B2,.blk b2 27 B0] W38:=hS47
   refine bnK hm37 fun y61 hf58 hm57=>?_
   have q:=wAu hf58
   obtain ⟨hle59,hf60⟩:=q
   replace hle59:=zG hle59
   refine CK.forN' (fun k56 l55 σ_ w_=>∃ (U_:PHeap),σ_ 36=jV (↑k56:Int)/\σ_ 1=jV p1/\σ_ 6=.slice A15 x5.length c16/\σ_ 8=.slice (some ⟨b39,0,none⟩) l55.length x35.length/\σ_ 34=.slice A15 x5.length c16/\σ_ 35=jV (↑x5.length:Int)/\PHeap.Le U44 U_/\sW w U U_ [.blk b2 27 B0,.row (some ⟨b39,0,none⟩) x35.length 3 1 (nA KL.encI l55)] w_/\l55.length=x35.length) hf60 ?_ ?_ ?_
   ·exact ⟨U44,rfl,rfl,rfl,rfl,rfl,rfl,(zZ _),(hS49.pick [1,0] _ (by decide) rfl),rfl⟩
   ·rintro k56 l55 xx64 σ62 W63 hk67 ⟨U69,fi68,f72,f73,f74,f75,f76,le70,hS71,h77⟩ hx65
    have c78:Hid ((↑k56:Int) < (↑x5.length:Int)):=zG (wAy hk67)
    replace hk67:=zG hk67
    have hi79:Hid (w64 ((↑k56:Int) + 1)=(↑(k56 + 1):Int)):=zG (by have h1:=hle59.out;have h2:=c78.out;rw [wAK] <;> omega)
    refine sR fL1 Z (oR Z (zS Z fi68 f76) (eN (zB (cT Z c78 (kN (zB (zL (sR fL5 Z (oM Z fi68 (bnK hx65 fun x80 h81 hm82=>?_))))))))))
    have h83:=hs46.le le70
    have q:=h83.el (wAE h81)
    obtain ⟨b84,off85,vs88,hA86,hC87,hr89⟩:=q
    obtain ⟨pA90,pc91,rfl,h92⟩:=hr89
    replace hC87:Cl U69 b84 (off85 + k56 * 1) [.slice pA90 x80.length pc91]:=hC87
    refine oR Z (zx Z f75 hA86 fi68 zV zO (wAc h81)) (oL Z (hS71.ldC (f:=0) hC87 (v:=.slice pA90 x80.length pc91) Z Z zd Z) (oA Z Z (oA Z Z (eN (zB (sR fL4 Z (oM Z f72 (oM Z Z (oR Z (zN Z Z zE) (oR Z (Runs.geq Z Z Z) (eN (ifc hm82 ?_ ?_))))))))))))
    ·intro c93 hm94
     refine cT Z c93 (ZG (zW (zr (zF (rR fL2 Z (oR Z (ZD (zU Z fi68 Z) (congrArg (jV) hi79.out)) (oM Z Z (zj ?_))))))))
     cases hm94
     exact zF ⟨Z,⟨U69,Z,f72,f73,f74,f75,f76,le70,hS71,h77⟩⟩
    ·intro c93 hm96
     refine cF Z c93 (kN (sR (wEK (.fx 3 (.nil) .stop)) Z (oM Z f74 (oM Z Z (bnK hm96 fun _ h97 hm98=>oR Z (zx Z Z Z Z zE zI (wEf h97)) ?_)))))
     have hg99:=wFA (xs:=l55) (wEf h97)
     refine OKS.stR (j:=1) (vs:=[jV 1]) (cs':=nA KL.encI (nK l55 k56 1)) rfl rfl rfl rfl hS71 rfl rfl rfl rfl rfl zI (by rw [wAN (f:=KL.encI) (sz:=1) (fun _=>rfl)];have hz:=wEf h97;simp only [nI,nG,nH,List.length_cons,List.length_nil];omega) rfl (wNU (sz:=1) (fo:=0) (fun _=>rfl) _ _ _ _ hg99 (by first | omega | (simp only [nI,nG,nH];omega)) (zD rfl) rfl) rfl ?_
     intro W100 hS101
     have hS102:sW w U U69 [.blk b2 27 B0,.row (some ⟨b39,0,none⟩) x35.length 3 1 (nA KL.encI (nK l55 k56 1))] W100:=hS101
     refine eN (sR fL3 Z (oM Z f73 (oR Z (zN Z Z zV) (oM Z Z (eN (zL (bnK hm98 fun y114 hf111 hm110=>?_)))))))
     have q:=wAu hf111
     obtain ⟨hle112,hf113⟩:=q
     replace hle112:=zG hle112
     refine CK.forN' (fun k109 l108 σ_ w_=>∃ (U_:PHeap),σ_ 50=jV (↑k109:Int)/\σ_ 1=jV p1/\σ_ 6=.slice A15 x5.length c16/\σ_ 8=.slice (some ⟨b39,0,none⟩) l108.length x35.length/\σ_ 9=jV (↑k56:Int)/\σ_ 10=.slice pA90 x80.length pc91/\σ_ 34=.slice A15 x5.length c16/\σ_ 35=jV (↑x5.length:Int)/\σ_ 36=jV (↑k56:Int)/\σ_ 48=.slice A15 x5.length c16/\σ_ 49=jV (↑x5.length:Int)/\PHeap.Le U69 U_/\sW w U U_ [.blk b2 27 B0,.row (some ⟨b39,0,none⟩) x35.length 3 1 (nA KL.encI l108)] w_/\l108.length=x35.length) hf113 ?_ ?_ ?_
     ·exact ⟨U69,rfl,f72,f73,(Eq.trans (b:=(.slice (some ⟨b39,0,none⟩) l55.length x35.length:Value)) (c:=(.slice (some ⟨b39,0,none⟩) ((nK l55 k56 1).length) x35.length:Value)) f74 (by simp only [nJ])),rfl,rfl,f75,f76,fi68,rfl,rfl,(zZ _),hS102,(by simp only [nJ];exact h77)⟩
     ·rintro k109 l108 xx117 σ115 W116 hk120 ⟨U122,fi121,f125,f126,f127,f128,f129,f130,f131,f132,f133,f134,le123,hS124,h135⟩ hx118
      have c136:Hid ((↑k109:Int) < (↑x5.length:Int)):=zG (wAy hk120)
      replace hk120:=zG hk120
      have hi137:Hid (w64 ((↑k109:Int) + 1)=(↑(k109 + 1):Int)):=zG (by have h1:=hle112.out;have h2:=c136.out;rw [wAK] <;> omega)
      refine sR fL1 Z (oR Z (zS Z fi121 f134) (eN (zB (cT Z c136 (kN (zB (zL (sR fL3 Z (bnK hx118 fun x138 h139 hm140=>?_)))))))))
      have h141:=h83.le le123
      have q:=h141.el (wAE h139)
      obtain ⟨b142,off143,vs146,hA144,hC145,hr147⟩:=q
      obtain ⟨pA148,pc149,rfl,h150⟩:=hr147
      replace hC145:Cl U122 b142 (off143 + k109 * 1) [.slice pA148 x138.length pc149]:=hC145
      refine zu rfl rfl rfl rfl (fun _=>zx rfl f133 hA144 fi121 zV zO (wAc h139)) (ZN rfl rfl rfl rfl (hS124.ldC (f:=0) hC145 (v:=.slice pA148 x138.length pc149) rfl rfl zd rfl) rfl (OKS.ra rfl rfl rfl rfl rfl rfl (eN (zB (Zv Zt [3,3,3,3,3,3,3,3,1,3,3,3,1,3,3] fL15 (by kernel_rfl) ?_)))))
      have hS151:=hS124.drew
      generalize hw_W152:({ W116 with drawn:=W116.drawn + 1 }:World)=W152 at hS151 ⊢
      refine oM Z f125 (oM Z Z (oR Z (zN Z Z zE) (oR Z (zS Z Z Z) (oM Z Z (ifc hm140 ?_ ?_)))))
      ·intro c153 hm154
       refine ZM Z Z Z (wT Z c153) Z Z (ZM Z Z Z (wT Z c153) Z f125 (bnK hm154 fun x155 h156 hm157=>?_))
       have q:=h150.el (fun _=>rfl) (wAE h156)
       obtain ⟨b158,off159,hA160,hC161⟩:=q
       refine rU Z (wT Z c153) (ZQ Z Z hA160 Z zE zI (wAx h156) (wBE h156)) (ZN Z Z Z (wT Z c153) (hS151.ldC (f:=0) hC161 (v:=jV x155) Z Z zP Z) Z (ZM Z Z Z (wT Z c153) Z f129 (ZM Z Z Z (wT Z c153) Z f125 (bnK hm157 fun x162 h163 hm164=>?_))))
       have h165:=h92.le le123
       have q:=h165.el (fun _=>rfl) (wAE h163)
       obtain ⟨b166,off167,hA168,hC169⟩:=q
       refine rU Z (wT Z c153) (ZQ Z Z hA168 Z zE zI (wAx h163) (wBE h163)) (ZN Z Z Z (wT Z c153) (hS151.ldC (f:=0) hC169 (v:=jV x162) Z Z zP Z) Z (rU Z (wT Z c153) (zS Z Z Z) (oR Z (zi Z (yG c153.out) Z) (eN (ifc hm164 ?_ ?_)))))
       ·intro c170 hm171
        refine cT Z c170 (rR (wGH (.fx 6 (.nil) .stop)) Z (oM Z f127 (oM Z f128 (bnK hm171 fun _ h172 hm173=>oR Z (zx Z Z Z Z zE zI (wEf h172)) ?_))))
        have hg174:=wFA (xs:=l108) (wEf h172)
        refine ZN rfl rfl rfl rfl (hS151.ldR (j:=1) rfl rfl rfl rfl zP (wGX (sz:=1) (fun _=>rfl) _ _ 0 _ hg174 (by first | omega | rfl | simp) rfl)) rfl (zu rfl rfl rfl rfl (fun _=>zU rfl rfl rfl) (zu rfl rfl rfl rfl (fun _=>zx rfl rfl rfl rfl zE zI (wEf h172)) ?_))
        have hg175:=wFA (xs:=l108) (wEf h172)
        refine OKS.stR (j:=1) (vs:=[jV (w64 ((gd l108 k56) + 1))]) (cs':=nA KL.encI (nK l108 k56 (w64 ((gd l108 k56) + 1)))) rfl rfl rfl rfl hS151 rfl rfl rfl rfl rfl zI (by rw [wAN (f:=KL.encI) (sz:=1) (fun _=>rfl)];have hz:=wEf h172;simp only [nI,nG,nH,List.length_cons,List.length_nil];omega) rfl (wNU (sz:=1) (fo:=0) (fun _=>rfl) _ _ _ _ hg175 (by first | omega | (simp only [nI,nG,nH];omega)) (zD rfl) rfl) rfl ?_
        intro W176 hS177
        have hS178:sW w U U122 [.blk b2 27 B0,.row (some ⟨b39,0,none⟩) x35.length 3 1 (nA KL.encI (nK l108 k56 (w64 ((gd l108 k56) + 1))))] W176:=hS177
        refine zj (zg (zF (rR fL2 Z (oR Z (ZD (zU Z fi121 Z) (congrArg (jV) hi137.out)) (oM Z Z (zj ?_))))))
        cases hm173
        exact zF ⟨rfl,⟨U122,rfl,f125,f126,(Eq.trans (b:=(.slice (some ⟨b39,0,none⟩) l108.length x35.length:Value)) (c:=(.slice (some ⟨b39,0,none⟩) ((nK l108 k56 (w64 ((gd l108 k56) + 1))).length) x35.length:Value)) f127 (by simp only [nJ])),f128,f129,f130,f131,f132,f133,f134,le123,hS178,(by simp only [nJ];exact h135)⟩⟩
       ·intro c170 hm180
        refine cF Z c170 (ZW (zg (zF (rR fL2 Z (oR Z (ZD (zU Z fi121 Z) (congrArg (jV) hi137.out)) (oM Z Z (zj ?_)))))))
        cases hm180
        exact zF ⟨Z,⟨U122,Z,f125,f126,f127,f128,f129,f130,f131,f132,f133,f134,le123,hS151,h135⟩⟩
      ·intro c153 hm182
       refine oF Z c153 (oF Z c153 (oF Z c153 (oF Z c153 (oF Z c153 (oF Z c153 (oF Z c153 (oF Z c153 (oF Z c153 (oR Z (zh Z (zw c153.out) Z) (eN (zo Z (ZW (zg (zF (rR fL2 Z (oR Z (ZD (zU Z fi121 Z) (congrArg (jV) hi137.out)) (oM Z Z (zj ?_))))))))))))))))))
       cases hm182
       exact zF ⟨Z,⟨U122,Z,f125,f126,f127,f128,f129,f130,f131,f132,f133,f134,le123,hS151,h135⟩⟩
     ·rintro σ184 W185 ⟨U189,fi187,f192,f193,f194,f195,f196,f197,f198,f199,f200,f201,le190,hS191,h202⟩
      have c203:Hid (¬ ((↑(((↑x5.length:Int):Int) - 0).toNat:Int) < (↑x5.length:Int))):=zG (wAa)
      refine sR fL1 Z (oR Z (zS Z fi187 f201) (eN (zB (cF Z c203 (ZG (zW (zW (zr (zg (zF (rR fL2 Z (oR Z (ZD (zU Z f199 Z) (congrArg (jV) hi79.out)) (oM Z Z (zj ?_))))))))))))))
      cases hm110
      exact zF ⟨Z,⟨U189,Z,f192,f193,f194,f197,f198,(le70.trans le190),hS191,h202⟩⟩
   ·rintro σ205 W206 ⟨U210,fi208,f213,f214,f215,f216,f217,le211,hS212,h218⟩
    have c219:Hid (¬ ((↑(((↑x5.length:Int):Int) - 0).toNat:Int) < (↑x5.length:Int))):=zG (wAa)
    refine sR fL1 Z (oR Z (zS Z fi208 f217) (eN (zB (cF Z c219 (ZG (zW (zW (zr (zF (sR fL3 Z (oM Z f215 (oA Z Z (oA Z Z (eN (zM ?_)))))))))))))))
    cases hm57
    exact ⟨rfl,_,(wIc rfl rfl),U210,_,(hS212.pick [1] _ (by decide) rfl),(some ⟨b39,0,none⟩),x35.length,rfl,rfl⟩
  ·intro c33 hm220
   refine zp (nF (c33.out)) (sR fL2 Z (oA Z Z (oA Z Z (eN (zM (zK (zC ?_)))))))
   have hS221:=hS32.nilrow 3 1
   cases hm220
   exact ⟨rfl,_,(wIc rfl rfl),U26,_,(hS221.pick [0] _ (by decide) rfl),none,0,rfl,rfl⟩
 ·intro c21 hm223
  refine cT Z c21 (sR fL3 Z (oM Z Z (oA Z Z (oA Z Z (eN (zM (zK (zC ?_))))))))
  have hS224:=hS20.nilrow 3 1
  cases hm223
  exact ⟨rfl,_,(wIc rfl rfl),U9,_,(hS224.pick [0] _ (by decide) rfl),none,0,rfl,rfl⟩
end Go.Proofs.YthbficbpebiekaaGreat
namespace Go.Proofs.YthbficbpebiekaaGreat
open Go.KL
set_option maxHeartbeats 4000000
theorem wEo (p0:wAD) (pA0_0_0:Option Addr) (pc0_0_0:Nat) (pA0_2:Option Addr) (pc0_2:Nat) (p1:Int) (w:World) (U:PHeap) (hS:St0 w U []) (ha0:Sl U 1 pA0_0_0 pc0_0_0 p0.Rules.Classes.length (nA KL.encI p0.Rules.Classes)) (ha1:SlR U wET pA0_2 pc0_2 p0.Teams) {r:(List Int) × Int} (hm:wAe p0 p1=some r):Gv Tryz.prog 24 [.agg #[.slice pA0_0_0 p0.Rules.Classes.length pc0_0_0,jV p0.Rules.Each,jV p0.Rules.Laps,jV p0.Rules.Spare,jV p0.Rules.Loop,jV p0.Rules.Unused,jV p0.Start,.slice pA0_2 p0.Teams.length pc0_2],jV p1] w (wCj w [] U (fun U_ L_ v=>∃ (A0:Option Addr) (c0:Nat),v=.tuple #[.slice A0 r.1.length c0,jV r.2]/\L_=[.row A0 c0 3 1 (nA KL.encI r.1)])):=by
 unfold wAe at hm
 refine Gv.of Tryz.func24 Z Tryz.ntmps24 Tryz.results24 Z (sR (.fx 0 (.fl 1 (.fl 2 (.nil))) .stop) Z ?_)
 let B0:List Value:=[.slice pA0_0_0 p0.Rules.Classes.length pc0_0_0,jV p0.Rules.Each,jV p0.Rules.Laps,jV p0.Rules.Spare,jV p0.Rules.Loop,jV p0.Rules.Unused,jV p0.Start,.slice pA0_2 p0.Teams.length pc0_2]
 refine Ze (cs:=B0) rfl rfl rfl rfl rfl rfl (by rfl) hS ?_
 intro W1 b2 hS3
 refine oA Z Z (oA Z Z (eN (sR (.fl 0 (.fx 1 (wGo (.nil)) .stop)) Z (oL Z (hS3.ldBA (j:=0) Z Z Z Zy Zl (vs:=B0) Z Z) ?_))))
 have q:=bnd hm
 obtain ⟨⟨x5,x6⟩,h7,hm8⟩:=q
 try dsimp only at hm8
 refine zQ 0 Z Z Z Z (zR Z Z Tryz.call16 (zH Z ze) Z) hS3 (fun hs=>wCo p0 pA0_0_0 pc0_0_0 pA0_2 pc0_2 W1 U hs ha0 ha1 h7) (.inr Z) ?_
 rintro U9 L10 v11 W12 le13 hS14 ⟨A15,c16,c17,rfl,rfl,h19⟩
 have hS20:sW w U U9 [.row A15 c16 22 1 c17,.blk b2 34 B0] W12:=hS14
 refine oM Z Z (oR Z (ZK Z Z (v:=.slice A15 x5.length c16) Z) (oR Z (ZK Z Z (v:=jV x6) Z) (oA Z Z (oA Z Z (eN (zB (sR fL2 Z (oM Z Z (oR Z (ZV Z Z Z) (eN (ifc hm8 ?_ ?_)))))))))))
 ·intro c21 hm22
  refine zo (zw (fun h=>h c21.out)) (kN (zB (sR (wGH (.fx 6 (.nil) .stop)) Z (oM Z Z (oR Z (zA Z Z zX Z Zs) (oR Z (zA Z Z ZJ Z zO) (oL Z (hS20.ldB (j:=1) Z Z Z zd (v:=.slice pA0_0_0 p0.Rules.Classes.length pc0_0_0) Z) (oR Z (zN Z Z zE) (oR Z (Zn Z Z Z) (bnK hm22 fun x23 h24 hm25=>zQ 0 Z Z Z Z (zR Z Z yB (zH Z (zH Z (zH Z ze))) Z) hS20 (fun hs=>wAO p1 0 (w64 ((↑p0.Rules.Classes.length:Int) - 1)) W12 U9 hs h24) (.inr Z) ?_))))))))))
  rintro U26 L27 v28 W29 le30 hS31 ⟨rfl,rfl⟩
  have hS32:sW w U U26 [.row A15 c16 22 1 c17,.blk b2 34 B0] W29:=hS31
  refine eN (ifc hm25 ?_ ?_)
  ·intro c33 hm34
   refine zp (congrArg nD c33.out) (sR fL2 Z (oA Z Z (oA Z Z (eN (zM (zC ?_))))))
   have hS35:=hS32.nilrow 3 1
   cases hm34
   exact ⟨rfl,_,(wIc rfl rfl),U26,_,(hS35.pick [0] _ (by decide) rfl),none,0,rfl,rfl⟩
  ·intro c33 hm37
   refine zo (congrArg nD (nE.2 c33.out)) (kN (sR fL1 Z (oA Z Z (eN (zB (sR fL1 Z (oA Z Z (eN (zL ?_)))))))))
   have h43:=h19.le le30
   have q:=hS32.freezeRR (R:=wDL) (k:=0) rfl h43 rfl (by decide)
   obtain ⟨U39,le40,hs41,hS42⟩:=q
   have hS44:sW w U U39 [.blk b2 34 B0] W29:=hS42
   refine bnK hm37 fun y67 hf64 hm63=>?_
   have q:=wAu hf64
   obtain ⟨hle65,hf66⟩:=q
   replace hle65:=zG hle65
   refine CK.forN' (fun k62 l58 σ_ w_=>∃ (U_:PHeap) (A59:Option Addr) (c60:Nat),σ_ 9=jV (↑k62:Int)/\σ_ 1=jV p1/\σ_ 6=.slice A15 x5.length c16/\σ_ 8=.slice A59 l58.length c60/\PHeap.Le U39 U_/\sW w U U_ [.blk b2 34 B0,.row A59 c60 3 1 (nA KL.encI l58)] w_) hf66 ?_ ?_ ?_
   ·have hS68:=hS44.nilrow 3 1
    exact ⟨U39,none,0,rfl,rfl,rfl,rfl,(zZ _),(hS68.pick [1,0] _ (by decide) rfl)⟩
   ·rintro k62 l58 xx72 σ70 W71 hk75 ⟨U77,A59,c60,fi76,f80,f81,f82,le78,hS79⟩ hx73
    have c83:Hid ((↑k62:Int) < (↑x5.length:Int)):=zG (wAy hk75)
    replace hk75:=zG hk75
    have hi84:Hid (w64 ((↑k62:Int) + 1)=(↑(k62 + 1):Int)):=zG (by have h1:=hle65.out;have h2:=c83.out;rw [wAK] <;> omega)
    refine zB (sR fL4 Z (oM Z fi76 (oM Z f81 (oR Z (zN Z Z zV) (oR Z (zS Z Z Z) (eN (cT Z c83 (kN (zB (zL (sR fL1 Z (oA Z Z (eN (zB (sR fL7 Z (oM Z f81 (oM Z fi76 (bnK hx73 fun x85 h86 hm87=>?_))))))))))))))))))
    have h88:=hs41.le le78
    have q:=h88.el (wAE h86)
    obtain ⟨b89,off90,vs93,hA91,hC92,hr94⟩:=q
    obtain ⟨pA95,pc96,rfl,h97⟩:=hr94
    replace hC92:Cl U77 b89 (off90 + k62 * 1) [.slice pA95 x85.length pc96]:=hC92
    refine oR Z (zx Z Z hA91 Z zV zO (wAc h86)) (oL Z (hS79.ldC (f:=0) hC92 (v:=.slice pA95 x85.length pc96) Z Z zd Z) (oR Z (zN Z Z zE) (oM Z f80 (oR Z (yF Z Z Z) (eN (ifc hm87 ?_ ?_))))))
    ·intro c98 hm99
     refine cT Z c98 (sR fL1 Z (oA Z Z (eN (sR fL1 Z (oA Z Z (eN (zL (bnK hm99 fun y111 hf108 hm107=>?_))))))))
     have q:=wAu hf108
     obtain ⟨hle109,hf110⟩:=q
     replace hle109:=zG hle109
     let B1:Res:=.row A59 c60 3 1 (nA KL.encI l58)
     refine CK.forN' (fun k106 x105 σ_ w_=>∃ (U_:PHeap),σ_ 11=jV (↑k106:Int)/\σ_ 1=jV p1/\σ_ 6=.slice A15 x5.length c16/\σ_ 8=.slice A59 l58.length c60/\σ_ 9=jV (↑k62:Int)/\σ_ 10=jV x105/\PHeap.Le U77 U_/\sW w U U_ [.blk b2 34 B0,B1] w_) hf110 ?_ ?_ ?_
     ·exact ⟨U77,Z,f80,f81,f82,fi76,Z,(zZ _),hS79⟩
     ·rintro k106 x105 xx114 σ112 W113 hk117 ⟨U119,fi118,f122,f123,f124,f125,f126,le120,hS121⟩ hx115
      have c127:Hid ((↑k106:Int) < (↑x5.length:Int)):=zG (wAy hk117)
      replace hk117:=zG hk117
      have hi128:Hid (w64 ((↑k106:Int) + 1)=(↑(k106 + 1):Int)):=zG (by have h1:=hle109.out;have h2:=c127.out;rw [wAK] <;> omega)
      refine zB (sR fL4 rfl (ZM rfl rfl rfl rfl rfl fi118 (ZM rfl rfl rfl rfl rfl f123 (zu rfl rfl rfl rfl (fun _=>zN rfl rfl zV) (zu rfl rfl rfl rfl (fun _=>zS rfl rfl rfl) (eN (cT Z c127 (kN (zB (zL (zB (Zv Zt [3,3,3,1,3,3,3,3,3,3,3,1,3,3,1,3,3,3,1,3,3,1,3,3] fL24 (by kernel_rfl) ?_))))))))))))
      have hS129:=hS121.drew
      generalize hw_W130:({ W113 with drawn:=W113.drawn + 1 }:World)=W130 at hS129 ⊢
      refine oM Z f123 (oM Z fi118 (bnK hx115 fun x131 h132 hm133=>?_))
      have h134:=h88.le le120
      have q:=h134.el (wAE h132)
      obtain ⟨b135,off136,vs139,hA137,hC138,hr140⟩:=q
      obtain ⟨pA141,pc142,rfl,h143⟩:=hr140
      replace hC138:Cl U119 b135 (off136 + k106 * 1) [.slice pA141 x131.length pc142]:=hC138
      refine oR Z (zx Z Z hA137 Z zV zO (wAc h132)) (oL Z (hS129.ldC (f:=0) hC138 (v:=.slice pA141 x131.length pc142) Z Z zd Z) (oR Z (zN Z Z zE) (oM Z f122 (oR Z (yF Z Z Z) (oM Z Z (ifc hm133 ?_ ?_))))))
      ·intro c144 hm145
       refine ZM Z Z Z (wT Z c144) Z f123 (ZM Z Z Z (wT Z c144) Z fi118 ?_)
       have q:=h134.el (wAE h132)
       obtain ⟨b146,off147,vs150,hA148,hC149,hr151⟩:=q
       obtain ⟨pA152,pc153,rfl,h154⟩:=hr151
       replace hC149:Cl U119 b146 (off147 + k106 * 1) [.slice pA152 x131.length pc153]:=hC149
       refine rU Z (wT Z c144) (zx Z Z hA148 Z zV zO (wAc h132)) (ZN Z Z Z (wT Z c144) (hS129.ldC (f:=0) hC149 (v:=.slice pA152 x131.length pc153) Z Z zd Z) Z (ZM Z Z Z (wT Z c144) Z f122 (bnK hm145 fun x155 h156 hm157=>?_)))
       have q:=h154.el (fun _=>rfl) (wAE h156)
       obtain ⟨b158,off159,hA160,hC161⟩:=q
       refine rU Z (wT Z c144) (ZQ Z Z hA160 Z zE zI (wAx h156) (wBE h156)) (ZN Z Z Z (wT Z c144) (hS129.ldC (f:=0) hC161 (v:=jV x155) Z Z zP Z) Z (ZM Z Z Z (wT Z c144) Z f123 (ZM Z Z Z (wT Z c144) Z f125 ?_)))
       have q:=h134.el (wAE h86)
       obtain ⟨b162,off163,vs166,hA164,hC165,hr167⟩:=q
       obtain ⟨pA168,pc169,rfl,h170⟩:=hr167
       replace hC165:Cl U119 b162 (off163 + k62 * 1) [.slice pA168 x85.length pc169]:=hC165
       refine rU Z (wT Z c144) (zx Z Z hA164 Z zV zO (wAc h86)) (ZN Z Z Z (wT Z c144) (hS129.ldC (f:=0) hC165 (v:=.slice pA168 x85.length pc169) Z Z zd Z) Z (ZM Z Z Z (wT Z c144) Z f122 (bnK hm157 fun x171 h172 hm173=>?_)))
       have q:=h170.el (fun _=>rfl) (wAE h172)
       obtain ⟨b174,off175,hA176,hC177⟩:=q
       refine rU Z (wT Z c144) (ZQ Z Z hA176 Z zE zI (wAx h172) (wBE h172)) (ZN Z Z Z (wT Z c144) (hS129.ldC (f:=0) hC177 (v:=jV x171) Z Z zP Z) Z (rU Z (wT Z c144) (zS Z Z Z) (oR Z (zi Z (yG c144.out) Z) (eN (ifc hm173 ?_ ?_)))))
       ·intro c178 hm179
        refine cT Z c178 (rR fL3 Z (oM Z f126 (oR Z (zU Z Z Z) (oA Z Z (zj (zg (zF (rR fL3 Z (oM Z fi118 (oR Z (ZD (zU Z Z Z) (congrArg (jV) hi128.out)) (oA Z Z (zj ?_))))))))))))
        cases hm179
        exact zF ⟨Z,⟨U119,Z,f122,f123,f124,f125,Z,le120,hS129⟩⟩
       ·intro c178 hm181
        refine cF Z c178 (ZW (zg (zF (rR fL3 Z (oM Z fi118 (oR Z (ZD (zU Z Z Z) (congrArg (jV) hi128.out)) (oA Z Z (zj ?_))))))))
        cases hm181
        exact zF ⟨Z,⟨U119,Z,f122,f123,f124,f125,f126,le120,hS129⟩⟩
      ·intro c144 hm183
       refine oF Z c144 (oF Z c144 (oF Z c144 (oF Z c144 (oF Z c144 (oF Z c144 (oF Z c144 (oF Z c144 (oF Z c144 (oF Z c144 (oF Z c144 (oF Z c144 (oF Z c144 (oF Z c144 (oF Z c144 (oR Z (zh Z (zw c144.out) Z) (eN (zo Z (ZW (zg (zF (rR fL3 Z (oM Z fi118 (oR Z (ZD (zU Z Z Z) (congrArg (jV) hi128.out)) (oA Z Z (zj ?_)))))))))))))))))))))))))
       cases hm183
       exact zF ⟨Z,⟨U119,Z,f122,f123,f124,f125,f126,le120,hS129⟩⟩
     ·rintro σ185 W186 ⟨U190,fi188,f193,f194,f195,f196,f197,le191,hS192⟩
      have c198:Hid (¬ ((↑(((↑x5.length:Int):Int) - 0).toNat:Int) < (↑x5.length:Int))):=zG (wAa)
      refine zB (sR fL4 Z (oM Z fi188 (oM Z f194 (oR Z (zN Z Z zV) (oR Z (zS Z Z Z) (eN (cF Z c198 (ZG (zW (zW (zr (zF (rR (.fl 0 (.fl 1 (.fx 2 (.fx 3 (.fl 4 (.nil)) .stop) .stop))) Z (oM Z f195 (oM Z f197 (ZP (pv:=[(0,jV y111)]) (zs:=[jV 0]) (cs:=[jV y111]) Z Z Z Z Z (wAI Z wAU) zE zI Zu Z Z Z Z Z hS192 ?_))))))))))))))))
      intro W199 b200 hS201
      let B2:Res:=.row (some ⟨b200,0,none⟩) 1 3 1 (nA KL.encI [y111])
      have hS203:sW w U U190 [B2,.blk b2 34 B0,B1] W199:=hS201
      refine bnK hm107 fun x204 h205 hm206=>yC (j:=2) (enc:=KL.encI) (xs:=l58) (ys:=[y111]) (zs:=x204) rfl rfl rfl rfl rfl Zf wEm rfl rfl rfl rfl rfl rfl hS203 rfl rfl rfl (hS203.srcR (j:=0) rfl (by decide) (wAN (f:=KL.encI) (sz:=1) (fun _=>rfl) [y111])) (fun _=>rfl) (fun _=>rfl) h205 rfl ?_
      intro A207 c208 W209 hS210
      have hS211:sW w U U190 [B2,.blk b2 34 B0,.row A207 c208 3 1 (nA KL.encI x204)] W209:=hS210
      refine oA Z Z (zj (zg (zF (rR fL3 Z (oM Z f196 (oR Z (ZD (zU Z Z Z) (congrArg (jV) hi84.out)) (oA Z Z (zj ?_))))))))
      cases hm206
      exact zF ⟨rfl,⟨U190,A207,c208,rfl,f193,f194,rfl,(le78.trans le191),(hS211.pick [1,2] _ (by decide) rfl)⟩⟩
    ·intro c98 hm215
     refine cF Z c98 (kN (rR (.fl 0 (.fl 1 (.fx 2 (.fx 3 (.fl 4 (.nil)) .stop) .stop))) Z (oM Z f82 (oM Z Z (ZP (pv:=[(0,jV 0)]) (zs:=[jV 0]) (cs:=[jV 0]) Z Z Z Z Z (wAI Z wAU) zE zI Zu Z Z Z Z Z hS79 ?_)))))
     intro W216 b217 hS218
     let B3:Res:=.row (some ⟨b217,0,none⟩) 1 3 1 (nA KL.encI [0])
     have hS220:sW w U U77 [B3,.blk b2 34 B0,.row A59 c60 3 1 (nA KL.encI l58)] W216:=hS218
     refine bnK hm215 fun x221 h222 hm223=>yC (j:=2) (enc:=KL.encI) (xs:=l58) (ys:=[0]) (zs:=x221) rfl rfl rfl rfl rfl Zf wEm rfl rfl rfl rfl rfl rfl hS220 rfl rfl rfl (hS220.srcR (j:=0) rfl (by decide) (wAN (f:=KL.encI) (sz:=1) (fun _=>rfl) [0])) (fun _=>rfl) (fun _=>rfl) h222 rfl ?_
     intro A224 c225 W226 hS227
     have hS228:sW w U U77 [B3,.blk b2 34 B0,.row A224 c225 3 1 (nA KL.encI x221)] W226:=hS227
     refine oA Z Z (zj (zg (zF (rR fL3 Z (oM Z fi76 (oR Z (ZD (zU Z Z Z) (congrArg (jV) hi84.out)) (oA Z Z (zj ?_))))))))
     cases hm223
     exact zF ⟨rfl,⟨U77,A224,c225,rfl,f80,f81,rfl,le78,(hS228.pick [1,2] _ (by decide) rfl)⟩⟩
   ·rintro σ232 W233 ⟨U241,A239,c240,fi235,f244,f245,f246,le242,hS243⟩
    have c247:Hid (¬ ((↑(((↑x5.length:Int):Int) - 0).toNat:Int) < (↑x5.length:Int))):=zG (wAa)
    refine zB (sR fL4 Z (oM Z fi235 (oM Z f245 (oR Z (zN Z Z zV) (oR Z (zS Z Z Z) (eN (cF Z c247 (ZG (zW (zW (zr (zF (sR fL3 Z (oM Z f246 (oA Z Z (oA Z Z (eN (zM ?_))))))))))))))))))
    cases hm63
    exact ⟨rfl,_,(wIc rfl rfl),U241,_,(hS243.pick [1] _ (by decide) rfl),A239,c240,rfl,rfl⟩
 ·intro c21 hm248
  refine cT Z c21 (sR fL3 Z (oM Z Z (oA Z Z (oA Z Z (eN (zM (zC ?_)))))))
  have hS249:=hS20.nilrow 3 1
  cases hm248
  exact ⟨rfl,_,(wIc rfl rfl),U9,_,(hS249.pick [0] _ (by decide) rfl),none,0,rfl,rfl⟩
theorem wEp (p0:List Int) (pA0:Option Addr) (pc0:Nat) (w:World) (U:PHeap) (hS:St ⟨w,[.row pA0 pc0 3 1 (nA KL.encI p0)],U⟩ U [.row pA0 pc0 3 1 (nA KL.encI p0)] w) {r:List Int} (hm:wCi p0=some r):Gv Tryz.prog 35 [.slice pA0 p0.length pc0] w (wCj w [.row pA0 pc0 3 1 (nA KL.encI p0)] U (fun U_ L_ v=>v=.tuple #[]/\L_=[.row pA0 pc0 3 1 (nA KL.encI r)]/\r.length=p0.length)) :=
 wPp (fun b o c zs w h1 h2 h3=>Go.Proofs.Tryz.slices_Sort_int b o c zs w h1 h2 h3) (fun p c w=>Go.Proofs.Tryz.slices_Sort_int_none p c w) hS hm
theorem wHx (p0:wAA) (pA0_0_0:Option Addr) (pc0_0_0:Nat) (pA0_2:Option Addr) (pc0_2:Nat) (p1:Int) (w:World) (U:PHeap) (hS:St0 w U []) (ha0:Sl U 1 pA0_0_0 pc0_0_0 p0.Rules.Classes.length (nA KL.encI p0.Rules.Classes)) (ha1:SlR U wCS pA0_2 pc0_2 p0.Teams) {r:(List Int) × Int × Int} (hm:wBM p0 p1=some r):Gv Tryz.prog 25 [.agg #[.slice pA0_0_0 p0.Rules.Classes.length pc0_0_0,jV p0.Rules.Each,jV p0.Rules.Laps,jV p0.Rules.Spare,jV p0.Rules.Loop,jV p0.Rules.Unused,jV p0.Start,.slice pA0_2 p0.Teams.length pc0_2],jV p1] w (wCj w [] U (fun U_ L_ v=>∃ (A0:Option Addr) (c0:Nat),v=.tuple #[.slice A0 r.1.length c0,jV r.2.1,jV r.2.2]/\L_=[.row A0 c0 3 1 (nA KL.encI r.1)])):=by
 unfold wBM at hm
 refine Gv.of Tryz.func25 Z Tryz.ntmps25 Tryz.results25 Z (sR (.fx 0 (wTj (.nil)) .stop) Z ?_)
 let B0:List Value:=[.slice pA0_0_0 p0.Rules.Classes.length pc0_0_0,jV p0.Rules.Each,jV p0.Rules.Laps,jV p0.Rules.Spare,jV p0.Rules.Loop,jV p0.Rules.Unused,jV p0.Start,.slice pA0_2 p0.Teams.length pc0_2]
 refine Ze (cs:=B0) rfl rfl rfl rfl rfl rfl (by rfl) hS ?_
 intro W1 b2 hS3
 refine oA Z Z (oA Z Z (oA Z Z (eN (sR (.fl 0 (.fx 1 (wGo (.nil)) .stop)) Z (oL Z (hS3.ldBA (j:=0) Z Z Z Zd ZH (vs:=B0) Z Z) ?_)))))
 have q:=bnd hm
 obtain ⟨⟨x5,x6⟩,h7,hm8⟩:=q
 try dsimp only at hm8
 refine zQ 0 Z Z Z Z (zR Z Z Tryz.call21 (zH Z ze) Z) hS3 (fun hs=>wGe p0 pA0_0_0 pc0_0_0 pA0_2 pc0_2 W1 U hs ha0 ha1 h7) (.inr Z) ?_
 rintro U9 L10 v11 W12 le13 hS14 ⟨A15,c16,c17,rfl,rfl,h19⟩
 have hS20:sW w U U9 [.row A15 c16 22 1 c17,.blk b2 27 B0] W12:=hS14
 refine oM Z Z (oR Z (ZK Z Z (v:=.slice A15 x5.length c16) Z) (oR Z (ZK Z Z (v:=jV x6) Z) (oA Z Z (oA Z Z (eN (zB (zL (sR fL3 Z (oM Z Z (oR Z (ZV Z Z Z) (oA Z Z (eN (ifc hm8 ?_ ?_)))))))))))))
 ·intro c21 hm22
  refine zo (zw (fun h=>h c21.out)) (sR (wGH (.fx 6 (.fl 7 (.fl 8 (.nil))) .stop)) Z (oM Z Z (oR Z (zA Z Z zY Z ZX) (oR Z (zA Z Z zm Z zO) (oL Z (hS20.ldB (j:=1) Z Z Z zd (v:=.slice pA0_0_0 p0.Rules.Classes.length pc0_0_0) Z) (oR Z (zN Z Z zE) (oR Z (Zn Z Z Z) (bnK hm22 fun x23 h24 hm25=>zQ 0 Z Z Z Z (zR Z Z yQ (zH Z (zH Z (zH Z ze))) Z) hS20 (fun hs=>wCB p1 0 (w64 ((↑p0.Rules.Classes.length:Int) - 1)) W12 U9 hs h24) (.inr Z) ?_))))))))
  rintro U26 L27 v28 W29 le30 hS31 ⟨rfl,rfl⟩
  have hS32:sW w U U26 [.row A15 c16 22 1 c17,.blk b2 27 B0] W29:=hS31
  refine oR Z (Za Z Z) (oA Z Z (eN (ifc hm25 ?_ ?_)))
  ·intro c33 hm34
   refine zo (nC c33.out) (ZW (zg (zF (sR fL1 Z (oA Z Z (eN (zB (sR fL3 Z (oM Z Z (oR Z (zN Z Z zV) (oM Z Z (eN (zL ?_)))))))))))))
   have h40:=h19.le le30
   have q:=hS32.freezeRR (R:=wDL) (k:=0) rfl h40 rfl (by decide)
   obtain ⟨U36,le37,hs38,hS39⟩:=q
   have hS41:sW w U U36 [.blk b2 27 B0] W29:=hS39
   refine bnK hm34 fun y53 hf50 hm49=>?_
   have q:=wAu hf50
   obtain ⟨hle51,hf52⟩:=q
   replace hle51:=zG hle51
   refine CK.forN' (fun k48 x47 σ_ w_=>∃ (U_:PHeap),σ_ 35=jV (↑k48:Int)/\σ_ 1=jV p1/\σ_ 2=.pointer (some ⟨b2,0,none⟩)/\σ_ 7=.slice A15 x5.length c16/\σ_ 9=jV x47/\σ_ 33=.slice A15 x5.length c16/\σ_ 34=jV (↑x5.length:Int)/\PHeap.Le U36 U_/\sW w U U_ [.blk b2 27 B0] w_) hf52 ?_ ?_ ?_
   ·exact ⟨U36,Z,Z,Z,Z,Z,Z,Z,(zZ _),hS41⟩
   ·rintro k48 x47 xx56 σ54 W55 hk59 ⟨U61,fi60,f64,f65,f66,f67,f68,f69,le62,hS63⟩ hx57
    have c70:Hid ((↑k48:Int) < (↑x5.length:Int)):=zG (wAy hk59)
    replace hk59:=zG hk59
    have hi71:Hid (w64 ((↑k48:Int) + 1)=(↑(k48 + 1):Int)):=zG (by have h1:=hle51.out;have h2:=c70.out;rw [wAK] <;> omega)
    refine sR fL1 Z (oR Z (zS Z fi60 f69) (eN (zB (cT Z c70 (kN (zB (zL (sR fL3 Z (bnK hx57 fun x72 h73 hm74=>?_)))))))))
    have h75:=hs38.le le62
    have q:=h75.el (wAE h73)
    obtain ⟨b76,off77,vs80,hA78,hC79,hr81⟩:=q
    obtain ⟨pA82,pc83,rfl,h84⟩:=hr81
    replace hC79:Cl U61 b76 (off77 + k48 * 1) [.slice pA82 x72.length pc83]:=hC79
    refine oR Z (zx Z f68 hA78 fi60 zV zO (wAc h73)) (oL Z (hS63.ldC (f:=0) hC79 (v:=.slice pA82 x72.length pc83) Z Z zd Z) (oA Z Z (eN (sR fL4 Z (oM Z f64 (oM Z Z (oR Z (zN Z Z zE) (oR Z (zS Z Z Z) (eN (ifc hm74 ?_ ?_))))))))))
    ·intro c85 hm86
     refine cT Z c85 (rR fL7 Z (oM Z f67 (oM Z Z (oM Z f64 (bnK hm86 fun x87 h88 hm89=>?_)))))
     have q:=h84.el (fun _=>rfl) (wAE h88)
     obtain ⟨b90,off91,hA92,hC93⟩:=q
     refine oR Z (ZQ Z Z hA92 Z zE zI (wAx h88) (wBE h88)) (oL Z (hS63.ldC (f:=0) hC93 (v:=jV x87) Z Z zP Z) (oR Z (Runs.min Z Z Z) (oA Z Z (zj (zg (zF (rR fL2 Z (oR Z (ZD (zU Z fi60 Z) (congrArg (jV) hi71.out)) (oM Z Z (zj ?_))))))))))
     cases hm89
     exact zF ⟨Z,⟨U61,Z,f64,f65,f66,Z,f68,f69,le62,hS63⟩⟩
    ·intro c85 hm95
     refine cF Z c85 (ZW (zg (zF (rR fL2 Z (oR Z (ZD (zU Z fi60 Z) (congrArg (jV) hi71.out)) (oM Z Z (zj ?_)))))))
     cases hm95
     exact zF ⟨Z,⟨U61,Z,f64,f65,f66,f67,f68,f69,le62,hS63⟩⟩
   ·rintro σ97 W98 ⟨U102,fi100,f105,f106,f107,f108,f109,f110,le103,hS104⟩
    have c111:Hid (¬ ((↑(((↑x5.length:Int):Int) - 0).toNat:Int) < (↑x5.length:Int))):=zG (wAa)
    refine sR fL1 Z (oR Z (zS Z fi100 f110) (eN (zB (cF Z c111 (ZG (zW (zW (zr (zF (sR fL1 Z (oA Z Z (eN (zB (sR fL3 Z (oM Z f107 (oR Z (zN Z Z zV) (oM Z Z (eN (zL (bnK hm49 fun y134 hf131 hm130=>?_))))))))))))))))))))
    have q:=wAu hf131
    obtain ⟨hle132,hf133⟩:=q
    replace hle132:=zG hle132
    refine CK.forN' (fun k129 l125 σ_ w_=>∃ (U_:PHeap) (A126:Option Addr) (c127:Nat),σ_ 52=jV (↑k129:Int)/\σ_ 1=jV p1/\σ_ 2=.pointer (some ⟨b2,0,none⟩)/\σ_ 9=jV y53/\σ_ 12=.slice A126 l125.length c127/\σ_ 50=.slice A15 x5.length c16/\σ_ 51=jV (↑x5.length:Int)/\PHeap.Le U102 U_/\sW w U U_ [.blk b2 27 B0,.row A126 c127 3 1 (nA KL.encI l125)] w_) hf133 ?_ ?_ ?_
    ·have hS135:=hS104.nilrow 3 1
     exact ⟨U102,none,0,rfl,f105,f106,f108,rfl,rfl,rfl,(zZ _),(hS135.pick [1,0] _ (by decide) rfl)⟩
    ·rintro k129 l125 xx139 σ137 W138 hk142 ⟨U144,A126,c127,fi143,f147,f148,f149,f150,f151,f152,le145,hS146⟩ hx140
     have c153:Hid ((↑k129:Int) < (↑x5.length:Int)):=zG (wAy hk142)
     replace hk142:=zG hk142
     have hi154:Hid (w64 ((↑k129:Int) + 1)=(↑(k129 + 1):Int)):=zG (by have h1:=hle132.out;have h2:=c153.out;rw [wAK] <;> omega)
     refine sR fL1 Z (oR Z (zS Z fi143 f152) (eN (zB (cT Z c153 (kN (zB (zL (sR fL5 Z (oM Z fi143 (bnK hx140 fun x155 h156 hm157=>?_))))))))))
     have h158:=hs38.le le103
     have h159:=h158.le le145
     have q:=h159.el (wAE h156)
     obtain ⟨b160,off161,vs164,hA162,hC163,hr165⟩:=q
     obtain ⟨pA166,pc167,rfl,h168⟩:=hr165
     replace hC163:Cl U144 b160 (off161 + k129 * 1) [.slice pA166 x155.length pc167]:=hC163
     refine oR Z (zx Z f151 hA162 fi143 zV zO (wAc h156)) (oL Z (hS146.ldC (f:=0) hC163 (v:=.slice pA166 x155.length pc167) Z Z zd Z) (oA Z Z (oA Z Z (eN (sR fL12 Z (oM Z f147 (oM Z Z (oR Z (zN Z Z zE) (oR Z (zS Z Z Z) (oM Z Z (ifc hm157 ?_ ?_)))))))))))
     ·intro c169 hm170
      refine ZM Z Z Z (wT Z c169) Z Z (ZM Z Z Z (wT Z c169) Z f147 (bnK hm170 fun x171 h172 hm173=>?_))
      have q:=h168.el (fun _=>rfl) (wAE h172)
      obtain ⟨b174,off175,hA176,hC177⟩:=q
      refine rU Z (wT Z c169) (ZQ Z Z hA176 Z zE zI (wAx h172) (wBE h172)) (ZN Z Z Z (wT Z c169) (hS146.ldC (f:=0) hC177 (v:=jV x171) Z Z zP Z) Z (ZM Z Z Z (wT Z c169) Z f149 (rU Z (wT Z c169) (yI Z Z Z) (oR Z (zi Z (yG c169.out) Z) (eN (ifc hm173 ?_ ?_))))))
      ·intro c178 hm179
       refine cT Z c178 (rR (wQT (.fx 7 (.fx 8 (.fl 9 (.nil)) .stop) .stop)) Z (oM Z f150 (oR Z (zA Z f148 zY Z Zb) (oL Z (hS146.ldB (j:=0) Z Z Z Zg (v:=.slice pA0_2 p0.Teams.length pc0_2) Z) (oM Z Z (bnK hm179 fun x180 h181 hm182=>?_))))))
       have h183:=ha1.le le13
       have h184:=h183.le le30
       have h185:=h184.le le37
       have h186:=h185.le le103
       have h187:=h186.le le145
       have q:=h187.el (wAE h181)
       obtain ⟨b188,off189,vs192,hA190,hC191,hr193⟩:=q
       obtain ⟨pA194,pc195,pA196,pc197,rfl,h198,h199⟩:=hr193
       replace hC191:Cl U144 b188 (off189 + k129 * 3) [jV x180.Bib,.slice pA194 x180.Classes.length pc195,.slice pA196 x180.Legs.length pc197]:=hC191
       refine oR Z (zx Z Z hA190 Z zn zz (wAc h181)) (oR Z (zA Z Z zl Z zI) (oL Z (hS146.ldC (f:=0) hC191 (v:=jV x180.Bib) Z Z zP Z) (ZP (pv:=[(0,jV x180.Bib)]) (zs:=[jV 0]) (cs:=[jV x180.Bib]) Z Z Z Z Z (wAI Z wAU) zE zI Zu Z Z Z Z Z hS146 ?_)))
       intro W200 b201 hS202
       let B1:Res:=.row (some ⟨b201,0,none⟩) 1 3 1 (nA KL.encI [x180.Bib])
       have hS204:sW w U U144 [B1,.blk b2 27 B0,.row A126 c127 3 1 (nA KL.encI l125)] W200:=hS202
       refine bnK hm182 fun x205 h206 hm207=>yC (j:=2) (enc:=KL.encI) (xs:=l125) (ys:=[x180.Bib]) (zs:=x205) rfl rfl rfl rfl rfl Zf wEm rfl rfl rfl rfl rfl rfl hS204 rfl rfl rfl (hS204.srcR (j:=0) rfl (by decide) (wAN (f:=KL.encI) (sz:=1) (fun _=>rfl) [x180.Bib])) (fun _=>rfl) (fun _=>rfl) h206 rfl ?_
       intro A208 c209 W210 hS211
       have hS212:sW w U U144 [B1,.blk b2 27 B0,.row A208 c209 3 1 (nA KL.encI x205)] W210:=hS211
       refine oA Z Z (zj (zg (zF (rR fL2 Z (oR Z (ZD (zU Z fi143 Z) (congrArg (jV) hi154.out)) (oM Z Z (zj ?_)))))))
       cases hm207
       exact zF ⟨rfl,⟨U144,A208,c209,rfl,f147,f148,f149,rfl,f151,f152,le145,(hS212.pick [1,2] _ (by decide) rfl)⟩⟩
      ·intro c178 hm216
       refine cF Z c178 (ZW (zg (zF (rR fL2 Z (oR Z (ZD (zU Z fi143 Z) (congrArg (jV) hi154.out)) (oM Z Z (zj ?_)))))))
       cases hm216
       exact zF ⟨Z,⟨U144,A126,c127,Z,f147,f148,f149,f150,f151,f152,le145,hS146⟩⟩
     ·intro c169 hm220
      refine oF Z c169 (oF Z c169 (oF Z c169 (oF Z c169 (oF Z c169 (oF Z c169 (oR Z (zh Z (zw c169.out) Z) (eN (zo Z (ZW (zg (zF (rR fL2 Z (oR Z (ZD (zU Z fi143 Z) (congrArg (jV) hi154.out)) (oM Z Z (zj ?_)))))))))))))))
      cases hm220
      exact zF ⟨Z,⟨U144,A126,c127,Z,f147,f148,f149,f150,f151,f152,le145,hS146⟩⟩
    ·rintro σ224 W225 ⟨U233,A231,c232,fi227,f236,f237,f238,f239,f240,f241,le234,hS235⟩
     have c242:Hid (¬ ((↑(((↑x5.length:Int):Int) - 0).toNat:Int) < (↑x5.length:Int))):=zG (wAa)
     refine sR fL1 Z (oR Z (zS Z fi227 f241) (eN (zB (cF Z c242 (ZG (zW (zW (zr (zF (zB (sR fL3 Z (oM Z f239 (oR Z (zN Z Z zE) (oR Z (yI Z Z Z) (eN (ifc hm130 ?_ ?_))))))))))))))))
     ·intro c243 hm244
      refine cT Z c243 (sR fL3 Z (oA Z Z (oA Z Z (oA Z Z (eN (zM (zC ?_)))))))
      have hS245:=hS235.nilrow 3 1
      cases hm244
      exact ⟨rfl,_,(wQY rfl rfl rfl),U233,_,(hS245.pick [0] _ (by decide) rfl),none,0,rfl,rfl⟩
     ·intro c243 hm247
      refine cF Z c243 (kN (sR (.fl 0 (.fx 1 (.nil) .stop)) Z (oM Z f239 (bnK hm247 fun x248 h249 hm250=>?_))))
      have hS251:sW w U U233 [.row A231 c232 3 1 (nA KL.encI y134),.blk b2 27 B0] W225:=hS235.pick [1,0] _ (by decide) rfl
      refine zQ 1 Z Z Z Z (zR Z Z Tryz.call35 (zH Z ze) Z) hS251 (fun hs=>wEp y134 A231 c232 W225 U233 hs h249) (.inl Z) ?_
      rintro U252 L253 v254 W255 le256 hS257 ⟨rfl,rfl,h258⟩
      have hS259:sW w U U252 [.row A231 c232 3 1 (nA KL.encI x248),.blk b2 27 B0] W255:=hS257
      refine eN (sR fL5 rfl (ZM rfl rfl rfl rfl rfl (Eq.trans (b:=(.slice A231 y134.length c232:Value)) (c:=(.slice A231 x248.length c232:Value)) f239 (by rw [h258])) (ZM rfl rfl rfl rfl rfl f238 (OKS.ra rfl rfl rfl rfl rfl rfl (OKS.ra rfl rfl rfl rfl rfl rfl (OKS.ra rfl rfl rfl rfl rfl rfl (eN (zM ?_))))))))
      cases hm250
      exact ⟨rfl,_,(wQY rfl rfl rfl),U252,_,(hS259.pick [0] _ (by decide) rfl),A231,c232,rfl,rfl⟩
  ·intro c33 hm260
   refine zp (nF (c33.out)) (sR fL3 Z (oA Z Z (oA Z Z (oA Z Z (eN (zM (zK (zC ?_))))))))
   have hS261:=hS32.nilrow 3 1
   cases hm260
   exact ⟨rfl,_,(wQY rfl rfl rfl),U26,_,(hS261.pick [0] _ (by decide) rfl),none,0,rfl,rfl⟩
 ·intro c21 hm263
  refine cT Z c21 (sR fL4 Z (oM Z Z (oA Z Z (oA Z Z (oA Z Z (eN (zM (zK (zC ?_)))))))))
  have hS264:=hS20.nilrow 3 1
  cases hm263
  exact ⟨rfl,_,(wQY rfl rfl rfl),U9,_,(hS264.pick [0] _ (by decide) rfl),none,0,rfl,rfl⟩
theorem wEd (p0:wAD) (pA0_0_0:Option Addr) (pc0_0_0:Nat) (pA0_2:Option Addr) (pc0_2:Nat) (p1:Int) (w:World) (U:PHeap) (hS:St0 w U []) (ha0:Sl U 1 pA0_0_0 pc0_0_0 p0.Rules.Classes.length (nA KL.encI p0.Rules.Classes)) (ha1:SlR U wET pA0_2 pc0_2 p0.Teams) {r:(List Int) × Int × Int} (hm:wAb p0 p1=some r):Gv Tryz.prog 26 [.agg #[.slice pA0_0_0 p0.Rules.Classes.length pc0_0_0,jV p0.Rules.Each,jV p0.Rules.Laps,jV p0.Rules.Spare,jV p0.Rules.Loop,jV p0.Rules.Unused,jV p0.Start,.slice pA0_2 p0.Teams.length pc0_2],jV p1] w (wCj w [] U (fun U_ L_ v=>∃ (A0:Option Addr) (c0:Nat),v=.tuple #[.slice A0 r.1.length c0,jV r.2.1,jV r.2.2]/\L_=[.row A0 c0 3 1 (nA KL.encI r.1)])):=by
 unfold wAb at hm
 refine Gv.of Tryz.func26 Z Tryz.ntmps26 Tryz.results26 Z (sR (.fx 0 (wTj (.nil)) .stop) Z ?_)
 let B0:List Value:=[.slice pA0_0_0 p0.Rules.Classes.length pc0_0_0,jV p0.Rules.Each,jV p0.Rules.Laps,jV p0.Rules.Spare,jV p0.Rules.Loop,jV p0.Rules.Unused,jV p0.Start,.slice pA0_2 p0.Teams.length pc0_2]
 refine Ze (cs:=B0) rfl rfl rfl rfl rfl rfl (by rfl) hS ?_
 intro W1 b2 hS3
 refine oA Z Z (oA Z Z (oA Z Z (eN (sR (.fl 0 (.fx 1 (wGo (.nil)) .stop)) Z (oL Z (hS3.ldBA (j:=0) Z Z Z Zy Zl (vs:=B0) Z Z) ?_)))))
 have q:=bnd hm
 obtain ⟨⟨x5,x6⟩,h7,hm8⟩:=q
 try dsimp only at hm8
 refine zQ 0 Z Z Z Z (zR Z Z Tryz.call22 (zH Z ze) Z) hS3 (fun hs=>wDc p0 pA0_0_0 pc0_0_0 pA0_2 pc0_2 W1 U hs ha0 ha1 h7) (.inr Z) ?_
 rintro U9 L10 v11 W12 le13 hS14 ⟨A15,c16,c17,rfl,rfl,h19⟩
 have hS20:sW w U U9 [.row A15 c16 22 1 c17,.blk b2 34 B0] W12:=hS14
 refine oM Z Z (oR Z (ZK Z Z (v:=.slice A15 x5.length c16) Z) (oR Z (ZK Z Z (v:=jV x6) Z) (oA Z Z (oA Z Z (eN (zB (sR fL2 Z (oM Z Z (oR Z (ZV Z Z Z) (eN (ifc hm8 ?_ ?_)))))))))))
 ·intro c21 hm22
  refine zo (zw (fun h=>h c21.out)) (kN (zB (sR (wGH (.fx 6 (.nil) .stop)) Z (oM Z Z (oR Z (zA Z Z zX Z Zs) (oR Z (zA Z Z ZJ Z zO) (oL Z (hS20.ldB (j:=1) Z Z Z zd (v:=.slice pA0_0_0 p0.Rules.Classes.length pc0_0_0) Z) (oR Z (zN Z Z zE) (oR Z (Zn Z Z Z) (bnK hm22 fun x23 h24 hm25=>zQ 0 Z Z Z Z (zR Z Z yB (zH Z (zH Z (zH Z ze))) Z) hS20 (fun hs=>wAO p1 0 (w64 ((↑p0.Rules.Classes.length:Int) - 1)) W12 U9 hs h24) (.inr Z) ?_))))))))))
  rintro U26 L27 v28 W29 le30 hS31 ⟨rfl,rfl⟩
  have hS32:sW w U U26 [.row A15 c16 22 1 c17,.blk b2 34 B0] W29:=hS31
  refine eN (ifc hm25 ?_ ?_)
  ·intro c33 hm34
   refine zp (congrArg nD c33.out) (sR fL3 Z (oA Z Z (oA Z Z (oA Z Z (eN (zM (zC ?_)))))))
   have hS35:=hS32.nilrow 3 1
   cases hm34
   exact ⟨rfl,_,(wQY rfl rfl rfl),U26,_,(hS35.pick [0] _ (by decide) rfl),none,0,rfl,rfl⟩
  ·intro c33 hm37
   refine zo (congrArg nD (nE.2 c33.out)) (kN (sR fL1 Z (oA Z Z (eN (sR fL1 Z (oA Z Z (eN (zB (sR fL1 Z (oA Z Z (eN (zL ?_))))))))))))
   have h43:=h19.le le30
   have q:=hS32.freezeRR (R:=wDL) (k:=0) rfl h43 rfl (by decide)
   obtain ⟨U39,le40,hs41,hS42⟩:=q
   have hS44:sW w U U39 [.blk b2 34 B0] W29:=hS42
   have q:=bnd hm37
   obtain ⟨⟨y60,y61⟩,hf57,hm56⟩:=q
   try dsimp only at hm56
   have q:=wAu hf57
   obtain ⟨hle58,hf59⟩:=q
   replace hle58:=zG hle58
   refine CK.forN' (fun k55 (x53,b54) σ_ w_=>∃ (U_:PHeap),σ_ 11=jV (↑k55:Int)/\σ_ 1=jV p1/\σ_ 2=.pointer (some ⟨b2,0,none⟩)/\σ_ 7=.slice A15 x5.length c16/\σ_ 9=jV x53/\σ_ 10=.bool b54/\PHeap.Le U39 U_/\sW w U U_ [.blk b2 34 B0] w_) hf59 ?_ ?_ ?_
   ·exact ⟨U39,Z,Z,Z,Z,Z,Z,(zZ _),hS44⟩
   ·rintro k55 ⟨x53,b54⟩ xx64 σ62 W63 hk67 ⟨U69,fi68,f72,f73,f74,f75,f76,le70,hS71⟩ hx65
    try dsimp only at hx65
    have c77:Hid ((↑k55:Int) < (↑x5.length:Int)):=zG (wAy hk67)
    replace hk67:=zG hk67
    have hi78:Hid (w64 ((↑k55:Int) + 1)=(↑(k55 + 1):Int)):=zG (by have h1:=hle58.out;have h2:=c77.out;rw [wAK] <;> omega)
    refine zB (sR fL4 Z (oM Z fi68 (oM Z f74 (oR Z (zN Z Z zV) (oR Z (zS Z Z Z) (eN (cT Z c77 (kN (zB (zL (sR fL22 Z (oM Z f74 (oM Z fi68 (bnK hx65 fun x79 h80 hm81=>?_))))))))))))))
    have h82:=hs41.le le70
    have q:=h82.el (wAE h80)
    obtain ⟨b83,off84,vs87,hA85,hC86,hr88⟩:=q
    obtain ⟨pA89,pc90,rfl,h91⟩:=hr88
    replace hC86:Cl U69 b83 (off84 + k55 * 1) [.slice pA89 x79.length pc90]:=hC86
    refine oR Z (zx Z Z hA85 Z zV zO (wAc h80)) (oL Z (hS71.ldC (f:=0) hC86 (v:=.slice pA89 x79.length pc90) Z Z zd Z) (oR Z (zN Z Z zE) (oM Z f72 (oR Z (yF Z Z Z) (oM Z Z (ifc hm81 ?_ ?_))))))
    ·intro c92 hm93
     refine ZM Z Z Z (wT Z c92) Z f76 (rU Z (wT Z c92) (Za Z Z) (ZM Z Z Z (wT Z c92) Z Z (ifc hm93 ?_ ?_)))
     ·intro c94 hm95
      refine ZM Z Z Z (zJ Z Z (nC c94.out)) Z f74 (ZM Z Z Z (zJ Z Z (nC c94.out)) Z fi68 ?_)
      have q:=h82.el (wAE h80)
      obtain ⟨b96,off97,vs100,hA98,hC99,hr101⟩:=q
      obtain ⟨pA102,pc103,rfl,h104⟩:=hr101
      replace hC99:Cl U69 b96 (off97 + k55 * 1) [.slice pA102 x79.length pc103]:=hC99
      refine zu Z Z Z (zJ Z Z (nC c94.out)) (fun _=>zx Z Z hA98 Z zV zO (wAc h80)) (ZN Z Z Z (zJ Z Z (nC c94.out)) (hS71.ldC (f:=0) hC99 (v:=.slice pA102 x79.length pc103) Z Z zd Z) Z (ZM Z Z Z (zJ Z Z (nC c94.out)) Z f72 (bnK hm95 fun x105 h106 hm107=>?_)))
      have q:=h104.el (fun _=>rfl) (wAE h106)
      obtain ⟨b108,off109,hA110,hC111⟩:=q
      refine zu Z Z Z (zJ Z Z (nC c94.out)) (fun _=>ZQ Z Z hA110 Z zE zI (wAx h106) (wBE h106)) (ZN Z Z Z (zJ Z Z (nC c94.out)) (hS71.ldC (f:=0) hC111 (v:=jV x105) Z Z zP Z) Z (ZM Z Z Z (zJ Z Z (nC c94.out)) Z f75 (zu Z Z Z (zJ Z Z (nC c94.out)) (fun _=>zS Z Z Z) (rU Z (wT Z c92) (zh Z (nC c94.out) Z) (oR Z (zi Z (yG c92.out) Z) (eN (ifc hm107 ?_ ?_)))))))
      ·intro c112 hm113
       refine cT Z c112 (rR fL9 Z (oM Z f74 (oM Z fi68 ?_)))
       have q:=h82.el (wAE h80)
       obtain ⟨b114,off115,vs118,hA116,hC117,hr119⟩:=q
       obtain ⟨pA120,pc121,rfl,h122⟩:=hr119
       replace hC117:Cl U69 b114 (off115 + k55 * 1) [.slice pA120 x79.length pc121]:=hC117
       refine oR Z (zx Z Z hA116 Z zV zO (wAc h80)) (oL Z (hS71.ldC (f:=0) hC117 (v:=.slice pA120 x79.length pc121) Z Z zd Z) (oM Z f72 ?_))
       have q:=h122.el (fun _=>rfl) (wAE h106)
       obtain ⟨b123,off124,hA125,hC126⟩:=q
       refine oR Z (ZQ Z Z hA125 Z zE zI (wAx h106) (wBE h106)) (oL Z (hS71.ldC (f:=0) hC126 (v:=jV x105) Z Z zP Z) (oA Z Z (oA Z Z (zj (zg (zF (rR fL3 Z (oM Z fi68 (oR Z (ZD (zU Z Z Z) (congrArg (jV) hi78.out)) (oA Z Z (zj ?_)))))))))))
       cases hm113
       exact zF ⟨Z,⟨U69,Z,f72,f73,f74,Z,Z,le70,hS71⟩⟩
      ·intro c112 hm129
       refine cF Z c112 (ZW (zg (zF (rR fL3 Z (oM Z fi68 (oR Z (ZD (zU Z Z Z) (congrArg (jV) hi78.out)) (oA Z Z (zj ?_))))))))
       cases hm129
       exact zF ⟨Z,⟨U69,Z,f72,f73,f74,f75,f76,le70,hS71⟩⟩
     ·intro c94 hm132
      refine ZA Z Z Z (zf Z Z (nF (c94.out)) Z) (ZA Z Z Z (zf Z Z (nF (c94.out)) Z) (ZA Z Z Z (zf Z Z (nF (c94.out)) Z) (ZA Z Z Z (zf Z Z (nF (c94.out)) Z) (ZA Z Z Z (zf Z Z (nF (c94.out)) Z) (ZA Z Z Z (zf Z Z (nF (c94.out)) Z) (ZA Z Z Z (zf Z Z (nF (c94.out)) Z) (ZA Z Z Z (zf Z Z (nF (c94.out)) Z) (ZA Z Z Z (zf Z Z (nF (c94.out)) Z) (rU Z (wT Z c92) (zi Z (nF (c94.out)) Z) (oR Z (zi Z (yG c92.out) Z) (eN (zp Z (rR fL9 Z (oM Z f74 (oM Z fi68 ?_)))))))))))))))
      have q:=h82.el (wAE h80)
      obtain ⟨b133,off134,vs137,hA135,hC136,hr138⟩:=q
      obtain ⟨pA139,pc140,rfl,h141⟩:=hr138
      replace hC136:Cl U69 b133 (off134 + k55 * 1) [.slice pA139 x79.length pc140]:=hC136
      refine oR Z (zx Z Z hA135 Z zV zO (wAc h80)) (oL Z (hS71.ldC (f:=0) hC136 (v:=.slice pA139 x79.length pc140) Z Z zd Z) (oM Z f72 (bnK hm132 fun x142 h143 hm144=>?_)))
      have q:=h141.el (fun _=>rfl) (wAE h143)
      obtain ⟨b145,off146,hA147,hC148⟩:=q
      refine oR Z (ZQ Z Z hA147 Z zE zI (wAx h143) (wBE h143)) (oL Z (hS71.ldC (f:=0) hC148 (v:=jV x142) Z Z zP Z) (oA Z Z (oA Z Z (zj (zg (zF (rR fL3 Z (oM Z fi68 (oR Z (ZD (zU Z Z Z) (congrArg (jV) hi78.out)) (oA Z Z (zj ?_)))))))))))
      cases hm144
      exact zF ⟨Z,⟨U69,Z,f72,f73,f74,Z,Z,le70,hS71⟩⟩
    ·intro c92 hm151
     refine oF Z c92 (oF Z c92 (oF Z c92 (ZA Z Z Z (wBn Z Z Z) (ZA Z Z Z (wBn Z Z Z) (ZA Z Z Z (wBn Z Z Z) (ZA Z Z Z (wBn Z Z Z) (ZA Z Z Z (wBn Z Z Z) (ZA Z Z Z (wBn Z Z Z) (ZA Z Z Z (wBn Z Z Z) (ZA Z Z Z (wBn Z Z Z) (ZA Z Z Z (wBn Z Z Z) (oF Z c92 (oR Z (zh Z (zw c92.out) Z) (eN (zo Z (ZW (zg (zF (rR fL3 Z (oM Z fi68 (oR Z (ZD (zU Z Z Z) (congrArg (jV) hi78.out)) (oA Z Z (zj ?_)))))))))))))))))))))))
     cases hm151
     exact zF ⟨Z,⟨U69,Z,f72,f73,f74,f75,f76,le70,hS71⟩⟩
   ·rintro σ154 W155 ⟨U160,fi157,f163,f164,f165,f166,f167,le161,hS162⟩
    have c168:Hid (¬ ((↑(((↑x5.length:Int):Int) - 0).toNat:Int) < (↑x5.length:Int))):=zG (wAa)
    refine zB (sR fL4 Z (oM Z fi157 (oM Z f165 (oR Z (zN Z Z zV) (oR Z (zS Z Z Z) (eN (cF Z c168 (ZG (zW (zW (zr (zF (zB (sR fL2 Z (oM Z f167 (oR Z (Za Z Z) (eN (ifc hm56 ?_ ?_))))))))))))))))))
    ·intro c169 hm170
     refine zo (nC c169.out) (kN (sR fL1 Z (oA Z Z (eN (zB (sR fL1 Z (oA Z Z (eN (zL (bnK hm170 fun y193 hf190 hm189=>?_))))))))))
     have q:=wAu hf190
     obtain ⟨hle191,hf192⟩:=q
     replace hle191:=zG hle191
     refine CK.forN' (fun k188 l184 σ_ w_=>∃ (U_:PHeap) (A185:Option Addr) (c186:Nat),σ_ 13=jV (1 + ↑k188:Int)/\σ_ 1=jV p1/\σ_ 2=.pointer (some ⟨b2,0,none⟩)/\σ_ 7=.slice A15 x5.length c16/\σ_ 9=jV y60/\σ_ 12=.slice A185 l184.length c186/\PHeap.Le U160 U_/\sW w U U_ [.blk b2 34 B0,.row A185 c186 3 1 (nA KL.encI l184)] w_) hf192 ?_ ?_ ?_
     ·have hS194:=hS162.nilrow 3 1
      exact ⟨U160,none,0,rfl,f163,f164,f165,f166,rfl,(zZ _),(hS194.pick [1,0] _ (by decide) rfl)⟩
     ·rintro k188 l184 xx198 σ196 W197 hk201 ⟨U203,A185,c186,fi202,f206,f207,f208,f209,f210,le204,hS205⟩ hx199
      have c211:Hid ((1 + ↑k188:Int) <= 999):=zG (lp_le hk201)
      replace hk201:=zG hk201
      have hi212:Hid (w64 ((1 + ↑k188:Int) + 1)=(1 + ↑(k188 + 1):Int)):=zG (by have h1:=hle191.out;have h2:=c211.out;rw [wAK] <;> omega)
      refine zB (sR fL2 Z (oM Z fi202 (oR Z (Runs.leq Z Z Z) (eN (cT Z c211 (kN (zB (zL (sR fL1 Z (oA Z Z (eN (zL (bnK hx199 fun y232 hf229 hm228=>?_)))))))))))))
      have q:=wAu hf229
      obtain ⟨hle230,hf231⟩:=q
      replace hle230:=zG hle230
      refine CK.forN' (fun k227 l224 σ_ w_=>∃ (U_:PHeap) (A225:Option Addr) (c226:Nat),σ_ 14=jV (↑k227:Int)/\σ_ 1=jV p1/\σ_ 2=.pointer (some ⟨b2,0,none⟩)/\σ_ 7=.slice A15 x5.length c16/\σ_ 9=jV y60/\σ_ 12=.slice A225 l224.length c226/\σ_ 13=jV (1 + ↑k188:Int)/\PHeap.Le U203 U_/\sW w U U_ [.blk b2 34 B0,.row A225 c226 3 1 (nA KL.encI l224)] w_) hf231 ?_ ?_ ?_
      ·exact ⟨U203,A185,c186,Z,f206,f207,f208,f209,f210,fi202,(zZ _),hS205⟩
      ·rintro k227 l224 xx235 σ233 W234 hk238 ⟨U240,A225,c226,fi239,f243,f244,f245,f246,f247,f248,le241,hS242⟩ hx236
       have c249:Hid ((↑k227:Int) < (↑x5.length:Int)):=zG (wAy hk238)
       replace hk238:=zG hk238
       have hi250:Hid (w64 ((↑k227:Int) + 1)=(↑(k227 + 1):Int)):=zG (by have h1:=hle230.out;have h2:=c249.out;rw [wAK] <;> omega)
       refine zB (sR fL4 Z (oM Z fi239 (oM Z f245 (oR Z (zN Z Z zV) (oR Z (zS Z Z Z) (eN (cT Z c249 (kN (zB (zL (sR fL28 Z (oR Z (zA Z f244 zX Z ZR) (oL Z (hS242.ldB (j:=0) Z Z Z ZY (v:=.slice pA0_2 p0.Teams.length pc0_2) Z) (oM Z fi239 (bnK hx236 fun x251 h252 hm253=>?_)))))))))))))))
       have h254:=ha1.le le13
       have h255:=h254.le le30
       have h256:=h255.le le40
       have h257:=h256.le le161
       have h258:=h257.le le204
       have h259:=h258.le le241
       have q:=h259.el (wAE h252)
       obtain ⟨b260,off261,vs264,hA262,hC263,hr265⟩:=q
       obtain ⟨pA266,pc267,pA268,pc269,rfl,h270,h271⟩:=hr265
       replace hC263:Cl U240 b260 (off261 + k227 * 3) [jV x251.Bib,.slice pA266 x251.Classes.length pc267,.slice pA268 x251.Legs.length pc269]:=hC263
       refine oR Z (zx Z Z hA262 Z zy ZU (wAc h252)) (oR Z (zA Z Z zk Z zI) (oL Z (hS242.ldC (f:=0) hC263 (v:=jV x251.Bib) Z Z zP Z) (oM Z f248 (oR Z (yI Z Z Z) (oM Z Z (ifc hm253 ?_ ?_))))))
       ·intro c272 hm273
        refine ZM Z Z Z (wT Z c272) Z f245 (ZM Z Z Z (wT Z c272) Z fi239 (bnK hm273 fun x274 h275 hm276=>?_))
        have h277:=hs41.le le161
        have h278:=h277.le le204
        have h279:=h278.le le241
        have q:=h279.el (wAE h275)
        obtain ⟨b280,off281,vs284,hA282,hC283,hr285⟩:=q
        obtain ⟨pA286,pc287,rfl,h288⟩:=hr285
        replace hC283:Cl U240 b280 (off281 + k227 * 1) [.slice pA286 x274.length pc287]:=hC283
        refine rU Z (wT Z c272) (zx Z Z hA282 Z zV zO (wAc h275)) (ZN Z Z Z (wT Z c272) (hS242.ldC (f:=0) hC283 (v:=.slice pA286 x274.length pc287) Z Z zd Z) Z (rU Z (wT Z c272) (zN Z Z zE) (ZM Z Z Z (wT Z c272) Z f243 (rU Z (wT Z c272) (yF Z Z Z) (oR Z (zi Z (yG c272.out) Z) (oM Z Z (ifc hm276 ?_ ?_)))))))
        ·intro c289 hm290
         refine ZM Z Z Z (wT Z c289) Z f245 (ZM Z Z Z (wT Z c289) Z fi239 ?_)
         have q:=h279.el (wAE h275)
         obtain ⟨b291,off292,vs295,hA293,hC294,hr296⟩:=q
         obtain ⟨pA297,pc298,rfl,h299⟩:=hr296
         replace hC294:Cl U240 b291 (off292 + k227 * 1) [.slice pA297 x274.length pc298]:=hC294
         refine rU Z (wT Z c289) (zx Z Z hA293 Z zV zO (wAc h275)) (ZN Z Z Z (wT Z c289) (hS242.ldC (f:=0) hC294 (v:=.slice pA297 x274.length pc298) Z Z zd Z) Z (ZM Z Z Z (wT Z c289) Z f243 (bnK hm290 fun x300 h301 hm302=>?_)))
         have q:=h299.el (fun _=>rfl) (wAE h301)
         obtain ⟨b303,off304,hA305,hC306⟩:=q
         refine rU Z (wT Z c289) (ZQ Z Z hA305 Z zE zI (wAx h301) (wBE h301)) (ZN Z Z Z (wT Z c289) (hS242.ldC (f:=0) hC306 (v:=jV x300) Z Z zP Z) Z (ZM Z Z Z (wT Z c289) Z f246 (rU Z (wT Z c289) (yI Z Z Z) (oR Z (zi Z (yG c289.out) Z) (eN (ifc hm302 ?_ ?_))))))
         ·intro c307 hm308
          refine cT Z c307 (rR (.fl 0 (.fl 1 (.fx 2 (.fx 3 (.fl 4 (.nil)) .stop) .stop))) Z (oM Z f247 (oM Z f248 (ZP (pv:=[(0,jV (1 + ↑k188:Int))]) (zs:=[jV 0]) (cs:=[jV (1 + ↑k188:Int)]) Z Z Z Z Z (wAI Z wAU) zE zI Zu Z Z Z Z Z hS242 ?_))))
          intro W309 b310 hS311
          let B1:Res:=.row (some ⟨b310,0,none⟩) 1 3 1 (nA KL.encI [(1 + ↑k188:Int)])
          have hS313:sW w U U240 [B1,.blk b2 34 B0,.row A225 c226 3 1 (nA KL.encI l224)] W309:=hS311
          refine bnK hm308 fun x314 h315 hm316=>yC (j:=2) (enc:=KL.encI) (xs:=l224) (ys:=[(1 + ↑k188:Int)]) (zs:=x314) rfl rfl rfl rfl rfl Zf wEm rfl rfl rfl rfl rfl rfl hS313 rfl rfl rfl (hS313.srcR (j:=0) rfl (by decide) (wAN (f:=KL.encI) (sz:=1) (fun _=>rfl) [(1 + ↑k188:Int)])) (fun _=>rfl) (fun _=>rfl) h315 rfl ?_
          intro A317 c318 W319 hS320
          have hS321:sW w U U240 [B1,.blk b2 34 B0,.row A317 c318 3 1 (nA KL.encI x314)] W319:=hS320
          refine oA Z Z (zj (zg (zF (rR fL3 Z (oM Z fi239 (oR Z (ZD (zU Z Z Z) (congrArg (jV) hi250.out)) (oA Z Z (zj ?_))))))))
          cases hm316
          exact zF ⟨rfl,⟨U240,A317,c318,rfl,f243,f244,f245,f246,rfl,f248,le241,(hS321.pick [1,2] _ (by decide) rfl)⟩⟩
         ·intro c307 hm325
          refine cF Z c307 (ZW (zg (zF (rR fL3 Z (oM Z fi239 (oR Z (ZD (zU Z Z Z) (congrArg (jV) hi250.out)) (oA Z Z (zj ?_))))))))
          cases hm325
          exact zF ⟨Z,⟨U240,A225,c226,Z,f243,f244,f245,f246,f247,f248,le241,hS242⟩⟩
        ·intro c289 hm329
         refine oF Z c289 (oF Z c289 (oF Z c289 (oF Z c289 (oF Z c289 (oF Z c289 (oF Z c289 (oF Z c289 (oF Z c289 (oR Z (zh Z (zw c289.out) Z) (eN (zo Z (ZW (zg (zF (rR fL3 Z (oM Z fi239 (oR Z (ZD (zU Z Z Z) (congrArg (jV) hi250.out)) (oA Z Z (zj ?_)))))))))))))))))))
         cases hm329
         exact zF ⟨Z,⟨U240,A225,c226,Z,f243,f244,f245,f246,f247,f248,le241,hS242⟩⟩
       ·intro c272 hm333
        refine oF Z c272 (oF Z c272 (oF Z c272 (oF Z c272 (oF Z c272 (oF Z c272 (oF Z c272 (oR Z (zh Z (zw c272.out) Z) (oM Z Z (oN Z (oN Z (oN Z (oN Z (oN Z (oN Z (oN Z (oN Z (oN Z (oR Z (zh Z Z Z) (eN (zo Z (ZW (zg (zF (rR fL3 Z (oM Z fi239 (oR Z (ZD (zU Z Z Z) (congrArg (jV) hi250.out)) (oA Z Z (zj ?_))))))))))))))))))))))))))))
        cases hm333
        exact zF ⟨Z,⟨U240,A225,c226,Z,f243,f244,f245,f246,f247,f248,le241,hS242⟩⟩
      ·rintro σ337 W338 ⟨U346,A344,c345,fi340,f349,f350,f351,f352,f353,f354,le347,hS348⟩
       have c355:Hid (¬ ((↑(((↑x5.length:Int):Int) - 0).toNat:Int) < (↑x5.length:Int))):=zG (wAa)
       refine zB (sR fL4 Z (oM Z fi340 (oM Z f351 (oR Z (zN Z Z zV) (oR Z (zS Z Z Z) (eN (cF Z c355 (ZG (zW (zW (zr (zg (zF (rR fL3 Z (oM Z f354 (oR Z (ZD (zU Z Z Z) (congrArg (jV) hi212.out)) (oA Z Z (zj ?_))))))))))))))))))
       cases hm228
       exact zF ⟨Z,⟨U346,A344,c345,Z,f349,f350,f351,f352,f353,(le204.trans le347),hS348⟩⟩
     ·rintro σ359 W360 ⟨U368,A366,c367,fi362,f371,f372,f373,f374,f375,le369,hS370⟩
      have c376:Hid (¬ ((1 + ↑(((999 + 1):Int) - 1).toNat:Int) <= 999)):=zG (wNR)
      refine zB (sR fL2 Z (oM Z fi362 (oR Z (Runs.leq Z Z Z) (eN (cF Z c376 (ZG (zW (zW (zr (zF (sR fL5 Z (oM Z f375 (oM Z f374 (oA Z Z (oA Z Z (oA Z Z (eN (zM ?_))))))))))))))))))
      cases hm189
      exact ⟨rfl,_,(wQY rfl rfl rfl),U368,_,(hS370.pick [1] _ (by decide) rfl),A366,c367,rfl,rfl⟩
    ·intro c169 hm377
     refine zp (nF (c169.out)) (sR fL3 Z (oA Z Z (oA Z Z (oA Z Z (eN (zM (zC ?_)))))))
     have hS378:=hS162.nilrow 3 1
     cases hm377
     exact ⟨rfl,_,(wQY rfl rfl rfl),U160,_,(hS378.pick [0] _ (by decide) rfl),none,0,rfl,rfl⟩
 ·intro c21 hm380
  refine cT Z c21 (sR fL4 Z (oM Z Z (oA Z Z (oA Z Z (oA Z Z (eN (zM (zC ?_))))))))
  have hS381:=hS20.nilrow 3 1
  cases hm380
  exact ⟨rfl,_,(wQY rfl rfl rfl),U9,_,(hS381.pick [0] _ (by decide) rfl),none,0,rfl,rfl⟩
end Go.Proofs.YthbficbpebiekaaGreat
namespace Go.Proofs.YthbficbpebiekaaGreat
open Go.KL
set_option maxHeartbeats 4000000
theorem wEE (p0:wAB) (pA0_0:Option Addr) (pc0_0:Nat) (p1:wAB) (pA1_0:Option Addr) (pc1_0:Nat) (w:World) (U:PHeap) (hS:St0 w U []) (ha0:Sl U 1 pA0_0 pc0_0 p0.Classes.length (nA KL.encI p0.Classes)) (ha1:Sl U 1 pA1_0 pc1_0 p1.Classes.length (nA KL.encI p1.Classes)) {r:Bool} (hm:wBk p0 p1=some r):Gv Tryz.prog 102 [.agg #[.slice pA0_0 p0.Classes.length pc0_0,jV p0.Each,jV p0.Laps,jV p0.Spare,jV p0.Loop,jV p0.Unused],.agg #[.slice pA1_0 p1.Classes.length pc1_0,jV p1.Each,jV p1.Laps,jV p1.Spare,jV p1.Loop,jV p1.Unused]] w (wCj w [] U (fun U_ L_ v=>v=.bool r/\L_=[])):=by
 unfold wBk at hm
 refine Gv.of Tryz.func102 Z Tryz.ntmps102 Tryz.results102 Z (sR (.fx 0 (.fx 1 (.fl 2 (.nil)) .stop) .stop) Z ?_)
 let B0:List Value:=[.slice pA0_0 p0.Classes.length pc0_0,jV p0.Each,jV p0.Laps,jV p0.Spare,jV p0.Loop,jV p0.Unused]
 refine Ze (cs:=B0) rfl rfl rfl rfl rfl rfl (by rfl) hS ?_
 intro W1 b2 hS3
 let B1:List Value:=[.slice pA1_0 p1.Classes.length pc1_0,jV p1.Each,jV p1.Laps,jV p1.Spare,jV p1.Loop,jV p1.Unused]
 refine Ze (cs:=B1) rfl rfl rfl rfl rfl rfl (by rfl) hS3 ?_
 intro W5 b6 hS7
 refine oA Z Z (eN (sR (wLY (.fx 4 (wTo (.nil)) .stop)) Z (oR Z (zA Z Z zm Z zO) (oL Z (hS7.ldB (j:=1) Z Z Z zd (v:=.slice pA0_0 p0.Classes.length pc0_0) Z) (oR Z (zA Z Z zm Z zO) (oL Z (hS7.ldB (j:=0) Z Z Z zd (v:=.slice pA1_0 p1.Classes.length pc1_0) Z) (bnK hm fun x9 h10 hm11=>zQ 0 Z Z Z Z (zR Z Z Tryz.call20 (zH Z (zH Z ze)) Z) hS7 (fun hs=>wAt p0.Classes pA0_0 pc0_0 p1.Classes pA1_0 pc1_0 W5 U hs ha0 ha1 h10) (.inr Z) ?_)))))))
 rintro U12 L13 v14 W15 le16 hS17 ⟨rfl,rfl⟩
 have hS18:sW w U U12 [.blk b6 24 B1,.blk b2 24 B0] W15:=hS17
 refine oM Z Z (ifc hm11 ?_ ?_)
 ·intro c19 hm20
  refine zu Z Z Z (zJ Z Z (congrArg nD c19.out)) (fun _=>zA Z Z zm Z zI) (ZN Z Z Z (zJ Z Z (congrArg nD c19.out)) (hS18.ldB (j:=1) Z Z Z zP (v:=jV p0.Each) Z) Z (zu Z Z Z (zJ Z Z (congrArg nD c19.out)) (fun _=>zA Z Z zm Z zI) (ZN Z Z Z (zJ Z Z (congrArg nD c19.out)) (hS18.ldB (j:=0) Z Z Z zP (v:=jV p1.Each) Z) Z (zu Z Z Z (zJ Z Z (congrArg nD c19.out)) (fun _=>yI Z Z Z) (oR Z (zi Z (congrArg nD c19.out) Z) (oM Z Z (ifc hm20 ?_ ?_)))))))
  ·intro c21 hm22
   refine rU Z (wT Z c21) (zA Z Z zm Z zI) (ZN Z Z Z (wT Z c21) (hS18.ldB (j:=1) Z Z Z zP (v:=jV p0.Laps) Z) Z (rU Z (wT Z c21) (zA Z Z zm Z zI) (ZN Z Z Z (wT Z c21) (hS18.ldB (j:=0) Z Z Z zP (v:=jV p1.Laps) Z) Z (rU Z (wT Z c21) (yI Z Z Z) (oR Z (zi Z (yG c21.out) Z) (oM Z Z (ifc hm22 ?_ ?_)))))))
   ·intro c23 hm24
    refine rU Z (wT Z c23) (zA Z Z zm Z zI) (ZN Z Z Z (wT Z c23) (hS18.ldB (j:=1) Z Z Z zP (v:=jV p0.Spare) Z) Z (rU Z (wT Z c23) (zA Z Z zm Z zI) (ZN Z Z Z (wT Z c23) (hS18.ldB (j:=0) Z Z Z zP (v:=jV p1.Spare) Z) Z (rU Z (wT Z c23) (yI Z Z Z) (oR Z (zi Z (yG c23.out) Z) (oM Z Z (ifc hm24 ?_ ?_)))))))
    ·intro c25 hm26
     refine rU Z (wT Z c25) (zA Z Z zm Z zI) (ZN Z Z Z (wT Z c25) (hS18.ldB (j:=1) Z Z Z zP (v:=jV p0.Loop) Z) Z (rU Z (wT Z c25) (zA Z Z zm Z zI) (ZN Z Z Z (wT Z c25) (hS18.ldB (j:=0) Z Z Z zP (v:=jV p1.Loop) Z) Z (rU Z (wT Z c25) (yI Z Z Z) (oR Z (zi Z (yG c25.out) Z) (oM Z Z (ifc hm26 ?_ ?_)))))))
     ·intro c27 hm28
      refine rU Z (wT Z c27) (zA Z Z zm Z zI) (ZN Z Z Z (wT Z c27) (hS18.ldB (j:=1) Z Z Z zP (v:=jV p0.Unused) Z) Z (rU Z (wT Z c27) (zA Z Z zm Z zI) (ZN Z Z Z (wT Z c27) (hS18.ldB (j:=0) Z Z Z zP (v:=jV p1.Unused) Z) Z (rU Z (wT Z c27) (yI Z Z Z) (oR Z (zi Z (yG c27.out) Z) (oA Z Z (eN (zM ?_))))))))
      cases hm28
      exact ⟨rfl,_,(zt rfl),U12,_,(hS18.pick [] _ (by decide) rfl),rfl,rfl⟩
     ·intro c27 hm29
      refine oF Z c27 (oF Z c27 (oF Z c27 (oF Z c27 (oF Z c27 (oR Z (zh Z (zw c27.out) Z) (oA Z Z (eN (zM ?_))))))))
      have hE:=nB hm29;first | subst r | cases hE
      exact ⟨rfl,_,(zt rfl),U12,_,(hS18.pick [] _ (by decide) rfl),rfl,rfl⟩
    ·intro c25 hm30
     refine oF Z c25 (oF Z c25 (oF Z c25 (oF Z c25 (oF Z c25 (oR Z (zh Z (zw c25.out) Z) (oM Z Z (oN Z (oN Z (oN Z (oN Z (oN Z (oR Z (zh Z Z Z) (oA Z Z (eN (zM ?_)))))))))))))))
     have hE:=nB hm30;first | subst r | cases hE
     exact ⟨rfl,_,(zt rfl),U12,_,(hS18.pick [] _ (by decide) rfl),rfl,rfl⟩
   ·intro c23 hm31
    refine oF Z c23 (oF Z c23 (oF Z c23 (oF Z c23 (oF Z c23 (oR Z (zh Z (zw c23.out) Z) (oM Z Z (oN Z (oN Z (oN Z (oN Z (oN Z (oR Z (zh Z Z Z) (oM Z Z (oN Z (oN Z (oN Z (oN Z (oN Z (oR Z (zh Z Z Z) (oA Z Z (eN (zM ?_))))))))))))))))))))))
    have hE:=nB hm31;first | subst r | cases hE
    exact ⟨rfl,_,(zt rfl),U12,_,(hS18.pick [] _ (by decide) rfl),rfl,rfl⟩
  ·intro c21 hm32
   refine oF Z c21 (oF Z c21 (oF Z c21 (oF Z c21 (oF Z c21 (oR Z (zh Z (zw c21.out) Z) (oM Z Z (oN Z (oN Z (oN Z (oN Z (oN Z (oR Z (zh Z Z Z) (oM Z Z (oN Z (oN Z (oN Z (oN Z (oN Z (oR Z (zh Z Z Z) (oM Z Z (oN Z (oN Z (oN Z (oN Z (oN Z (oR Z (zh Z Z Z) (oA Z Z (eN (zM ?_)))))))))))))))))))))))))))))
   have hE:=nB hm32;first | subst r | cases hE
   exact ⟨rfl,_,(zt rfl),U12,_,(hS18.pick [] _ (by decide) rfl),rfl,rfl⟩
 ·intro c19 hm33
  refine ZA Z Z Z (zf Z Z (congrArg nD (nE.2 c19.out)) Z) (ZA Z Z Z (zf Z Z (congrArg nD (nE.2 c19.out)) Z) (ZA Z Z Z (zf Z Z (congrArg nD (nE.2 c19.out)) Z) (ZA Z Z Z (zf Z Z (congrArg nD (nE.2 c19.out)) Z) (ZA Z Z Z (zf Z Z (congrArg nD (nE.2 c19.out)) Z) (oR Z (zh Z (congrArg nD (nE.2 c19.out)) Z) (oM Z Z (oN Z (oN Z (oN Z (oN Z (oN Z (oR Z (zh Z Z Z) (oM Z Z (oN Z (oN Z (oN Z (oN Z (oN Z (oR Z (zh Z Z Z) (oM Z Z (oN Z (oN Z (oN Z (oN Z (oN Z (oR Z (zh Z Z Z) (oM Z Z (oN Z (oN Z (oN Z (oN Z (oN Z (oR Z (zh Z Z Z) (oA Z Z (eN (zM ?_))))))))))))))))))))))))))))))))))))
  have hE:=nB hm33;first | subst r | cases hE
  exact ⟨rfl,_,(zt rfl),U12,_,(hS18.pick [] _ (by decide) rfl),rfl,rfl⟩
theorem wEW (p0:List Bool) (pA0:Option Addr) (pc0:Nat) (p1:List Bool) (pA1:Option Addr) (pc1:Nat) (w:World) (U:PHeap) (hS:St0 w U []) (ha0:Sl U 1 pA0 pc0 p0.length (nA KL.encT p0)) (ha1:Sl U 1 pA1 pc1 p1.length (nA KL.encT p1)) {r:Bool} (hm:wBW p0 p1=some r):Gv Tryz.prog 179 [.slice pA0 p0.length pc0,.slice pA1 p1.length pc1] w (wCj w [] U (fun U_ L_ v=>v=.bool r/\L_=[])):=by
 unfold wBW at hm
 refine Gv.of Tryz.func179 Z Tryz.ntmps179 Tryz.results179 Z (sR fL1 Z (oA Z Z (eN (zB (sR fL5 Z (oM Z Z (oR Z (zN Z Z ZO) (oM Z Z (oR Z (zN Z Z ZO) (oR Z (ZV Z Z Z) (eN ?_)))))))))))
 by_cases c1:(↑p0.length:Int)=(↑p1.length:Int)
 ·have hm2:=hm;rw [if_pos c1] at hm2;replace c1:=zG c1
  refine zo (zw (fun h=>h c1.out)) (kN (zB (sR fL3 Z (oM Z Z (oR Z (zN Z Z ZO) (oM Z Z (eN (zL ?_))))))))
  have q:=wCM hm2
  obtain ⟨r5,hX6⟩:=q
  have q:=wCL hX6
  obtain ⟨hle7,hf8⟩:=q
  replace hle7:=zG hle7
  refine yK (fun k4 _ σ_ w_=>∃ (U_:PHeap),σ_ 13=jV (↑k4:Int)/\σ_ 0=.slice pA0 p0.length pc0/\σ_ 1=.slice pA1 p1.length pc1/\σ_ 12=jV (↑p0.length:Int)/\PHeap.Le U U_/\sW w U U_ [] w_) hf8 ?_ ?_ ?_
  ·exact ⟨U,Z,Z,Z,Z,(zZ _),hS⟩
  ·rintro k4 ⟨⟩ xx11 σ9 W10 hk14 ⟨U16,fi15,f19,f20,f21,le17,hS18⟩ hx12 hb13
   try dsimp only at hx12
   have c22:Hid ((↑k4:Int) < (↑p0.length:Int)):=zG (wAy hk14)
   replace hk14:=zG hk14
   have hi23:Hid (w64 ((↑k4:Int) + 1)=(↑(k4 + 1):Int)):=zG (by have h1:=hle7.out;have h2:=c22.out;rw [wAK] <;> omega)
   refine sR fL1 rfl (zu rfl rfl rfl rfl (fun _=>zS rfl fi15 f21) (eN (zB (cT Z c22 (kN (zB (zL (sR fL2 rfl (ZM rfl rfl rfl rfl rfl fi15 (OKS.ra rfl rfl rfl rfl rfl rfl (eN (zB (Zv Zt [3,3,3,1,3,3,3,1,3] fL9 (by kernel_rfl) ?_)))))))))))))
   have hS24:=hS18.drew
   generalize hw_W25:({ W10 with drawn:=W10.drawn + 1 }:World)=W25 at hS24 ⊢
   refine oM Z f19 (oM Z Z (bnK hx12 fun x26 h27 hm28=>?_))
   have h29:=ha0.le le17
   have q:=h29.el (fun _=>rfl) (wAE h27)
   obtain ⟨b30,off31,hA32,hC33⟩:=q
   refine oR Z (zx Z Z hA32 Z ZO Tryz.sizeOf4 (wAc h27)) (oL Z (hS24.ldC (f:=0) hC33 (v:=.bool x26) Z Z Tryz.isAgg4 Z) (oM Z f20 (oM Z Z (bnK hm28 fun x34 h35 hm36=>?_))))
   have h37:=ha1.le le17
   have q:=h37.el (fun _=>rfl) (wAE h35)
   obtain ⟨b38,off39,hA40,hC41⟩:=q
   refine oR Z (zx Z Z hA40 Z ZO Tryz.sizeOf4 (wAc h35)) (oL Z (hS24.ldC (f:=0) hC41 (v:=.bool x34) Z Z Tryz.isAgg4 Z) (oR Z (Runs.neB Z Z Z Tryz.runUnderlying4) (eN (ifc hm36 ?_ ?_))))
   ·intro c42 hm43
    refine zo (nC c42.out) (ZW (zg (zF (rR fL2 Z (oR Z (ZD (zU Z fi15 Z) (congrArg (jV) hi23.out)) (oM Z Z (zj ?_)))))))
    obtain rfl:=nB hm43
    exact zF ⟨Z,_,Z,⟨U16,Z,f19,f20,f21,le17,hS24⟩⟩
   ·intro c42 hm44
    refine zp (nF (c42.out)) (sR fL1 Z (oA Z Z (eN (zM (zK (zC ?_))))))
    have q:=wAF hm44
    obtain ⟨v45,hm46,e47⟩:=q
    obtain rfl:=wBd hm2 hX6 (hb13 v45 e47)
    refine zC (zK (zC ?_))
    have hE:=nB hm46;first | subst r | cases hE
    exact ⟨Z,_,(zt Z),U16,_,hS24,Z,Z⟩
  ·rintro ⟨⟩ σ48 W49 ⟨U52,fi51,f55,f56,f57,le53,hS54⟩ hb50
   have hm58:=wCv hm2 hX6 hb50
   try dsimp only at hm58
   have c59:Hid (¬ ((↑(((↑p0.length:Int):Int) - 0).toNat:Int) < (↑p0.length:Int))):=zG (wAa)
   refine sR fL1 Z (oR Z (zS Z fi51 f57) (eN (zB (cF Z c59 (ZG (zW (zW (zr (zF (sR fL1 Z (oA Z Z (eN (zM ?_)))))))))))))
   have hE:=nB hm58;first | subst r | cases hE
   exact ⟨Z,_,(zt Z),U52,_,hS54,Z,Z⟩
 ·have hm60:=hm;rw [if_neg c1] at hm60;replace c1:=zG c1
  refine cT Z c1 (sR fL1 Z (oA Z Z (eN (zM (zC ?_)))))
  have hE:=nB hm60;first | subst r | cases hE
  exact ⟨Z,_,(zt Z),U,_,hS,Z,Z⟩
theorem wDj (p0:List (List Bool)) (pA0:Option Addr) (pc0:Nat) (p1:List (List Bool)) (pA1:Option Addr) (pc1:Nat) (w:World) (U:PHeap) (hS:St0 w U []) (ha0:SlR U wFU pA0 pc0 p0) (ha1:SlR U wFU pA1 pc1 p1) {r:Bool} (hm:wBI p0 p1=some r):Gv Tryz.prog 103 [.slice pA0 p0.length pc0,.slice pA1 p1.length pc1] w (wCj w [] U (fun U_ L_ v=>v=.bool r/\L_=[])):=by
 unfold wBI at hm
 refine Gv.of Tryz.func103 Z Tryz.ntmps103 Tryz.results103 Z (sR fL1 Z (oA Z Z (eN (zB (sR fL5 Z (oM Z Z (oR Z (zN Z Z ZC) (oM Z Z (oR Z (zN Z Z ZC) (oR Z (ZV Z Z Z) (eN ?_)))))))))))
 by_cases c1:(↑p0.length:Int)=(↑p1.length:Int)
 ·have hm2:=hm;rw [if_pos c1] at hm2;replace c1:=zG c1
  refine zo (zw (fun h=>h c1.out)) (kN (zB (sR fL3 Z (oM Z Z (oR Z (zN Z Z ZC) (oM Z Z (eN (zL ?_))))))))
  have q:=wCM hm2
  obtain ⟨r5,hX6⟩:=q
  have q:=wCL hX6
  obtain ⟨hle7,hf8⟩:=q
  replace hle7:=zG hle7
  refine yK (fun k4 _ σ_ w_=>∃ (U_:PHeap),σ_ 13=jV (↑k4:Int)/\σ_ 0=.slice pA0 p0.length pc0/\σ_ 1=.slice pA1 p1.length pc1/\σ_ 12=jV (↑p0.length:Int)/\PHeap.Le U U_/\sW w U U_ [] w_) hf8 ?_ ?_ ?_
  ·exact ⟨U,Z,Z,Z,Z,(zZ _),hS⟩
  ·rintro k4 ⟨⟩ xx11 σ9 W10 hk14 ⟨U16,fi15,f19,f20,f21,le17,hS18⟩ hx12 hb13
   try dsimp only at hx12
   have c22:Hid ((↑k4:Int) < (↑p0.length:Int)):=zG (wAy hk14)
   replace hk14:=zG hk14
   have hi23:Hid (w64 ((↑k4:Int) + 1)=(↑(k4 + 1):Int)):=zG (by have h1:=hle7.out;have h2:=c22.out;rw [wAK] <;> omega)
   refine sR fL1 rfl (zu rfl rfl rfl rfl (fun _=>zS rfl fi15 f21) (eN (zB (cT Z c22 (kN (zB (zL (sR fL2 rfl (ZM rfl rfl rfl rfl rfl fi15 (OKS.ra rfl rfl rfl rfl rfl rfl (eN (zB (Zv Zt [3,3,3,1,3,3,3,1,2,3] (wSO (.fx 8 (.fl 9 (.nil)) .stop)) (by kernel_rfl) ?_)))))))))))))
   have hS24:=hS18.drew
   generalize hw_W25:({ W10 with drawn:=W10.drawn + 1 }:World)=W25 at hS24 ⊢
   refine oM Z f19 (oM Z Z (bnK hx12 fun x26 h27 hm28=>?_))
   have h29:=ha0.le le17
   have q:=h29.el (wAE h27)
   obtain ⟨b30,off31,vs34,hA32,hC33,hr35⟩:=q
   obtain ⟨pA36,pc37,rfl,h38⟩:=hr35
   replace hC33:Cl U16 b30 (off31 + k4 * 1) [.slice pA36 x26.length pc37]:=hC33
   refine oR Z (zx Z Z hA32 Z ZC yL (wAc h27)) (oL Z (hS24.ldC (f:=0) hC33 (v:=.slice pA36 x26.length pc37) Z Z yX Z) (oM Z f20 (oM Z Z (bnK hm28 fun x39 h40 hm41=>?_))))
   have h42:=ha1.le le17
   have q:=h42.el (wAE h40)
   obtain ⟨b43,off44,vs47,hA45,hC46,hr48⟩:=q
   obtain ⟨pA49,pc50,rfl,h51⟩:=hr48
   replace hC46:Cl U16 b43 (off44 + k4 * 1) [.slice pA49 x39.length pc50]:=hC46
   refine oR Z (zx Z Z hA45 Z ZC yL (wAc h40)) (oL Z (hS24.ldC (f:=0) hC46 (v:=.slice pA49 x39.length pc50) Z Z yX Z) (bnK hm41 fun x52 h53 hm54=>zQ 0 Z Z Z Z (zR Z Z Tryz.call179 (zH Z (zH Z ze)) Z) hS24 (fun hs=>wEW x26 pA36 pc37 x39 pA49 pc50 W25 U16 hs h38 h51 h53) (.inr Z) ?_))
   rintro U55 L56 v57 W58 le59 hS60 ⟨rfl,rfl⟩
   have hS61:sW w U U55 [] W58:=hS60
   refine oR Z (Za Z Z) (eN (ifc hm54 ?_ ?_))
   ·intro c62 hm63
    refine zo (nC c62.out) (ZW (zg (zF (rR fL2 Z (oR Z (ZD (zU Z fi15 Z) (congrArg (jV) hi23.out)) (oM Z Z (zj ?_)))))))
    obtain rfl:=nB hm63
    exact zF ⟨Z,_,Z,⟨U55,Z,f19,f20,f21,(le17.trans le59),hS61⟩⟩
   ·intro c62 hm64
    refine zp (nF (c62.out)) (sR fL1 Z (oA Z Z (eN (zM (zK (zC ?_))))))
    have q:=wAF hm64
    obtain ⟨v65,hm66,e67⟩:=q
    obtain rfl:=wBd hm2 hX6 (hb13 v65 e67)
    refine zC (zK (zC ?_))
    have hE:=nB hm66;first | subst r | cases hE
    exact ⟨Z,_,(zt Z),U55,_,hS61,Z,Z⟩
  ·rintro ⟨⟩ σ68 W69 ⟨U72,fi71,f75,f76,f77,le73,hS74⟩ hb70
   have hm78:=wCv hm2 hX6 hb70
   try dsimp only at hm78
   have c79:Hid (¬ ((↑(((↑p0.length:Int):Int) - 0).toNat:Int) < (↑p0.length:Int))):=zG (wAa)
   refine sR fL1 Z (oR Z (zS Z fi71 f77) (eN (zB (cF Z c79 (ZG (zW (zW (zr (zF (sR fL1 Z (oA Z Z (eN (zM ?_)))))))))))))
   have hE:=nB hm78;first | subst r | cases hE
   exact ⟨Z,_,(zt Z),U72,_,hS74,Z,Z⟩
 ·have hm80:=hm;rw [if_neg c1] at hm80;replace c1:=zG c1
  refine cT Z c1 (sR fL1 Z (oA Z Z (eN (zM (zC ?_)))))
  have hE:=nB hm80;first | subst r | cases hE
  exact ⟨Z,_,(zt Z),U,_,hS,Z,Z⟩
theorem wFY (p0:wAA) (pA0_0_0:Option Addr) (pc0_0_0:Nat) (pA0_2:Option Addr) (pc0_2:Nat) (p1:wAA) (pA1_0_0:Option Addr) (pc1_0_0:Nat) (pA1_2:Option Addr) (pc1_2:Nat) (w:World) (U:PHeap) (hS:St0 w U []) (ha0:Sl U 1 pA0_0_0 pc0_0_0 p0.Rules.Classes.length (nA KL.encI p0.Rules.Classes)) (ha1:SlR U wCS pA0_2 pc0_2 p0.Teams) (ha2:Sl U 1 pA1_0_0 pc1_0_0 p1.Rules.Classes.length (nA KL.encI p1.Rules.Classes)) (ha3:SlR U wCS pA1_2 pc1_2 p1.Teams) {r:Bool} (hm:wBx p0 p1=some r):Gv Tryz.prog 27 [.agg #[.slice pA0_0_0 p0.Rules.Classes.length pc0_0_0,jV p0.Rules.Each,jV p0.Rules.Laps,jV p0.Rules.Spare,jV p0.Rules.Loop,jV p0.Rules.Unused,jV p0.Start,.slice pA0_2 p0.Teams.length pc0_2],.agg #[.slice pA1_0_0 p1.Rules.Classes.length pc1_0_0,jV p1.Rules.Each,jV p1.Rules.Laps,jV p1.Rules.Spare,jV p1.Rules.Loop,jV p1.Rules.Unused,jV p1.Start,.slice pA1_2 p1.Teams.length pc1_2]] w (wCj w [] U (fun U_ L_ v=>v=.bool r/\L_=[])):=by
 unfold wBx at hm
 refine Gv.of Tryz.func27 Z Tryz.ntmps27 Tryz.results27 Z (sR (.fx 0 (.fx 1 (.fl 2 (.nil)) .stop) .stop) Z ?_)
 let B0:List Value:=[.slice pA0_0_0 p0.Rules.Classes.length pc0_0_0,jV p0.Rules.Each,jV p0.Rules.Laps,jV p0.Rules.Spare,jV p0.Rules.Loop,jV p0.Rules.Unused,jV p0.Start,.slice pA0_2 p0.Teams.length pc0_2]
 refine Ze (cs:=B0) rfl rfl rfl rfl rfl rfl (by rfl) hS ?_
 intro W1 b2 hS3
 let B1:List Value:=[.slice pA1_0_0 p1.Rules.Classes.length pc1_0_0,jV p1.Rules.Each,jV p1.Rules.Laps,jV p1.Rules.Spare,jV p1.Rules.Loop,jV p1.Rules.Unused,jV p1.Start,.slice pA1_2 p1.Teams.length pc1_2]
 refine Ze (cs:=B1) rfl rfl rfl rfl rfl rfl (by rfl) hS3 ?_
 intro W5 b6 hS7
 refine oA Z Z (eN (zB (sR (wLY (.fx 4 (wTn (.nil)) .stop)) Z (oR Z (zA Z Z zY Z ZX) (oL Z (hS7.ldBA (j:=1) Z Z Z ya ZX (vs:=[.slice pA0_0_0 p0.Rules.Classes.length pc0_0_0,jV p0.Rules.Each,jV p0.Rules.Laps,jV p0.Rules.Spare,jV p0.Rules.Loop,jV p0.Rules.Unused]) Z Z) (oR Z (zA Z Z zY Z ZX) (oL Z (hS7.ldBA (j:=0) Z Z Z ya ZX (vs:=[.slice pA1_0_0 p1.Rules.Classes.length pc1_0_0,jV p1.Rules.Each,jV p1.Rules.Laps,jV p1.Rules.Spare,jV p1.Rules.Loop,jV p1.Rules.Unused]) Z Z) (bnK hm fun x9 h10 hm11=>zQ 0 Z Z Z Z (zR Z Z Tryz.call102 (zH Z (zH Z ze)) Z) hS7 (fun hs=>wEE p0.Rules pA0_0_0 pc0_0_0 p1.Rules pA1_0_0 pc1_0_0 W5 U hs ha0 ha2 h10) (.inr Z) ?_))))))))
 rintro U12 L13 v14 W15 le16 hS17 ⟨rfl,rfl⟩
 have hS18:sW w U U12 [.blk b6 27 B1,.blk b2 27 B0] W15:=hS17
 refine oR Z (Za Z Z) (oM Z Z (ifc hm11 ?_ ?_))
 ·intro c19 hm20
  refine zu Z Z Z (zJ Z Z (nC c19.out)) (fun _=>zA Z Z zY Z zI) (ZN Z Z Z (zJ Z Z (nC c19.out)) (hS18.ldB (j:=1) Z Z Z zP (v:=jV p0.Start) Z) Z (zu Z Z Z (zJ Z Z (nC c19.out)) (fun _=>zA Z Z zY Z zI) (ZN Z Z Z (zJ Z Z (nC c19.out)) (hS18.ldB (j:=0) Z Z Z zP (v:=jV p1.Start) Z) Z (zu Z Z Z (zJ Z Z (nC c19.out)) (fun _=>ZV Z Z Z) (oR Z (zh Z (nC c19.out) Z) (oM Z Z (ifc hm20 ?_ ?_)))))))
  ·intro c21 hm22
   refine zu Z Z Z (zJ Z Z (zw (fun h=>h c21.out))) (fun _=>zA Z Z zY Z Zb) (ZN Z Z Z (zJ Z Z (zw (fun h=>h c21.out))) (hS18.ldB (j:=1) Z Z Z Zg (v:=.slice pA0_2 p0.Teams.length pc0_2) Z) Z (zu Z Z Z (zJ Z Z (zw (fun h=>h c21.out))) (fun _=>zN Z Z zn) (zu Z Z Z (zJ Z Z (zw (fun h=>h c21.out))) (fun _=>zA Z Z zY Z Zb) (ZN Z Z Z (zJ Z Z (zw (fun h=>h c21.out))) (hS18.ldB (j:=0) Z Z Z Zg (v:=.slice pA1_2 p1.Teams.length pc1_2) Z) Z (zu Z Z Z (zJ Z Z (zw (fun h=>h c21.out))) (fun _=>zN Z Z zn) (zu Z Z Z (zJ Z Z (zw (fun h=>h c21.out))) (fun _=>ZV Z Z Z) (oR Z (zh Z (zw (fun h=>h c21.out)) Z) (eN (ifc hm22 ?_ ?_)))))))))
   ·intro c23 hm24
    refine zo (zw (fun h=>h c23.out)) (kN (zB (sR fL4 Z (oR Z (zA Z Z zY Z Zb) (oL Z (hS18.ldB (j:=1) Z Z Z Zg (v:=.slice pA0_2 p0.Teams.length pc0_2) Z) (oR Z (zN Z Z zn) (oM Z Z (eN (zL ?_)))))))))
    have q:=wCM hm24
    obtain ⟨r27,hX28⟩:=q
    have q:=wCL hX28
    obtain ⟨hle29,hf30⟩:=q
    replace hle29:=zG hle29
    refine yK (fun k26 _ σ_ w_=>∃ (U_:PHeap),σ_ 36=jV (↑k26:Int)/\σ_ 3=.pointer (some ⟨b6,0,none⟩)/\σ_ 34=.slice pA0_2 p0.Teams.length pc0_2/\σ_ 35=jV (↑p0.Teams.length:Int)/\PHeap.Le U12 U_/\sW w U U_ [.blk b6 27 B1,.blk b2 27 B0] w_) hf30 ?_ ?_ ?_
    ·exact ⟨U12,Z,Z,Z,Z,(zZ _),hS18⟩
    ·rintro k26 ⟨⟩ xx33 σ31 W32 hk36 ⟨U38,fi37,f41,f42,f43,le39,hS40⟩ hx34 hb35
     try dsimp only at hx34
     have c44:Hid ((↑k26:Int) < (↑p0.Teams.length:Int)):=zG (wAy hk36)
     replace hk36:=zG hk36
     have hi45:Hid (w64 ((↑k26:Int) + 1)=(↑(k26 + 1):Int)):=zG (by have h1:=hle29.out;have h2:=c44.out;rw [wAK] <;> omega)
     refine sR fL1 Z (oR Z (zS Z fi37 f43) (eN (zB (cT Z c44 (kN (zB (zL (sR (wEK (.fx 3 (.fl 4 (.fx 5 (.nil) .stop)) .stop)) Z (oM Z fi37 (bnK hx34 fun x46 h47 hm48=>?_))))))))))
     have h49:=ha1.le le16
     have h50:=h49.le le39
     have q:=h50.el (wAE h47)
     obtain ⟨b51,off52,vs55,hA53,hC54,hr56⟩:=q
     obtain ⟨pA57,pc58,pA59,pc60,rfl,h61,h62⟩:=hr56
     replace hC54:Cl U38 b51 (off52 + k26 * 3) [jV x46.Bib,.slice pA57 x46.Classes.length pc58,.slice pA59 x46.Legs.length pc60]:=hC54
     refine oR Z (zx Z f42 hA53 fi37 zn zz (wAc h47)) (oL Z (hS40.ldCA (f:=0) hC54 Z Z yD zz (us:=[jV x46.Bib,.slice pA57 x46.Classes.length pc58,.slice pA59 x46.Legs.length pc60]) Z Z) ?_)
     let B2:List Value:=[jV 0,.slice none 0 0,.slice none 0 0]
     refine zq (cs:=B2) Z Z Z Z Z Zi Z hS40 ?_
     intro W63 b64 hS65
     refine oA Z Z ?_
     let B3:List Value:=[jV x46.Bib,.slice pA57 x46.Classes.length pc58,.slice pA59 x46.Legs.length pc60]
     refine ZE (j:=0) (vs:=B3) Z Z Z Z hS65 Z Z Z Z zz (zD Z) Z Z Z ?_
     intro W67 hS68
     have hS69:sW w U U38 [.blk b64 127 B3,.blk b6 27 B1,.blk b2 27 B0] W67:=hS68
     refine eN (sR (wIQ (.fx 5 (.fx 6 (.nil) .stop) .stop)) Z (oR Z (zA Z f41 zY Z Zb) (oL Z (hS69.ldB (j:=1) Z Z Z Zg (v:=.slice pA1_2 p1.Teams.length pc1_2) Z) (oM Z Z (bnK hm48 fun x70 h71 hm72=>?_)))))
     have h73:=ha3.le le16
     have h74:=h73.le le39
     have q:=h74.el (wAE h71)
     obtain ⟨b75,off76,vs79,hA77,hC78,hr80⟩:=q
     obtain ⟨pA81,pc82,pA83,pc84,rfl,h85,h86⟩:=hr80
     replace hC78:Cl U38 b75 (off76 + k26 * 3) [jV x70.Bib,.slice pA81 x70.Classes.length pc82,.slice pA83 x70.Legs.length pc84]:=hC78
     refine oR Z (zx Z Z hA77 Z zn zz (wAc h71)) (oL Z (hS69.ldCA (f:=0) hC78 Z Z yD zz (us:=[jV x70.Bib,.slice pA81 x70.Classes.length pc82,.slice pA83 x70.Legs.length pc84]) Z Z) (zq (cs:=B2) Z Z Z Z Z Zi Z hS69 ?_))
     intro W87 b88 hS89
     let B4:List Value:=[jV x70.Bib,.slice pA81 x70.Classes.length pc82,.slice pA83 x70.Legs.length pc84]
     refine ZE (j:=0) (vs:=B4) Z Z Z Z hS89 Z Z Z Z zz (zD Z) Z Z Z ?_
     intro W91 hS92
     have hS93:sW w U U38 [.blk b88 127 B4,.blk b64 127 B3,.blk b6 27 B1,.blk b2 27 B0] W91:=hS92
     refine eN (zB (sR (wTf (.fx 10 (wSS (.nil)) .stop)) Z (oR Z (zA Z Z zl Z zI) (oL Z (hS93.ldB (j:=1) Z Z Z zP (v:=jV x46.Bib) Z) (oR Z (zA Z Z zl Z zI) (oL Z (hS93.ldB (j:=0) Z Z Z zP (v:=jV x70.Bib) Z) (oR Z (ZV Z Z Z) (oM Z Z (ifc hm72 ?_ ?_)))))))))
     ·intro c94 hm95
      refine zu Z Z Z (zJ Z Z (zw (fun h=>h c94.out))) (fun _=>zA Z Z zl Z zO) (ZN Z Z Z (zJ Z Z (zw (fun h=>h c94.out))) (hS93.ldB (j:=1) Z Z Z zd (v:=.slice pA57 x46.Classes.length pc58) Z) Z (zu Z Z Z (zJ Z Z (zw (fun h=>h c94.out))) (fun _=>zA Z Z zl Z zO) (ZN Z Z Z (zJ Z Z (zw (fun h=>h c94.out))) (hS93.ldB (j:=0) Z Z Z zd (v:=.slice pA81 x70.Classes.length pc82) Z) Z (bnK hm95 fun x96 h97 hm98=>zQ 0 Z Z Z (zJ Z Z (zw (fun h=>h c94.out))) (zR Z Z Tryz.call20 (zH Z (zH Z ze)) Z) hS93 (fun hs=>wAt x46.Classes pA57 pc58 x70.Classes pA81 pc82 W91 U38 hs h61 h85 h97) (.inr Z) ?_))))
      rintro U99 L100 v101 W102 le103 hS104 ⟨rfl,rfl⟩
      have hS105:sW w U U99 [.blk b88 127 B4,.blk b64 127 B3,.blk b6 27 B1,.blk b2 27 B0] W102:=hS104
      refine zu Z Z Z (zJ Z Z (zw (fun h=>h c94.out))) (fun _=>Za Z Z) (oR Z (zh Z (zw (fun h=>h c94.out)) Z) (oM Z Z (ifc hm98 ?_ ?_)))
      ·intro c106 hm107
       refine zu Z Z Z (zJ Z Z (nC c106.out)) (fun _=>zA Z Z zl Z Zo) (ZN Z Z Z (zJ Z Z (nC c106.out)) (hS105.ldB (j:=1) Z Z Z Zw (v:=.slice pA59 x46.Legs.length pc60) Z) Z (zu Z Z Z (zJ Z Z (nC c106.out)) (fun _=>zN Z Z ZI) (zu Z Z Z (zJ Z Z (nC c106.out)) (fun _=>zA Z Z zl Z Zo) (ZN Z Z Z (zJ Z Z (nC c106.out)) (hS105.ldB (j:=0) Z Z Z Zw (v:=.slice pA83 x70.Legs.length pc84) Z) Z (zu Z Z Z (zJ Z Z (nC c106.out)) (fun _=>zN Z Z ZI) (zu Z Z Z (zJ Z Z (nC c106.out)) (fun _=>ZV Z Z Z) (oR Z (zh Z (nC c106.out) Z) (eN (ifc hm107 ?_ ?_)))))))))
       ·intro c108 hm109
        refine zo (zw (fun h=>h c108.out)) (kN (sR fL4 Z (oR Z (zA Z Z zl Z Zo) (oL Z (hS105.ldB (j:=1) Z Z Z Zw (v:=.slice pA59 x46.Legs.length pc60) Z) (oR Z (zN Z Z ZI) (oM Z Z (eN (zL ?_))))))))
        have q:=wCM hm109
        obtain ⟨r112,hX113⟩:=q
        have q:=wCL hX113
        obtain ⟨hle114,hf115⟩:=q
        replace hle114:=zG hle114
        refine yK (fun k111 _ σ_ w_=>∃ (U_:PHeap),σ_ 71=jV (↑k111:Int)/\σ_ 3=.pointer (some ⟨b6,0,none⟩)/\σ_ 7=.pointer (some ⟨b88,0,none⟩)/\σ_ 34=.slice pA0_2 p0.Teams.length pc0_2/\σ_ 35=jV (↑p0.Teams.length:Int)/\σ_ 36=jV (↑k26:Int)/\σ_ 69=.slice pA59 x46.Legs.length pc60/\σ_ 70=jV (↑x46.Legs.length:Int)/\PHeap.Le U99 U_/\sW w U U_ [.blk b88 127 B4,.blk b64 127 B3,.blk b6 27 B1,.blk b2 27 B0] w_) hf115 ?_ ?_ ?_
        ·exact ⟨U99,Z,f41,Z,f42,f43,fi37,Z,Z,(zZ _),hS105⟩
        ·rintro k111 ⟨⟩ xx118 σ116 W117 hk121 ⟨U123,fi122,f126,f127,f128,f129,f130,f131,f132,le124,hS125⟩ hx119 hb120
         try dsimp only at hx119
         have c133:Hid ((↑k111:Int) < (↑x46.Legs.length:Int)):=zG (wAy hk121)
         replace hk121:=zG hk121
         have hi134:Hid (w64 ((↑k111:Int) + 1)=(↑(k111 + 1):Int)):=zG (by have h1:=hle114.out;have h2:=c133.out;rw [wAK] <;> omega)
         refine sR fL1 Z (oR Z (zS Z fi122 f132) (eN (zB (cT Z c133 (kN (zB (zL (sR (wEK (.fx 3 (.fl 4 (.fx 5 (.nil) .stop)) .stop)) Z (oM Z fi122 (bnK hx119 fun x135 h136 hm137=>?_))))))))))
         have h138:=h62.le le103
         have h139:=h138.le le124
         have q:=h139.el (wAE h136)
         obtain ⟨b140,off141,vs144,hA142,hC143,hr145⟩:=q
         obtain ⟨pA146,pc147,pA148,pc149,rfl,h150,h151⟩:=hr145
         replace hC143:Cl U123 b140 (off141 + k111 * 3) [jV x135.Skier,.slice pA146 x135.Loops.length pc147,.slice pA148 x135.Bouts.length pc149]:=hC143
         refine oR Z (zx Z f131 hA142 fi122 ZI ZL (wAc h136)) (oL Z (hS125.ldCA (f:=0) hC143 Z Z yR ZL (us:=[jV x135.Skier,.slice pA146 x135.Loops.length pc147,.slice pA148 x135.Bouts.length pc149]) Z Z) (zq (cs:=B2) Z Z Z Z Z Zq Z hS125 ?_))
         intro W152 b153 hS154
         refine oA Z Z ?_
         let B5:List Value:=[jV x135.Skier,.slice pA146 x135.Loops.length pc147,.slice pA148 x135.Bouts.length pc149]
         refine ZE (j:=0) (vs:=B5) Z Z Z Z hS154 Z Z Z Z ZL (zD Z) Z Z Z ?_
         intro W156 hS157
         have hS158:sW w U U123 [.blk b153 130 B5,.blk b88 127 B4,.blk b64 127 B3,.blk b6 27 B1,.blk b2 27 B0] W156:=hS157
         refine eN (sR (wIQ (.fx 5 (.fx 6 (.nil) .stop) .stop)) Z (oR Z (zA Z f127 zl Z Zo) (oL Z (hS158.ldB (j:=1) Z Z Z Zw (v:=.slice pA83 x70.Legs.length pc84) Z) (oM Z Z (bnK hm137 fun x159 h160 hm161=>?_)))))
         have h162:=h86.le le103
         have h163:=h162.le le124
         have q:=h163.el (wAE h160)
         obtain ⟨b164,off165,vs168,hA166,hC167,hr169⟩:=q
         obtain ⟨pA170,pc171,pA172,pc173,rfl,h174,h175⟩:=hr169
         replace hC167:Cl U123 b164 (off165 + k111 * 3) [jV x159.Skier,.slice pA170 x159.Loops.length pc171,.slice pA172 x159.Bouts.length pc173]:=hC167
         refine oR Z (zx Z Z hA166 Z ZI ZL (wAc h160)) (oL Z (hS158.ldCA (f:=0) hC167 Z Z yR ZL (us:=[jV x159.Skier,.slice pA170 x159.Loops.length pc171,.slice pA172 x159.Bouts.length pc173]) Z Z) (zq (cs:=B2) Z Z Z Z Z Zq Z hS158 ?_))
         intro W176 b177 hS178
         let B6:List Value:=[jV x159.Skier,.slice pA170 x159.Loops.length pc171,.slice pA172 x159.Bouts.length pc173]
         refine ZE (j:=0) (vs:=B6) Z Z Z Z hS178 Z Z Z Z ZL (zD Z) Z Z Z ?_
         intro W180 hS181
         have hS182:sW w U U123 [.blk b177 130 B6,.blk b153 130 B5,.blk b88 127 B4,.blk b64 127 B3,.blk b6 27 B1,.blk b2 27 B0] W180:=hS181
         refine eN (sR (wTf (.fx 10 (wSR (.fx 18 (.fl 19 (.fl 20 (.nil))) .stop)) .stop)) Z (oR Z (zA Z Z ZB Z zI) (oL Z (hS182.ldB (j:=1) Z Z Z zP (v:=jV x135.Skier) Z) (oR Z (zA Z Z ZB Z zI) (oL Z (hS182.ldB (j:=0) Z Z Z zP (v:=jV x159.Skier) Z) (oR Z (ZV Z Z Z) (oM Z Z (ifc hm161 ?_ ?_))))))))
         ·intro c183 hm184
          refine zu Z Z Z (zJ Z Z (zw (fun h=>h c183.out))) (fun _=>zA Z Z ZB Z zO) (ZN Z Z Z (zJ Z Z (zw (fun h=>h c183.out))) (hS182.ldB (j:=1) Z Z Z zd (v:=.slice pA146 x135.Loops.length pc147) Z) Z (zu Z Z Z (zJ Z Z (zw (fun h=>h c183.out))) (fun _=>zA Z Z ZB Z zO) (ZN Z Z Z (zJ Z Z (zw (fun h=>h c183.out))) (hS182.ldB (j:=0) Z Z Z zd (v:=.slice pA170 x159.Loops.length pc171) Z) Z (bnK hm184 fun x185 h186 hm187=>zQ 0 Z Z Z (zJ Z Z (zw (fun h=>h c183.out))) (zR Z Z Tryz.call20 (zH Z (zH Z ze)) Z) hS182 (fun hs=>wAt x135.Loops pA146 pc147 x159.Loops pA170 pc171 W180 U123 hs h150 h174 h186) (.inr Z) ?_))))
          rintro U188 L189 v190 W191 le192 hS193 ⟨rfl,rfl⟩
          have hS194:sW w U U188 [.blk b177 130 B6,.blk b153 130 B5,.blk b88 127 B4,.blk b64 127 B3,.blk b6 27 B1,.blk b2 27 B0] W191:=hS193
          refine zu Z Z Z (zJ Z Z (zw (fun h=>h c183.out))) (fun _=>Za Z Z) (oR Z (zh Z (zw (fun h=>h c183.out)) Z) (oM Z Z (ifc hm187 ?_ ?_)))
          ·intro c195 hm196
           refine zu Z Z Z (zJ Z Z (nC c195.out)) (fun _=>zA Z Z ZB Z Zm) (ZN Z Z Z (zJ Z Z (nC c195.out)) (hS194.ldB (j:=1) Z Z Z Zr (v:=.slice pA148 x135.Bouts.length pc149) Z) Z (zu Z Z Z (zJ Z Z (nC c195.out)) (fun _=>zA Z Z ZB Z Zm) (ZN Z Z Z (zJ Z Z (nC c195.out)) (hS194.ldB (j:=0) Z Z Z Zr (v:=.slice pA172 x159.Bouts.length pc173) Z) Z ?_)))
           have h197:=h151.le le192
           have h198:=h175.le le192
           refine bnK hm196 fun x199 h200 hm201=>zQ 0 Z Z Z (zJ Z Z (nC c195.out)) (zR Z Z Tryz.call103 (zH Z (zH Z ze)) Z) hS194 (fun hs=>wDj x135.Bouts pA148 pc149 x159.Bouts pA172 pc173 W191 U188 hs h197 h198 h200) (.inr Z) ?_
           rintro U202 L203 v204 W205 le206 hS207 ⟨rfl,rfl⟩
           have hS208:sW w U U202 [.blk b177 130 B6,.blk b153 130 B5,.blk b88 127 B4,.blk b64 127 B3,.blk b6 27 B1,.blk b2 27 B0] W205:=hS207
           refine zu Z Z Z (zJ Z Z (nC c195.out)) (fun _=>Za Z Z) (oR Z (zh Z (nC c195.out) Z) (eN (ifc hm201 ?_ ?_)))
           ·intro c209 hm210
            refine zo (nC c209.out) (ZW (zg (zF (rR fL2 Z (oR Z (ZD (zU Z fi122 Z) (congrArg (jV) hi134.out)) (oM Z Z (zj ?_)))))))
            obtain rfl:=nB hm210
            exact zF ⟨rfl,_,rfl,⟨U202,rfl,f126,f127,f128,f129,f130,f131,f132,((le124.trans le192).trans le206),(hS208.pick [2,3,4,5] _ (by decide) rfl)⟩⟩
           ·intro c209 hm211
            refine zp (nF (c209.out)) (sR fL1 Z (oA Z Z (eN (zM (zK (zC ?_))))))
            have q:=wAF hm211
            obtain ⟨v212,hm213,e214⟩:=q
            obtain rfl:=wBd hm109 hX113 (hb120 v212 e214)
            refine zC (zK (zK (zC ?_)))
            have q:=wAF hm213
            obtain ⟨v215,hm216,e217⟩:=q
            obtain rfl:=wBd hm24 hX28 (hb35 v215 e217)
            refine zC (zK (zC ?_))
            have hE:=nB hm216;first | subst r | cases hE
            exact ⟨rfl,_,(zt rfl),U202,_,(hS208.pick [] _ (by decide) rfl),rfl,rfl⟩
          ·intro c195 hm218
           refine ZA Z Z Z (zf Z Z (nF (c195.out)) Z) (ZA Z Z Z (zf Z Z (nF (c195.out)) Z) (ZA Z Z Z (zf Z Z (nF (c195.out)) Z) (ZA Z Z Z (zf Z Z (nF (c195.out)) Z) (Zj Z Z Z (zf Z Z (nF (c195.out)) Z) (ZA Z Z Z (zf Z Z (nF (c195.out)) Z) (oR Z (zi Z (nF (c195.out)) Z) (eN (zp Z (sR fL1 Z (oA Z Z (eN (zM (zK (zC ?_))))))))))))))
           have q:=wAF hm218
           obtain ⟨v219,hm220,e221⟩:=q
           obtain rfl:=wBd hm109 hX113 (hb120 v219 e221)
           refine zC (zK (zK (zC ?_)))
           have q:=wAF hm220
           obtain ⟨v222,hm223,e224⟩:=q
           obtain rfl:=wBd hm24 hX28 (hb35 v222 e224)
           refine zC (zK (zC ?_))
           have hE:=nB hm223;first | subst r | cases hE
           exact ⟨rfl,_,(zt rfl),U188,_,(hS194.pick [] _ (by decide) rfl),rfl,rfl⟩
         ·intro c183 hm225
          refine oT Z c183 (oT Z c183 (oT Z c183 (oT Z c183 (Zj Z Z Z (zf Z Z (yG c183.out) Z) (oT Z c183 (oR Z (zi Z (yG c183.out) Z) (oM Z Z (oN Z (oN Z (oN Z (oN Z (Zj Z Z Z (zf Z Z Z Z) (oN Z (oR Z (zi Z Z Z) (eN (zp Z (sR fL1 Z (oA Z Z (eN (zM (zK (zC ?_))))))))))))))))))))))
          have q:=wAF hm225
          obtain ⟨v226,hm227,e228⟩:=q
          obtain rfl:=wBd hm109 hX113 (hb120 v226 e228)
          refine zC (zK (zK (zC ?_)))
          have q:=wAF hm227
          obtain ⟨v229,hm230,e231⟩:=q
          obtain rfl:=wBd hm24 hX28 (hb35 v229 e231)
          refine zC (zK (zC ?_))
          have hE:=nB hm230;first | subst r | cases hE
          exact ⟨rfl,_,(zt rfl),U123,_,(hS182.pick [] _ (by decide) rfl),rfl,rfl⟩
        ·rintro ⟨⟩ σ232 W233 ⟨U236,fi235,f239,f240,f241,f242,f243,f244,f245,le237,hS238⟩ hb234
         have hm246:=wCv hm109 hX113 hb234
         try dsimp only at hm246
         have c247:Hid (¬ ((↑(((↑x46.Legs.length:Int):Int) - 0).toNat:Int) < (↑x46.Legs.length:Int))):=zG (wAa)
         refine sR fL1 Z (oR Z (zS Z fi235 f245) (eN (zB (cF Z c247 (ZG (zW (zW (zr (zg (zF (rR fL2 Z (oR Z (ZD (zU Z f243 Z) (congrArg (jV) hi45.out)) (oM Z Z (zj ?_))))))))))))))
         obtain rfl:=nB hm246
         exact zF ⟨rfl,_,rfl,⟨U236,rfl,f239,f241,f242,((le39.trans le103).trans le237),(hS238.pick [2,3] _ (by decide) rfl)⟩⟩
       ·intro c108 hm248
        refine cT Z c108 (sR fL1 Z (oA Z Z (eN (zM (zC (zK (zC ?_)))))))
        have q:=wAF hm248
        obtain ⟨v249,hm250,e251⟩:=q
        obtain rfl:=wBd hm24 hX28 (hb35 v249 e251)
        refine zC (zK (zC ?_))
        have hE:=nB hm250;first | subst r | cases hE
        exact ⟨rfl,_,(zt rfl),U99,_,(hS105.pick [] _ (by decide) rfl),rfl,rfl⟩
      ·intro c106 hm252
       refine ZA Z Z Z (zf Z Z (nF (c106.out)) Z) (ZA Z Z Z (zf Z Z (nF (c106.out)) Z) (ZA Z Z Z (zf Z Z (nF (c106.out)) Z) (ZA Z Z Z (zf Z Z (nF (c106.out)) Z) (ZA Z Z Z (zf Z Z (nF (c106.out)) Z) (ZA Z Z Z (zf Z Z (nF (c106.out)) Z) (ZA Z Z Z (zf Z Z (nF (c106.out)) Z) (oR Z (zi Z (nF (c106.out)) Z) (eN (zp Z (sR fL1 Z (oA Z Z (eN (zM (zC (zK (zC ?_))))))))))))))))
       have q:=wAF hm252
       obtain ⟨v253,hm254,e255⟩:=q
       obtain rfl:=wBd hm24 hX28 (hb35 v253 e255)
       refine zC (zK (zC ?_))
       have hE:=nB hm254;first | subst r | cases hE
       exact ⟨rfl,_,(zt rfl),U99,_,(hS105.pick [] _ (by decide) rfl),rfl,rfl⟩
     ·intro c94 hm256
      refine oT Z c94 (oT Z c94 (oT Z c94 (oT Z c94 (Zj Z Z Z (zf Z Z (yG c94.out) Z) (oT Z c94 (oR Z (zi Z (yG c94.out) Z) (oM Z Z (oN Z (oN Z (oN Z (oN Z (oN Z (oN Z (oN Z (oR Z (zi Z Z Z) (eN (zp Z (sR fL1 Z (oA Z Z (eN (zM (zC (zK (zC ?_))))))))))))))))))))))))
      have q:=wAF hm256
      obtain ⟨v257,hm258,e259⟩:=q
      obtain rfl:=wBd hm24 hX28 (hb35 v257 e259)
      refine zC (zK (zC ?_))
      have hE:=nB hm258;first | subst r | cases hE
      exact ⟨rfl,_,(zt rfl),U38,_,(hS93.pick [] _ (by decide) rfl),rfl,rfl⟩
    ·rintro ⟨⟩ σ260 W261 ⟨U264,fi263,f267,f268,f269,le265,hS266⟩ hb262
     have hm270:=wCv hm24 hX28 hb262
     try dsimp only at hm270
     have c271:Hid (¬ ((↑(((↑p0.Teams.length:Int):Int) - 0).toNat:Int) < (↑p0.Teams.length:Int))):=zG (wAa)
     refine sR fL1 Z (oR Z (zS Z fi263 f269) (eN (zB (cF Z c271 (ZG (zW (zW (zr (zF (sR fL1 Z (oA Z Z (eN (zM ?_)))))))))))))
     have hE:=nB hm270;first | subst r | cases hE
     exact ⟨rfl,_,(zt rfl),U264,_,(hS266.pick [] _ (by decide) rfl),rfl,rfl⟩
   ·intro c23 hm272
    refine cT Z c23 (sR fL1 Z (oA Z Z (eN (zM (zC ?_)))))
    have hE:=nB hm272;first | subst r | cases hE
    exact ⟨rfl,_,(zt rfl),U12,_,(hS18.pick [] _ (by decide) rfl),rfl,rfl⟩
  ·intro c21 hm273
   refine oT Z c21 (oT Z c21 (oT Z c21 (oT Z c21 (oT Z c21 (oT Z c21 (oT Z c21 (oR Z (zi Z (yG c21.out) Z) (eN (zp Z (sR fL1 Z (oA Z Z (eN (zM (zC ?_))))))))))))))
   have hE:=nB hm273;first | subst r | cases hE
   exact ⟨rfl,_,(zt rfl),U12,_,(hS18.pick [] _ (by decide) rfl),rfl,rfl⟩
 ·intro c19 hm274
  refine ZA Z Z Z (zf Z Z (nF (c19.out)) Z) (ZA Z Z Z (zf Z Z (nF (c19.out)) Z) (ZA Z Z Z (zf Z Z (nF (c19.out)) Z) (ZA Z Z Z (zf Z Z (nF (c19.out)) Z) (ZA Z Z Z (zf Z Z (nF (c19.out)) Z) (oR Z (zi Z (nF (c19.out)) Z) (oM Z Z (oN Z (oN Z (oN Z (oN Z (oN Z (oN Z (oN Z (oR Z (zi Z Z Z) (eN (zp Z (sR fL1 Z (oA Z Z (eN (zM (zC ?_)))))))))))))))))))))
  have hE:=nB hm274;first | subst r | cases hE
  exact ⟨rfl,_,(zt rfl),U12,_,(hS18.pick [] _ (by decide) rfl),rfl,rfl⟩
end Go.Proofs.YthbficbpebiekaaGreat
