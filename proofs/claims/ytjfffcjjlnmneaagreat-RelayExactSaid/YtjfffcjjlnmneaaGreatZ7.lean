import Derived.Test.YtjfffcjjlnmneaaGreatZ6
import Derived.Test.YtjfffcjjlnmneaaGreatZ5
namespace Go.Proofs.YtjfffcjjlnmneaaGreat
open Go.KL
set_option maxHeartbeats 4000000
theorem w_relay_begun (p0:T_relay_Race) (pA0_0_0:Option Addr) (pc0_0_0:Nat) (pA0_2:Option Addr) (pc0_2:Nat) (w:World) (φ:PHeap) (hS:St0 w φ []) (ha0:Sl φ 1 pA0_0_0 pc0_0_0 p0.Rules.Classes.length (List.flatMap KL.encI p0.Rules.Classes)) (ha1:SlR φ rl44 pA0_2 pc0_2 p0.Teams) {r:(Option T_relay_desk) × Int} (hm:m_relay_begun p0=some r):Gv Tryz.prog 107 [.agg #[.slice pA0_0_0 p0.Rules.Classes.length pc0_0_0,.int .i64 p0.Rules.Each,.int .i64 p0.Rules.Laps,.int .i64 p0.Rules.Spare,.int .i64 p0.Rules.Loop,.int .i64 p0.Rules.Unused,.int .i64 p0.Start,.slice pA0_2 p0.Teams.length pc0_2]] w (RetS w [] φ (fun φ_ L_ v=>match r.1 with | none=>v=.tuple #[.pointer none,.int .i64 r.2]∧L_=[] | some d=>∃ (b0:Nat) (A0p000:Option Addr) (c0p000:Nat) (A0p02:Option Addr) (c0p02:Nat) (A0p1:Option Addr) (c0p1:Nat) (cs0p1:List Value),v=.tuple #[.pointer (some ⟨b0,0,none⟩),.int .i64 r.2]∧L_=[.blk b0 245 [.slice A0p000 d.Race.Rules.Classes.length c0p000,.int .i64 d.Race.Rules.Each,.int .i64 d.Race.Rules.Laps,.int .i64 d.Race.Rules.Spare,.int .i64 d.Race.Rules.Loop,.int .i64 d.Race.Rules.Unused,.int .i64 d.Race.Start,.slice A0p02 d.Race.Teams.length c0p02,.slice A0p1 d.after.length c0p1],.row A0p1 c0p1 23 1 cs0p1]∧Sl φ_ 1 A0p000 c0p000 d.Race.Rules.Classes.length (List.flatMap KL.encI d.Race.Rules.Classes)∧SlR φ_ rl44 A0p02 c0p02 d.Race.Teams∧RlL φ_ rl23 d.after cs0p1)):=by
 unfold m_relay_begun at hm
 refine Gv.of Tryz.func107 rfl Tryz.ntmps107 Tryz.results107 rfl (sR (.fx 0 (.fl 1 (.fl 2 (.nil))) .stop) rfl (Zd (cs:=[.slice pA0_0_0 p0.Rules.Classes.length pc0_0_0,.int .i64 p0.Rules.Each,.int .i64 p0.Rules.Laps,.int .i64 p0.Rules.Spare,.int .i64 p0.Rules.Loop,.int .i64 p0.Rules.Unused,.int .i64 p0.Start,.slice pA0_2 p0.Teams.length pc0_2]) rfl rfl rfl rfl rfl rfl (by rfl) hS ?_))
 intro W1 b2 hS3
 refine oA Z Z (oA Z Z (eN (zE (sR (.fl 0 (.fx 1 (.fl 2 (.nil)) .stop)) Z (oL Z (hS3.ldBA (j:=0) Z Z Z ZW zy (vs:=[.slice pA0_0_0 p0.Rules.Classes.length pc0_0_0,.int .i64 p0.Rules.Each,.int .i64 p0.Rules.Laps,.int .i64 p0.Rules.Spare,.int .i64 p0.Rules.Loop,.int .i64 p0.Rules.Unused,.int .i64 p0.Start,.slice pA0_2 p0.Teams.length pc0_2]) Z Z) (bnK hm fun x5 h6 hm7=>zU 0 Z Z Z Z (zP Z Z Tryz.call20 (zD Z zZ) Z) hS3 (fun hs=>w_relay_Check p0 pA0_0_0 pc0_0_0 pA0_2 pc0_2 W1 φ hs ha0 ha1 h6) (.inr Z) ?_))))))
 rintro φ8 L9 v10 W11 le12 hS13 ⟨rfl,rfl⟩
 let B0:Res:=.blk b2 28 [.slice pA0_0_0 p0.Rules.Classes.length pc0_0_0,.int .i64 p0.Rules.Each,.int .i64 p0.Rules.Laps,.int .i64 p0.Rules.Spare,.int .i64 p0.Rules.Loop,.int .i64 p0.Rules.Unused,.int .i64 p0.Start,.slice pA0_2 p0.Teams.length pc0_2]
 have hS14:St ⟨w,[],φ⟩ φ8 [B0] W11:=hS13
 refine oA Z Z (eN (sR fL2 Z (oM Z Z (oR Z (fun _=>ZI Z Z Z) (eN (ifc hm7 ?_ ?_))))))
 ·intro c15 hm16
  refine zr (zX (fun h=>h c15.out)) (kN (sR (.fl 0 (.fl 1 (.fx 2 (.fl 3 (.nil)) .stop))) rfl (ZD rfl rfl rfl rfl (hS14.ldBA (j:=0) rfl rfl rfl ZW zy (vs:=[.slice pA0_0_0 p0.Rules.Classes.length pc0_0_0,.int .i64 p0.Rules.Each,.int .i64 p0.Rules.Laps,.int .i64 p0.Rules.Spare,.int .i64 p0.Rules.Loop,.int .i64 p0.Rules.Unused,.int .i64 p0.Start,.slice pA0_2 p0.Teams.length pc0_2]) rfl rfl) rfl (zi rfl rfl rfl rfl (fun _=>Zf (pv:=[(0,.agg #[.slice pA0_0_0 p0.Rules.Classes.length pc0_0_0,.int .i64 p0.Rules.Each,.int .i64 p0.Rules.Laps,.int .i64 p0.Rules.Spare,.int .i64 p0.Rules.Loop,.int .i64 p0.Rules.Unused,.int .i64 p0.Start,.slice pA0_2 p0.Teams.length pc0_2])]) (z:=[.slice none 0 0,.int .i64 0,.int .i64 0,.int .i64 0,.int .i64 0,.int .i64 0,.int .i64 0,.slice none 0 0,.slice none 0 0]) (cs:=[.slice pA0_0_0 p0.Rules.Classes.length pc0_0_0,.int .i64 p0.Rules.Each,.int .i64 p0.Rules.Laps,.int .i64 p0.Rules.Spare,.int .i64 p0.Rules.Loop,.int .i64 p0.Rules.Unused,.int .i64 p0.Start,.slice pA0_2 p0.Teams.length pc0_2,.slice none 0 0]) rfl (mapcons2 rfl mapnil2) Tryz.zeroValue245 places245 rfl rfl) (Zd (cs:=[.slice pA0_0_0 p0.Rules.Classes.length pc0_0_0,.int .i64 p0.Rules.Each,.int .i64 p0.Rules.Laps,.int .i64 p0.Rules.Spare,.int .i64 p0.Rules.Loop,.int .i64 p0.Rules.Unused,.int .i64 p0.Start,.slice pA0_2 p0.Teams.length pc0_2,.slice none 0 0]) rfl rfl rfl rfl rfl rfl (by rfl) hS14 ?_)))))
  intro W17 b18 hS19
  refine oA Z Z (eN (zE (sR fL7 Z (oM Z Z (oR Z (fun _=>ZV Z Z) (oR Z (fun _=>zF Z Z ZP Z zy) (oR Z (fun _=>zF Z Z zL Z ZH) (oL Z (hS19.ldB (j:=0) Z Z Z ZO (v:=.slice pA0_2 p0.Teams.length pc0_2) Z) (oR Z (fun _=>zV Z Z zm) (oM Z Z (eN (zS (bnK hm16 fun y47 hf44 hm43=>?_)))))))))))))
  have q:=forR'_le hf44
  obtain ⟨hle45,hf46⟩:=q
  replace hle45:=zG hle45
  refine CK.forN' (fun k42 l37 σ_ w_=>∃ (φ_:PHeap) (A38:Option Addr) (c39:Nat) (cs41:List Value),σ_ 29=.int .i64 (↑k42:Int)∧σ_ 5=.pointer (some ⟨b18,0,none⟩)∧σ_ 27=.slice pA0_2 p0.Teams.length pc0_2∧σ_ 28=.int .i64 (↑p0.Teams.length:Int)∧PHeap.Le φ8 φ_∧St ⟨w,[],φ⟩ φ_ [.row A38 c39 23 1 cs41,.blk b18 245 [.slice pA0_0_0 p0.Rules.Classes.length pc0_0_0,.int .i64 p0.Rules.Each,.int .i64 p0.Rules.Laps,.int .i64 p0.Rules.Spare,.int .i64 p0.Rules.Loop,.int .i64 p0.Rules.Unused,.int .i64 p0.Start,.slice pA0_2 p0.Teams.length pc0_2,.slice A38 l37.length c39],B0] w_∧RlL φ_ rl23 l37 cs41) hf46 ?_ ?_ ?_
  ·have hS48:=hS19.nilrow 23 1
   exact ⟨φ8,none,0,[],Z,Z,Z,Z,(zf _),hS48,RlL.nil⟩
  ·rintro k42 l37 xx52 σ50 W51 hk55 ⟨φ57,A38,c39,cs41,fi56,f60,f61,f62,le58,hS59,h63⟩ hx53
   have c64:Hid ((↑k42:Int) < (↑p0.Teams.length:Int)):=zG (lp_lt0 hk55)
   replace hk55:=zG hk55
   have hi65:Hid (w64 ((↑k42:Int) + 1)=(↑(k42 + 1):Int)):=zG (by have h1:=hle45.out;have h2:=c64.out;rw [w64_in] <;> omega)
   refine sR fL1 Z (oR Z (fun _=>zW Z fi56 f62) (eN (zE (cT Z c64 (kN (zE (zS (sR (.fl 0 (.fl 1 (.fx 2 (.fx 3 (.nil) .stop) .stop))) Z (bnK hx53 fun x66 h67 hm68=>?_)))))))))
   have h69:=ha1.le le12
   have h70:=h69.le le58
   have q:=h70.el (idx_get h67)
   obtain ⟨b71,off72,vs75,hA73,hC74,hr76⟩:=q
   obtain ⟨pA77,pc78,pA79,pc80,rfl,h81,h82⟩:=hr76
   replace hC74:Cl φ57 b71 (off72 + k42 * 3) [.int .i64 x66.Bib,.slice pA77 x66.Classes.length pc78,.slice pA79 x66.Legs.length pc80]:=hC74
   refine oR Z (fun _=>zu Z f61 hA73 fi56 zm ZB (idx_lt h67)) (oL Z (hS59.ldCA (f:=0) hC74 Z Z yA ZB (us:=[.int .i64 x66.Bib,.slice pA77 x66.Classes.length pc78,.slice pA79 x66.Legs.length pc80]) Z Z) (ZK (cs:=[.int .i64 0,.slice none 0 0,.slice none 0 0]) Z Z Z Z Z Zk Z hS59 ?_))
   intro W83 b84 hS85
   refine zx (j:=0) (vs:=[.int .i64 x66.Bib,.slice pA77 x66.Classes.length pc78,.slice pA79 x66.Legs.length pc80]) Z Z Z Z hS85 Z Z Z Z ZB (zC Z) Z Z Z ?_
   intro W87 hS88
   let B1:Res:=.blk b84 44 [.int .i64 x66.Bib,.slice pA77 x66.Classes.length pc78,.slice pA79 x66.Legs.length pc80]
   let B2:Res:=.blk b18 245 [.slice pA0_0_0 p0.Rules.Classes.length pc0_0_0,.int .i64 p0.Rules.Each,.int .i64 p0.Rules.Laps,.int .i64 p0.Rules.Spare,.int .i64 p0.Rules.Loop,.int .i64 p0.Rules.Unused,.int .i64 p0.Start,.slice pA0_2 p0.Teams.length pc0_2,.slice A38 l37.length c39]
   let B3:Res:=.row A38 c39 23 1 cs41
   have hS89:St ⟨w,[],φ⟩ φ57 [B1,B3,B2,B0] W87:=hS88
   refine eN (sR fL6 Z (oM Z f60 (oR Z (fun _=>ZV Z Z) (oR Z (fun _=>zF Z Z ZP Z zy) (oR Z (fun _=>zF Z Z zL Z zJ) (oL Z (hS89.ldB (j:=2) Z Z Z zR (v:=.int .i64 p0.Start) Z) (oA Z Z (eN (sR fL1 Z (oA Z Z (eN (zE (sR fL4 Z (oR Z (fun _=>zF Z Z zk Z ZS) (oL Z (hS89.ldB (j:=0) Z Z Z Zz (v:=.slice pA79 x66.Legs.length pc80) Z) (oR Z (fun _=>zV Z Z ZJ) (oM Z Z (eN (zS ?_)))))))))))))))))))
   have q:=bnd hm68
   obtain ⟨⟨y116,y117⟩,hf113,hm112⟩:=q
   try dsimp only at hm112
   have q:=forR'_le hf113
   obtain ⟨hle114,hf115⟩:=q
   replace hle114:=zG hle114
   refine CK.forN' (fun k111 (x106,l107) σ_ w_=>∃ (φ_:PHeap) (A108:Option Addr) (c109:Nat),σ_ 41=.int .i64 (↑k111:Int)∧σ_ 5=.pointer (some ⟨b18,0,none⟩)∧σ_ 8=.int .i64 x106∧σ_ 9=.slice A108 l107.length c109∧σ_ 27=.slice pA0_2 p0.Teams.length pc0_2∧σ_ 28=.int .i64 (↑p0.Teams.length:Int)∧σ_ 29=.int .i64 (↑k42:Int)∧σ_ 39=.slice pA79 x66.Legs.length pc80∧σ_ 40=.int .i64 (↑x66.Legs.length:Int)∧PHeap.Le φ57 φ_∧St ⟨w,[],φ⟩ φ_ [B1,B3,B2,B0,.row A108 c109 3 1 (List.flatMap KL.encI l107)] w_) hf115 ?_ ?_ ?_
   ·have hS118:=hS89.nilrow 3 1
    exact ⟨φ57,none,0,rfl,f60,rfl,rfl,f61,f62,fi56,rfl,rfl,(zf _),(hS118.pick [1,2,3,4,0] _ (by decide) rfl)⟩
   ·rintro k111 ⟨x106,l107⟩ xx122 σ120 W121 hk125 ⟨φ127,A108,c109,fi126,f130,f131,f132,f133,f134,f135,f136,f137,le128,hS129⟩ hx123
    try dsimp only at hx123
    have c138:Hid ((↑k111:Int) < (↑x66.Legs.length:Int)):=zG (lp_lt0 hk125)
    replace hk125:=zG hk125
    have hi139:Hid (w64 ((↑k111:Int) + 1)=(↑(k111 + 1):Int)):=zG (by have h1:=hle114.out;have h2:=c138.out;rw [w64_in] <;> omega)
    refine sR fL1 Z (oR Z (fun _=>zW Z fi126 f137) (eN (zE (cT Z c138 (kN (zE (zS (sR (.fl 0 (.fl 1 (.fx 2 (.fx 3 (.nil) .stop) .stop))) Z (bnK hx123 fun x140 h141 hm142=>?_)))))))))
    have h143:=h82.le le128
    have q:=h143.el (idx_get h141)
    obtain ⟨b144,off145,vs148,hA146,hC147,hr149⟩:=q
    obtain ⟨pA150,pc151,pA152,pc153,rfl,h154,h155⟩:=hr149
    replace hC147:Cl φ127 b144 (off145 + k111 * 3) [.int .i64 x140.Skier,.slice pA150 x140.Loops.length pc151,.slice pA152 x140.Bouts.length pc153]:=hC147
    refine oR Z (fun _=>zu Z f136 hA146 fi126 ZJ ZF (idx_lt h141)) (oL Z (hS129.ldCA (f:=0) hC147 Z Z yD ZF (us:=[.int .i64 x140.Skier,.slice pA150 x140.Loops.length pc151,.slice pA152 x140.Bouts.length pc153]) Z Z) (ZK (cs:=[.int .i64 0,.slice none 0 0,.slice none 0 0]) Z Z Z Z Z ZR Z hS129 ?_))
    intro W156 b157 hS158
    refine zx (j:=0) (vs:=[.int .i64 x140.Skier,.slice pA150 x140.Loops.length pc151,.slice pA152 x140.Bouts.length pc153]) Z Z Z Z hS158 Z Z Z Z ZF (zC Z) Z Z Z ?_
    intro W160 hS161
    let B4:Res:=.blk b157 47 [.int .i64 x140.Skier,.slice pA150 x140.Loops.length pc151,.slice pA152 x140.Bouts.length pc153]
    have hS162:St ⟨w,[],φ⟩ φ127 [B4,B1,B3,B2,B0,.row A108 c109 3 1 (List.flatMap KL.encI l107)] W160:=hS161
    refine eN (sR fL4 Z (oR Z (fun _=>zF Z Z zo Z zN) (oL Z (hS162.ldB (j:=0) Z Z Z zd (v:=.slice pA150 x140.Loops.length pc151) Z) (oR Z (fun _=>zV Z Z zA) (oM Z Z (eN (zS ?_)))))))
    have q:=bnd hm142
    obtain ⟨⟨y186,y187⟩,hf183,hm182⟩:=q
    try dsimp only at hm182
    have q:=forR'_le hf183
    obtain ⟨hle184,hf185⟩:=q
    replace hle184:=zG hle184
    refine CK.forN' (fun k181 (x177,l178) σ_ w_=>∃ (φ_:PHeap) (A179:Option Addr) (c180:Nat),σ_ 48=.int .i64 (↑k181:Int)∧σ_ 5=.pointer (some ⟨b18,0,none⟩)∧σ_ 8=.int .i64 x177∧σ_ 9=.slice A179 l178.length c180∧σ_ 11=.pointer (some ⟨b157,0,none⟩)∧σ_ 27=.slice pA0_2 p0.Teams.length pc0_2∧σ_ 28=.int .i64 (↑p0.Teams.length:Int)∧σ_ 29=.int .i64 (↑k42:Int)∧σ_ 39=.slice pA79 x66.Legs.length pc80∧σ_ 40=.int .i64 (↑x66.Legs.length:Int)∧σ_ 41=.int .i64 (↑k111:Int)∧σ_ 47=.int .i64 (↑x140.Loops.length:Int)∧PHeap.Le φ127 φ_∧St ⟨w,[],φ⟩ φ_ [B4,B1,B3,B2,B0,.row A179 c180 3 1 (List.flatMap KL.encI l178)] w_) hf185 ?_ ?_ ?_
    ·exact ⟨φ127,A108,c109,Z,f130,f131,f132,Z,f133,f134,f135,f136,f137,fi126,Z,(zf _),hS162⟩
    ·rintro k181 ⟨x177,l178⟩ xx190 σ188 W189 hk193 ⟨φ195,A179,c180,fi194,f198,f199,f200,f201,f202,f203,f204,f205,f206,f207,f208,le196,hS197⟩ hx191
     try dsimp only at hx191
     have c209:Hid ((↑k181:Int) < (↑x140.Loops.length:Int)):=zG (lp_lt0 hk193)
     replace hk193:=zG hk193
     have hi210:Hid (w64 ((↑k181:Int) + 1)=(↑(k181 + 1):Int)):=zG (by have h1:=hle184.out;have h2:=c209.out;rw [w64_in] <;> omega)
     refine sR fL1 Z (oR Z (fun _=>zW Z fi194 f208) (eN (zE (cT Z c209 (kN (zE (zS (sR fL2 Z (oM Z fi194 (oA Z Z (eN (sR fL8 Z (oM Z f199 (oR Z (fun _=>zF Z f201 zo Z zN) (oL Z (hS197.ldB (j:=0) Z Z Z zd (v:=.slice pA150 x140.Loops.length pc151) Z) (oM Z Z (bnK hx191 fun x211 h212 hm213=>?_)))))))))))))))))
     have h214:=h154.le le196
     have q:=h214.el (fun _=>rfl) (idx_get h212)
     obtain ⟨b215,off216,hA217,hC218⟩:=q
     refine oR Z (fun _=>zu Z Z hA217 Z zA zJ (idx_lt h212)) (oL Z (hS197.ldC (f:=0) hC218 (v:=.int .i64 x211) Z Z zR Z) (oR Z (fun _=>zY Z Z Z) (oA Z Z (eN (zE (sR fL2 Z (oM Z Z (oR Z (fun _=>Zy Z Z Z) (eN (ifc hm213 ?_ ?_))))))))))
     ·intro c219 hm220
      refine cT Z c219 (sR (fC0_5 (.fx 6 (fC7_9 (.fx 10 (.fx 11 (.fl 12 (.nil)) .stop) .stop)) .stop)) Z (oR Z (fun _=>zF Z f201 zo Z Zm) (oL Z (hS197.ldB (j:=0) Z Z Z yG (v:=.slice pA152 x140.Bouts.length pc153) Z) (oM Z Z (oR Z (fun _=>Za Z Z Z) (bnK hm220 fun x221 h222 hm223=>?_))))))
      have h224:=h155.le le196
      have q:=h224.el (idx_get h222)
      obtain ⟨b225,off226,vs229,hA227,hC228,hr230⟩:=q
      obtain ⟨pA231,pc232,rfl,h233⟩:=hr230
      replace hC228:Cl φ195 b225 (off226 + (w64 ((↑k181:Int) - 1)).toNat * 1) [.slice pA231 x221.length pc232]:=hC228
      refine oR Z (fun _=>Zo Z Z hA227 Z Zg Tryz.sizeOf52 (idx_lo h222) (idx_hi h222)) (oL Z (hS197.ldC (f:=0) hC228 (v:=.slice pA231 x221.length pc232) Z Z Tryz.isAgg52 Z) ?_)
      have q:=bnd hm223
      obtain ⟨⟨x234,x235⟩,h236,hm237⟩:=q
      try dsimp only at hm237
      refine zU 0 Z Z Z Z (zP Z Z Tryz.call22 (zD Z zZ) Z) hS197 (fun hs=>w_relay_Shot x221 pA231 pc232 W189 φ195 hs h233 h236) (.inr Z) ?_
      rintro φ238 L239 v240 W241 le242 hS243 ⟨rfl,rfl⟩
      let B5:Res:=.row A179 c180 3 1 (List.flatMap KL.encI l178)
      have hS244:St ⟨w,[],φ⟩ φ238 [B4,B1,B3,B2,B0,B5] W241:=hS243
      refine oM Z Z (oR Z (fun _=>ZM Z Z (v:=.agg #[.int .i64 x234.Spares,.int .i64 x234.Loops,.int .i64 x234.Unused]) Z) (oR Z (fun _=>ZM Z Z (v:=.int .i64 x235) Z) (ZK (cs:=[.int .i64 0,.int .i64 0,.int .i64 0]) Z Z Z Z Z Zw Z hS244 ?_)))
      intro W245 b246 hS247
      refine zx (j:=0) (vs:=[.int .i64 x234.Spares,.int .i64 x234.Loops,.int .i64 x234.Unused]) Z Z Z Z hS247 Z Z Z Z Ze (zC Z) Z Z Z ?_
      intro W249 hS250
      let B6:Res:=.blk b246 49 [.int .i64 x234.Spares,.int .i64 x234.Loops,.int .i64 x234.Unused]
      have hS251:St ⟨w,[],φ⟩ φ238 [B6,B4,B1,B3,B2,B0,B5] W249:=hS250
      refine oA Z Z (eN (Zj fun σ252 hσ253=>?_))
      have f254:σ252 5=.pointer (some ⟨b18,0,none⟩):=(hσ253 5).trans f198
      have f255:σ252 8=.int .i64 (w64 (x177 + x211)):=(hσ253 8).trans rfl
      have f256:σ252 9=.slice A179 l178.length c180:=(hσ253 9).trans f200
      have f257:σ252 11=.pointer (some ⟨b157,0,none⟩):=(hσ253 11).trans f201
      have f258:σ252 13=.pointer (some ⟨b246,0,none⟩):=(hσ253 13).trans rfl
      have f259:σ252 27=.slice pA0_2 p0.Teams.length pc0_2:=(hσ253 27).trans f202
      have f260:σ252 28=.int .i64 (↑p0.Teams.length:Int):=(hσ253 28).trans f203
      have f261:σ252 29=.int .i64 (↑k42:Int):=(hσ253 29).trans f204
      have f262:σ252 39=.slice pA79 x66.Legs.length pc80:=(hσ253 39).trans f205
      have f263:σ252 40=.int .i64 (↑x66.Legs.length:Int):=(hσ253 40).trans f206
      have f264:σ252 41=.int .i64 (↑k111:Int):=(hσ253 41).trans f207
      have f265:σ252 47=.int .i64 (↑x140.Loops.length:Int):=(hσ253 47).trans f208
      have f266:σ252 48=.int .i64 (↑k181:Int):=(hσ253 48).trans fi194
      clear hσ253
      refine Zh ZY [3,3,1,3,3,3,3,3,1,3,3,1,3,3,3,3,3,1,3,3,3,3] fL22 (by kernel_rfl) ?_
      have hS267:=hS251.drew
      generalize hw_W268:({ W249 with drawn:=W249.drawn + 1 }:World)=W268 at hS267 ⊢
      refine oM Z f255 (oR Z (fun _=>zF Z f258 Zl Z zJ) (oL Z (hS267.ldB (j:=0) Z Z Z zR (v:=.int .i64 x234.Spares) Z) (oM Z f254 (oR Z (fun _=>ZV Z Z) (oR Z (fun _=>zF Z Z ZP Z zy) (oR Z (fun _=>zF Z Z zL Z ZE) (oR Z (fun _=>zF Z Z zg Z zJ) (oL Z (hS267.ldB (j:=4) Z Z Z zR (v:=.int .i64 p0.Rules.Spare) Z) (oR Z (fun _=>Runs.mulw Z Z Z) (oR Z (fun _=>zF Z f258 Zl Z zJ) (oL Z (hS267.ldB (j:=0) Z Z Z zR (v:=.int .i64 x234.Loops) Z) (oM Z f254 (oR Z (fun _=>ZV Z Z) (oR Z (fun _=>zF Z Z ZP Z zy) (oR Z (fun _=>zF Z Z zL Z ZE) (oR Z (fun _=>zF Z Z zg Z zJ) (oL Z (hS267.ldB (j:=4) Z Z Z zR (v:=.int .i64 p0.Rules.Loop) Z) (oR Z (fun _=>Runs.mulw Z Z Z) (oR Z (fun _=>zY Z Z Z) (oR Z (fun _=>zY Z Z Z) (oA Z Z (eN (rR (.fl 0 (.fl 1 (.fx 2 (.fx 3 (.fl 4 (.nil)) .stop) .stop))) Z (oM Z f256 (oM Z Z (ZC (pv:=[(0,.int .i64 (w64 ((w64 (x177 + x211)) + (w64 ((w64 (x234.Spares * p0.Rules.Spare)) + (w64 (x234.Loops * p0.Rules.Loop)))))))]) (zs:=[.int .i64 0]) (cs:=[.int .i64 (w64 ((w64 (x177 + x211)) + (w64 ((w64 (x234.Spares * p0.Rules.Spare)) + (w64 (x234.Loops * p0.Rules.Loop))))))]) Z Z Z Z Z (mapcons2 Z mapnil2) zA zJ Zp Z Z Z Z Z hS267 ?_))))))))))))))))))))))))))
      intro W269 b270 hS271
      let B7:Res:=.row (some ⟨b270,0,none⟩) 1 3 1 (List.flatMap KL.encI [w64 ((w64 (x177 + x211)) + (w64 ((w64 (x234.Spares * p0.Rules.Spare)) + (w64 (x234.Loops * p0.Rules.Loop)))))])
      have hS273:St ⟨w,[],φ⟩ φ238 [B7,B6,B4,B1,B3,B2,B0,B5] W269:=hS271
      refine bnK hm237 fun x274 h275 hm276=>Zu (j:=7) (enc:=KL.encI) (xs:=l178) (ys:=[w64 ((w64 (x177 + x211)) + (w64 ((w64 (x234.Spares * p0.Rules.Spare)) + (w64 (x234.Loops * p0.Rules.Loop)))))]) (zs:=x274) rfl rfl rfl rfl rfl Zc info3 rfl rfl rfl rfl rfl rfl hS273 rfl rfl rfl (hS273.srcR (j:=0) rfl (by decide) (flatMap_len (f:=KL.encI) (sz:=1) (fun _=>rfl) [w64 ((w64 (x177 + x211)) + (w64 ((w64 (x234.Spares * p0.Rules.Spare)) + (w64 (x234.Loops * p0.Rules.Loop)))))])) (fun _=>rfl) (fun _=>rfl) h275 rfl ?_
      intro A277 c278 W279 hS280
      have hS281:St ⟨w,[],φ⟩ φ238 [B7,B6,B4,B1,B3,B2,B0,.row A277 c278 3 1 (List.flatMap KL.encI x274)] W279:=hS280
      refine oA Z Z (zp (zh (zH (rR fL2 Z (oR Z (fun _=>zz (zY Z f266 Z) (congrArg (Value.int .i64) hi210.out)) (oM Z Z (zp ?_)))))))
      cases hm276
      exact zH ⟨rfl,⟨φ238,A277,c278,rfl,f254,rfl,rfl,f257,f259,f260,f261,f262,f263,f264,f265,(le196.trans le242),(hS281.pick [2,3,4,5,6,7] _ (by decide) rfl)⟩⟩
     ·intro c219 hm286
      refine cF Z c219 (kN (rR (.fl 0 (.fl 1 (.fx 2 (.fx 3 (.fl 4 (.nil)) .stop) .stop))) Z (oM Z f200 (oM Z Z (ZC (pv:=[(0,.int .i64 (w64 (x177 + x211)))]) (zs:=[.int .i64 0]) (cs:=[.int .i64 (w64 (x177 + x211))]) Z Z Z Z Z (mapcons2 Z mapnil2) zA zJ Zp Z Z Z Z Z hS197 ?_)))))
      intro W287 b288 hS289
      let B8:Res:=.row (some ⟨b288,0,none⟩) 1 3 1 (List.flatMap KL.encI [w64 (x177 + x211)])
      have hS291:St ⟨w,[],φ⟩ φ195 [B8,B4,B1,B3,B2,B0,.row A179 c180 3 1 (List.flatMap KL.encI l178)] W287:=hS289
      refine bnK hm286 fun x292 h293 hm294=>Zu (j:=6) (enc:=KL.encI) (xs:=l178) (ys:=[w64 (x177 + x211)]) (zs:=x292) rfl rfl rfl rfl rfl Zc info3 rfl rfl rfl rfl rfl rfl hS291 rfl rfl rfl (hS291.srcR (j:=0) rfl (by decide) (flatMap_len (f:=KL.encI) (sz:=1) (fun _=>rfl) [w64 (x177 + x211)])) (fun _=>rfl) (fun _=>rfl) h293 rfl ?_
      intro A295 c296 W297 hS298
      have hS299:St ⟨w,[],φ⟩ φ195 [B8,B4,B1,B3,B2,B0,.row A295 c296 3 1 (List.flatMap KL.encI x292)] W297:=hS298
      refine oA Z Z (zp (zh (zH (rR fL2 Z (oR Z (fun _=>zz (zY Z fi194 Z) (congrArg (Value.int .i64) hi210.out)) (oM Z Z (zp ?_)))))))
      cases hm294
      exact zH ⟨rfl,⟨φ195,A295,c296,rfl,f198,rfl,rfl,f201,f202,f203,f204,f205,f206,f207,f208,le196,(hS299.pick [1,2,3,4,5,6] _ (by decide) rfl)⟩⟩
    ·rintro σ304 W305 ⟨φ314,A312,c313,fi307,f317,f318,f319,f320,f321,f322,f323,f324,f325,f326,f327,le315,hS316⟩
     have c328:Hid (¬ ((↑(((↑x140.Loops.length:Int):Int) - 0).toNat:Int) < (↑x140.Loops.length:Int))):=zG (lp_end0)
     refine sR fL1 Z (oR Z (fun _=>zW Z fi307 f327) (eN (zE (cF Z c328 (ZG (ze (ze (zw (zh (zH (rR fL2 Z (oR Z (fun _=>zz (zY Z f326 Z) (congrArg (Value.int .i64) hi139.out)) (oM Z Z (zp ?_))))))))))))))
     cases hm182
     exact zH ⟨rfl,⟨φ314,A312,c313,rfl,f317,f318,f319,f321,f322,f323,f324,f325,(le128.trans le315),(hS316.pick [1,2,3,4,5] _ (by decide) rfl)⟩⟩
   ·rintro σ333 W334 ⟨φ343,A341,c342,fi336,f346,f347,f348,f349,f350,f351,f352,f353,le344,hS345⟩
    have c354:Hid (¬ ((↑(((↑x66.Legs.length:Int):Int) - 0).toNat:Int) < (↑x66.Legs.length:Int))):=zG (lp_end0)
    refine sR fL1 Z (oR Z (fun _=>zW Z fi336 f353) (eN (zE (cF Z c354 (ZG (ze (ze (zw (zH (rR (fC0_5 (.fx 6 (.fx 7 (.fl 8 (.fl 9 (.fx 10 (.nil) .stop))) .stop) .stop)) Z (oM Z f346 (oM Z f346 (oR Z (fun _=>ZV Z Z) (oR Z (fun _=>zF Z Z ZP Z ZT) (oL Z (hS345.ldB (j:=2) Z Z Z Zi (v:=.slice A38 l37.length c39) Z) (oM Z f348 ?_))))))))))))))))
    have q:=hS345.freezeR (k:=4) (n:=y117.length) rfl (flatMap_len (f:=KL.encI) (sz:=1) (fun _=>rfl) y117) (by decide)
    obtain ⟨φ358,le359,hs360,hS361⟩:=q
    have hS362:St ⟨w,[],φ⟩ φ358 [B1,B3,B2,B0] W334:=hS361
    refine ZC (pv:=[(0,.slice A341 y117.length c342)]) (zs:=[.slice none 0 0]) (cs:=[.slice A341 y117.length c342]) Z Z Z Z Z (mapcons2 Z mapnil2) zQ zN Tryz.zeroValue23 Z Z Z Z Z hS362 ?_
    intro W355 b356 hS357
    have hr364:RlL φ358 rl23 [y117] [.slice A341 y117.length c342]:=(RlL.cons (R:=rl23) (x:=y117) (vs:=[.slice A341 y117.length c342]) ⟨A341,c342,rfl,hs360⟩ RlL.nil)
    let B9:Res:=.row (some ⟨b356,0,none⟩) 1 23 1 [.slice A341 y117.length c342]
    have hS365:St ⟨w,[],φ⟩ φ358 [B9,B1,B3,B2,B0] W355:=hS357
    refine bnK hm112 fun x366 h367 hm368=>?_
    have h375:=h63.le le344
    have h376:=h375.le le359
    refine Zt (R:=rl23) (j:=2) (xs:=l37) (ys:=[y117]) (zs:=x366) rfl rfl rfl rfl rfl Tryz.underlying32 info23 rfl rfl rfl rfl rfl rfl rfl hS365 rfl rfl rfl h376 hr364 (hS365.srcR (j:=0) rfl (by decide) (RlL.len hr364)) h367 rfl ?_
    intro A369 c370 cs371 W372 hS373 hr374
    have hS377:St ⟨w,[],φ⟩ φ358 [B9,B1,.row A369 c370 23 1 cs371,B2,B0] W372:=hS373
    refine oR Z (fun _=>ZV Z Z) (oR Z (fun _=>zF Z Z ZP Z ZT) (zx (j:=3) (vs:=[.slice A369 x366.length c370]) Z Z Z Z hS377 Z Z Z Z ZT (zC Z) Z Z Z ?_))
    intro W378 hS379
    have hS380:St ⟨w,[],φ⟩ φ358 [B9,B1,.row A369 c370 23 1 cs371,.blk b18 245 [.slice pA0_0_0 p0.Rules.Classes.length pc0_0_0,.int .i64 p0.Rules.Each,.int .i64 p0.Rules.Laps,.int .i64 p0.Rules.Spare,.int .i64 p0.Rules.Loop,.int .i64 p0.Rules.Unused,.int .i64 p0.Start,.slice pA0_2 p0.Teams.length pc0_2,.slice A369 x366.length c370],B0] W378:=hS379
    refine zp (zh (zH (rR fL2 Z (oR Z (fun _=>zz (zY Z f351 Z) (congrArg (Value.int .i64) hi65.out)) (oM Z Z (zp ?_))))))
    cases hm368
    exact zH ⟨rfl,⟨φ358,A369,c370,cs371,rfl,f346,f349,f350,((le58.trans le344).trans le359),(hS380.pick [2,3,4] _ (by decide) rfl),hr374⟩⟩
  ·rintro σ385 W386 ⟨φ396,A393,c394,c395,fi388,f399,f400,f401,le397,hS398,h402⟩
   have c403:Hid (¬ ((↑(((↑p0.Teams.length:Int):Int) - 0).toNat:Int) < (↑p0.Teams.length:Int))):=zG (lp_end0)
   refine sR fL1 Z (oR Z (fun _=>zW Z fi388 f401) (eN (zE (cF Z c403 (ZG (ze (ze (zw (zH (sR fL3 Z (oM Z f399 (oA Z Z (oA Z Z (eN (zO ?_)))))))))))))))
   have h404:=ha0.le le12
   have h405:=h404.le le397
   have h406:=ha1.le le12
   have h407:=h406.le le397
   cases hm43
   exact ⟨rfl,_,(res2 rfl rfl),φ396,_,(hS398.pick [1,0] _ (by decide) rfl),b18,pA0_0_0,pc0_0_0,pA0_2,pc0_2,A393,c394,c395,rfl,rfl,h405,h407,h402⟩
 ·intro c15 hm408
  refine cT Z c15 (sR fL3 Z (oM Z Z (oA Z Z (oA Z Z (eN (zO (zB ?_)))))))
  cases hm408
  exact ⟨rfl,_,(res2 rfl rfl),φ8,_,(hS14.pick [] _ (by decide) rfl),rfl,rfl⟩
theorem w_slices_Clone_int_int (p0:List Int) (pA0:Option Addr) (pc0:Nat) (w:World) (φ:PHeap) (hS:St0 w φ []) (ha0:Sl φ 1 pA0 pc0 p0.length (List.flatMap KL.encI p0)) {r:(List Int)} (hm:m_slices_Clone_int_int p0=some r):Gv Tryz.prog 182 [.slice pA0 p0.length pc0] w (RetS w [] φ (fun φ_ L_ v=>∃ (A0:Option Addr) (c0:Nat),v=.slice A0 r.length c0∧L_=[.row A0 c0 3 1 (List.flatMap KL.encI r)])):=by
 unfold m_slices_Clone_int_int at hm
 refine Gv.of Tryz.func182 Z Tryz.ntmps182 Tryz.results182 Z (sR fL1 Z (oA Z Z (eN (zE (sR fL2 Z (oM Z Z (oR Z (fun _=>Runs.eqNil Z Z Z zA) (eN ?_))))))))
 by_cases c1:pA0.isNone=true
 ·replace c1:=zG c1
  have hp2:p0=[]:=List.eq_nil_of_length_eq_zero (Sl.nilA (Option.isNone_iff_eq_none.1 c1.out ▸ ha0))
  have hm3:(some [])=some r:=by simpa [hp2,app] using hm
  refine zn (congrArg Value.bool c1.out) (sR fL1 Z (oA Z Z (eN (zO (zB ?_)))))
  have hS4:=hS.nilrow 3 1
  cases hm3
  exact ⟨Z,_,(zq Z),φ,_,hS4,none,0,Z,Z⟩
 ·replace c1:=zG c1
  refine zr (congrArg Value.bool (Bool.eq_false_iff.2 c1.out)) (kN (sR (.fx 0 (.fl 1 (.fx 2 (.fl 3 (.nil)) .stop)) .stop) Z (OKS.buildSlice0 1 Z Z Z Z Z zA zJ hS ?_)))
  intro W6 b7 hS8
  have hS10:St ⟨w,[],φ⟩ φ [.row (some ⟨b7,0,none⟩) 0 3 1 (List.flatMap KL.encI ([]:List Int))] W6:=hS8
  refine oM Z Z (bnK hm fun x11 h12 hm13=>Zu (j:=0) (enc:=KL.encI) (xs:=([]:List Int)) (ys:=p0) (zs:=x11) Z Z Z Z Z Zc info3 Z Z Z Z Z Z hS10 Z Z Z (hS10.srcS ha0) (fun _=>Z) (fun _=>Z) h12 Z ?_)
  intro A14 c15 W16 hS17
  have hS18:St ⟨w,[],φ⟩ φ [.row A14 c15 3 1 (List.flatMap KL.encI x11)] W16:=hS17
  refine oA Z Z (eN (zO ?_))
  have hE:=Option.some.inj hm13;first | subst r | cases hE
  exact ⟨Z,_,(zq Z),φ,_,hS18,A14,c15,Z,Z⟩
theorem w_relay_desk_laps (p0:T_relay_desk) (pb0:Nat) (pA0_0_0_0:Option Addr) (pc0_0_0_0:Nat) (pA0_0_2:Option Addr) (pc0_0_2:Nat) (pA0_1:Option Addr) (pc0_1:Nat) (w:World) (φ:PHeap) (hS:St0 w φ [.blk pb0 245 [.slice pA0_0_0_0 p0.Race.Rules.Classes.length pc0_0_0_0,.int .i64 p0.Race.Rules.Each,.int .i64 p0.Race.Rules.Laps,.int .i64 p0.Race.Rules.Spare,.int .i64 p0.Race.Rules.Loop,.int .i64 p0.Race.Rules.Unused,.int .i64 p0.Race.Start,.slice pA0_0_2 p0.Race.Teams.length pc0_0_2,.slice pA0_1 p0.after.length pc0_1]]) (ha0:Sl φ 1 pA0_0_0_0 pc0_0_0_0 p0.Race.Rules.Classes.length (List.flatMap KL.encI p0.Race.Rules.Classes)) (ha1:SlR φ rl44 pA0_0_2 pc0_0_2 p0.Race.Teams) (ha2:SlR φ rl23 pA0_1 pc0_1 p0.after) {r:T_start_Race} (hm:m_relay_desk_laps p0=some r):Gv Tryz.prog 108 [.pointer (some ⟨pb0,0,none⟩)] w (RetS w [.blk pb0 245 [.slice pA0_0_0_0 p0.Race.Rules.Classes.length pc0_0_0_0,.int .i64 p0.Race.Rules.Each,.int .i64 p0.Race.Rules.Laps,.int .i64 p0.Race.Rules.Spare,.int .i64 p0.Race.Rules.Loop,.int .i64 p0.Race.Rules.Unused,.int .i64 p0.Race.Start,.slice pA0_0_2 p0.Race.Teams.length pc0_0_2,.slice pA0_1 p0.after.length pc0_1]] φ (fun φ_ L_ v=>∃ (A01:Option Addr) (c01:Nat) (A02:Option Addr) (c02:Nat) (cs02:List Value),v=.agg #[.int .i64 r.Laps,.slice A01 r.Bibs.length c01,.slice A02 r.Times.length c02]∧L_=[.row A01 c01 3 1 (List.flatMap KL.encI r.Bibs),.row A02 c02 23 1 cs02,.blk pb0 245 [.slice pA0_0_0_0 p0.Race.Rules.Classes.length pc0_0_0_0,.int .i64 p0.Race.Rules.Each,.int .i64 p0.Race.Rules.Laps,.int .i64 p0.Race.Rules.Spare,.int .i64 p0.Race.Rules.Loop,.int .i64 p0.Race.Rules.Unused,.int .i64 p0.Race.Start,.slice pA0_0_2 p0.Race.Teams.length pc0_0_2,.slice pA0_1 p0.after.length pc0_1]]∧RlL φ_ rl23 r.Times cs02)):=by
 unfold m_relay_desk_laps at hm
 refine Gv.of Tryz.func108 Z Tryz.ntmps108 Tryz.results108 Z (sR (.fx 0 (.nil) .stop) Z (ZK (cs:=[.int .i64 0,.slice none 0 0,.slice none 0 0]) Z Z Z Z Z yC Z hS ?_))
 intro W2 b3 hS4
 refine eN (zE (Zh ZY [3,3,3,3,3,1,3,3,3,3,3,3,1,3,3,2,0] (fC0_14 (.fx 15 (.fx 16 (.nil) .stop) .stop)) (by kernel_rfl) ?_))
 have hS6:=hS4.drew
 generalize hw_W7:({ W2 with drawn:=W2.drawn + 1 }:World)=W7 at hS6 ⊢
 refine oM Z Z (oR Z (fun _=>ZV Z Z) (oR Z (fun _=>zF Z Z ZP Z zy) (oR Z (fun _=>zF Z Z zL Z ZE) (oR Z (fun _=>zF Z Z zg Z zN) (oL Z (hS6.ldB (j:=1) Z Z Z zd (v:=.slice pA0_0_0_0 p0.Race.Rules.Classes.length pc0_0_0_0) Z) (oR Z (fun _=>zV Z Z zA) (oM Z Z (oR Z (fun _=>ZV Z Z) (oR Z (fun _=>zF Z Z ZP Z zy) (oR Z (fun _=>zF Z Z zL Z ZE) (oR Z (fun _=>zF Z Z zg Z zJ) (oL Z (hS6.ldB (j:=1) Z Z Z zR (v:=.int .i64 p0.Race.Rules.Laps) Z) (oR Z (fun _=>Runs.mulw Z Z Z) (oR Z (fun _=>Zf (pv:=[(0,.int .i64 (w64 ((↑p0.Race.Rules.Classes.length:Int) * p0.Race.Rules.Laps)))]) (z:=[.int .i64 0,.slice none 0 0,.slice none 0 0]) (cs:=[.int .i64 (w64 ((↑p0.Race.Rules.Classes.length:Int) * p0.Race.Rules.Laps)),.slice none 0 0,.slice none 0 0]) Z (mapcons2 Z mapnil2) yC places34 Z Z) (ZK (cs:=[.int .i64 0,.slice none 0 0,.slice none 0 0]) Z Z Z Z Z yC Z hS6 ?_)))))))))))))))
 intro W8 b9 hS10
 refine zx (j:=0) (vs:=[.int .i64 (w64 ((↑p0.Race.Rules.Classes.length:Int) * p0.Race.Rules.Laps)),.slice none 0 0,.slice none 0 0]) Z Z Z Z hS10 Z Z Z Z Zn (zC Z) Z Z Z ?_
 intro W12 hS13
 let B0:Res:=.blk pb0 245 [.slice pA0_0_0_0 p0.Race.Rules.Classes.length pc0_0_0_0,.int .i64 p0.Race.Rules.Each,.int .i64 p0.Race.Rules.Laps,.int .i64 p0.Race.Rules.Spare,.int .i64 p0.Race.Rules.Loop,.int .i64 p0.Race.Rules.Unused,.int .i64 p0.Race.Start,.slice pA0_0_2 p0.Race.Teams.length pc0_0_2,.slice pA0_1 p0.after.length pc0_1]
 let B1:Res:=.blk b3 34 [.int .i64 0,.slice none 0 0,.slice none 0 0]
 have hS14:St ⟨w,[B0],φ⟩ φ [.blk b9 34 [.int .i64 (w64 ((↑p0.Race.Rules.Classes.length:Int) * p0.Race.Rules.Laps)),.slice none 0 0,.slice none 0 0],B1,B0] W12:=hS13
 refine eN (zE (sR fL7 Z (oM Z Z (oR Z (fun _=>ZV Z Z) (oR Z (fun _=>zF Z Z ZP Z zy) (oR Z (fun _=>zF Z Z zL Z ZH) (oL Z (hS14.ldB (j:=2) Z Z Z ZO (v:=.slice pA0_0_2 p0.Race.Teams.length pc0_0_2) Z) (oR Z (fun _=>zV Z Z zm) (oM Z Z (eN (zS ?_)))))))))))
 have q:=bnd hm
 obtain ⟨⟨y56,y57⟩,hf53,hm52⟩:=q
 try dsimp only at hm52
 have q:=forR'_le hf53
 obtain ⟨hle54,hf55⟩:=q
 replace hle54:=zG hle54
 refine CK.forN' (fun k51 (l42,l46) σ_ w_=>∃ (φ_:PHeap) (A43:Option Addr) (c44:Nat) (A47:Option Addr) (c48:Nat) (cs50:List Value),σ_ 27=.int .i64 (↑k51:Int)∧σ_ 0=.pointer (some ⟨pb0,0,none⟩)∧σ_ 2=.pointer (some ⟨b3,0,none⟩)∧σ_ 3=.pointer (some ⟨b9,0,none⟩)∧σ_ 25=.slice pA0_0_2 p0.Race.Teams.length pc0_0_2∧σ_ 26=.int .i64 (↑p0.Race.Teams.length:Int)∧PHeap.Le φ φ_∧St ⟨w,[B0],φ⟩ φ_ [.row A43 c44 3 1 (List.flatMap KL.encI l42),.row A47 c48 23 1 cs50,.blk b9 34 [.int .i64 (w64 ((↑p0.Race.Rules.Classes.length:Int) * p0.Race.Rules.Laps)),.slice A43 l42.length c44,.slice A47 l46.length c48],B1,B0] w_∧RlL φ_ rl23 l46 cs50) hf55 ?_ ?_ ?_
 ·have hS58:=hS14.nilrow 3 1
  have hS60:=hS58.nilrow 23 1
  exact ⟨φ,none,0,none,0,[],rfl,rfl,rfl,rfl,rfl,rfl,(zf _),(hS60.pick [1,0,2,3,4] _ (by decide) rfl),RlL.nil⟩
 ·rintro k51 ⟨l42,l46⟩ xx64 σ62 W63 hk67 ⟨φ69,A43,c44,A47,c48,cs50,fi68,f72,f73,f74,f75,f76,le70,hS71,h77⟩ hx65
  try dsimp only at hx65
  have c78:Hid ((↑k51:Int) < (↑p0.Race.Teams.length:Int)):=zG (lp_lt0 hk67)
  replace hk67:=zG hk67
  have hi79:Hid (w64 ((↑k51:Int) + 1)=(↑(k51 + 1):Int)):=zG (by have h1:=hle54.out;have h2:=c78.out;rw [w64_in] <;> omega)
  refine sR fL1 Z (oR Z (fun _=>zW Z fi68 f76) (eN (zE (cT Z c78 (kN (zE (zS (sR (fC0_2 (.fx 3 (.fl 4 (.fx 5 (.nil) .stop)) .stop)) Z (oM Z fi68 (bnK hx65 fun x80 h81 hm82=>?_))))))))))
  have h83:=ha1.le le70
  have q:=h83.el (idx_get h81)
  obtain ⟨b84,off85,vs88,hA86,hC87,hr89⟩:=q
  obtain ⟨pA90,pc91,pA92,pc93,rfl,h94,h95⟩:=hr89
  replace hC87:Cl φ69 b84 (off85 + k51 * 3) [.int .i64 x80.Bib,.slice pA90 x80.Classes.length pc91,.slice pA92 x80.Legs.length pc93]:=hC87
  refine oR Z (fun _=>zu Z f75 hA86 fi68 zm ZB (idx_lt h81)) (oL Z (hS71.ldCA (f:=0) hC87 Z Z yA ZB (us:=[.int .i64 x80.Bib,.slice pA90 x80.Classes.length pc91,.slice pA92 x80.Legs.length pc93]) Z Z) (ZK (cs:=[.int .i64 0,.slice none 0 0,.slice none 0 0]) Z Z Z Z Z Zk Z hS71 ?_))
  intro W96 b97 hS98
  refine oA Z Z (zx (j:=0) (vs:=[.int .i64 x80.Bib,.slice pA90 x80.Classes.length pc91,.slice pA92 x80.Legs.length pc93]) Z Z Z Z hS98 Z Z Z Z ZB (zC Z) Z Z Z ?_)
  intro W100 hS101
  let B2:Res:=.blk b97 44 [.int .i64 x80.Bib,.slice pA90 x80.Classes.length pc91,.slice pA92 x80.Legs.length pc93]
  let B3:Res:=.blk b9 34 [.int .i64 (w64 ((↑p0.Race.Rules.Classes.length:Int) * p0.Race.Rules.Laps)),.slice A43 l42.length c44,.slice A47 l46.length c48]
  let B4:Res:=.row A43 c44 3 1 (List.flatMap KL.encI l42)
  let B5:Res:=.row A47 c48 23 1 cs50
  have hS102:St ⟨w,[B0],φ⟩ φ69 [B2,B4,B5,B3,B1,B0] W100:=hS101
  refine eN (sR (fC0_3 (.fx 4 (.fx 5 (.fl 6 (.fx 7 (.nil) .stop)) .stop) .stop)) Z (oR Z (fun _=>zF Z f74 zt Z zN) (oL Z (hS102.ldB (j:=3) Z Z Z zd (v:=.slice A43 l42.length c44) Z) (oR Z (fun _=>zF Z Z zk Z zJ) (oL Z (hS102.ldB (j:=0) Z Z Z zR (v:=.int .i64 x80.Bib) Z) (ZC (pv:=[(0,.int .i64 x80.Bib)]) (zs:=[.int .i64 0]) (cs:=[.int .i64 x80.Bib]) Z Z Z Z Z (mapcons2 Z mapnil2) zA zJ Zp Z Z Z Z Z hS102 ?_))))))
  intro W103 b104 hS105
  let B6:Res:=.row (some ⟨b104,0,none⟩) 1 3 1 (List.flatMap KL.encI [x80.Bib])
  have hS107:St ⟨w,[B0],φ⟩ φ69 [B6,B2,B4,B5,B3,B1,B0] W103:=hS105
  refine bnK hm82 fun x108 h109 hm110=>Zu (j:=2) (enc:=KL.encI) (xs:=l42) (ys:=[x80.Bib]) (zs:=x108) rfl rfl rfl rfl rfl Zc info3 rfl rfl rfl rfl rfl rfl hS107 rfl rfl rfl (hS107.srcR (j:=0) rfl (by decide) (flatMap_len (f:=KL.encI) (sz:=1) (fun _=>rfl) [x80.Bib])) (fun _=>rfl) (fun _=>rfl) h109 rfl ?_
  intro A111 c112 W113 hS114
  let B7:Res:=.row A111 c112 3 1 (List.flatMap KL.encI x108)
  have hS115:St ⟨w,[B0],φ⟩ φ69 [B6,B2,B7,B5,B3,B1,B0] W113:=hS114
  refine oR Z (fun _=>zF Z f74 zt Z zN) (zx (j:=4) (vs:=[.slice A111 x108.length c112]) Z Z Z Z hS115 Z Z Z Z zN (zC Z) Z Z Z ?_)
  intro W116 hS117
  let B8:Res:=.blk b9 34 [.int .i64 (w64 ((↑p0.Race.Rules.Classes.length:Int) * p0.Race.Rules.Laps)),.slice A111 x108.length c112,.slice A47 l46.length c48]
  have hS118:St ⟨w,[B0],φ⟩ φ69 [B6,B2,B7,B5,B8,B1,B0] W116:=hS117
  refine eN (Zh ZY [3,1,3,3,3,1,3,3,1,2,2,0,3,0] (fC0_8 (.fx 9 (.fx 10 (.fx 11 (.fl 12 (.fx 13 (.nil) .stop)) .stop) .stop) .stop)) (by kernel_rfl) ?_)
  have hS119:=hS118.drew
  generalize hw_W120:({ W116 with drawn:=W116.drawn + 1 }:World)=W120 at hS119 ⊢
  refine oR Z (fun _=>zF Z f74 zt Z ZT) (oL Z (hS119.ldB (j:=4) Z Z Z Zi (v:=.slice A47 l46.length c48) Z) (oM Z f72 (oR Z (fun _=>ZV Z Z) (oR Z (fun _=>zF Z Z ZP Z ZT) (oL Z (hS119.ldB (j:=6) Z Z Z Zi (v:=.slice pA0_1 p0.after.length pc0_1) Z) (oM Z Z (bnK hm110 fun x121 h122 hm123=>?_)))))))
  have h124:=ha2.le le70
  have q:=h124.el (idx_get h122)
  obtain ⟨b125,off126,vs129,hA127,hC128,hr130⟩:=q
  obtain ⟨pA131,pc132,rfl,h133⟩:=hr130
  replace hC128:Cl φ69 b125 (off126 + k51 * 1) [.slice pA131 x121.length pc132]:=hC128
  refine oR Z (fun _=>zu Z Z hA127 Z zQ zN (idx_lt h122)) (oL Z (hS119.ldC (f:=0) hC128 (v:=.slice pA131 x121.length pc132) Z Z zd Z) (bnK hm123 fun x134 h135 hm136=>zU 0 Z Z Z Z (zP Z Z Tryz.call182 (zD Z zZ) Z) hS119 (fun hs=>w_slices_Clone_int_int x121 pA131 pc132 W120 φ69 hs h133 h135) (.inr Z) ?_))
  rintro φ137 L138 v139 W140 le141 hS142 ⟨A143,c144,rfl,rfl⟩
  have hS146:St ⟨w,[B0],φ⟩ φ137 [.row A143 c144 3 1 (List.flatMap KL.encI x134),B6,B2,B7,B5,B8,B1,B0] W140:=hS142
  have q:=hS146.freezeR (k:=0) (n:=x134.length) rfl (flatMap_len (f:=KL.encI) (sz:=1) (fun _=>rfl) x134) (by decide)
  obtain ⟨φ150,le151,hs152,hS153⟩:=q
  have hS154:St ⟨w,[B0],φ⟩ φ150 [B6,B2,B7,B5,B8,B1,B0] W140:=hS153
  refine ZC (pv:=[(0,.slice A143 x134.length c144)]) (zs:=[.slice none 0 0]) (cs:=[.slice A143 x134.length c144]) Z Z Z Z Z (mapcons2 Z mapnil2) zQ zN Tryz.zeroValue23 Z Z Z Z Z hS154 ?_
  intro W147 b148 hS149
  have hr156:RlL φ150 rl23 [x134] [.slice A143 x134.length c144]:=(RlL.cons (R:=rl23) (x:=x134) (vs:=[.slice A143 x134.length c144]) ⟨A143,c144,rfl,hs152⟩ RlL.nil)
  let B9:Res:=.row (some ⟨b148,0,none⟩) 1 23 1 [.slice A143 x134.length c144]
  have hS157:St ⟨w,[B0],φ⟩ φ150 [B9,B6,B2,B7,B5,B8,B1,B0] W147:=hS149
  refine bnK hm136 fun x158 h159 hm160=>?_
  have h167:=h77.le le141
  have h168:=h167.le le151
  refine Zt (R:=rl23) (j:=4) (xs:=l46) (ys:=[x134]) (zs:=x158) rfl rfl rfl rfl rfl Tryz.underlying32 info23 rfl rfl rfl rfl rfl rfl rfl hS157 rfl rfl rfl h168 hr156 (hS157.srcR (j:=0) rfl (by decide) (RlL.len hr156)) h159 rfl ?_
  intro A161 c162 cs163 W164 hS165 hr166
  have hS169:St ⟨w,[B0],φ⟩ φ150 [B9,B6,B2,B7,.row A161 c162 23 1 cs163,B8,B1,B0] W164:=hS165
  refine oR Z (fun _=>zF Z f74 zt Z ZT) (zx (j:=5) (vs:=[.slice A161 x158.length c162]) Z Z Z Z hS169 Z Z Z Z ZT (zC Z) Z Z Z ?_)
  intro W170 hS171
  have hS172:St ⟨w,[B0],φ⟩ φ150 [B9,B6,B2,B7,.row A161 c162 23 1 cs163,.blk b9 34 [.int .i64 (w64 ((↑p0.Race.Rules.Classes.length:Int) * p0.Race.Rules.Laps)),.slice A111 x108.length c112,.slice A161 x158.length c162],B1,B0] W170:=hS171
  refine zp (zh (zH (rR fL2 Z (oR Z (fun _=>zz (zY Z fi68 Z) (congrArg (Value.int .i64) hi79.out)) (oM Z Z (zp ?_))))))
  cases hm160
  exact zH ⟨rfl,⟨φ150,A111,c112,A161,c162,cs163,rfl,f72,f73,f74,f75,f76,((le70.trans le141).trans le151),(hS172.pick [3,4,5,6,7] _ (by decide) rfl),hr166⟩⟩
 ·rintro σ180 W181 ⟨φ196,A191,c192,A193,c194,c195,fi183,f199,f200,f201,f202,f203,le197,hS198,h204⟩
  have c205:Hid (¬ ((↑(((↑p0.Race.Teams.length:Int):Int) - 0).toNat:Int) < (↑p0.Race.Teams.length:Int))):=zG (lp_end0)
  refine sR fL1 Z (oR Z (fun _=>zW Z fi183 f203) (eN (zE (cF Z c205 (ZG (ze (ze (zw (zH (sR (.fl 0 (.fx 1 (.nil) .stop)) Z (oL Z (hS198.ldBA (j:=2) Z Z f201 Tryz.isAgg34 Zn (vs:=[.int .i64 (w64 ((↑p0.Race.Rules.Classes.length:Int) * p0.Race.Rules.Laps)),.slice A191 y56.length c192,.slice A193 y57.length c194]) Z Z) (zx (j:=3) (vs:=[.int .i64 (w64 ((↑p0.Race.Rules.Classes.length:Int) * p0.Race.Rules.Laps)),.slice A191 y56.length c192,.slice A193 y57.length c194]) Z Z Z Z hS198 Z f200 Z Z Zn (zC Z) Z Z Z ?_))))))))))))
  intro W206 hS207
  have hS208:St ⟨w,[B0],φ⟩ φ196 [.row A191 c192 3 1 (List.flatMap KL.encI y56),.row A193 c194 23 1 c195,.blk b9 34 [.int .i64 (w64 ((↑p0.Race.Rules.Classes.length:Int) * p0.Race.Rules.Laps)),.slice A191 y56.length c192,.slice A193 y57.length c194],.blk b3 34 [.int .i64 (w64 ((↑p0.Race.Rules.Classes.length:Int) * p0.Race.Rules.Laps)),.slice A191 y56.length c192,.slice A193 y57.length c194],B0] W206:=hS207
  refine eN (zO ?_)
  cases hm52
  exact ⟨rfl,_,(resL1 (v:=.agg #[.int .i64 (w64 ((↑p0.Race.Rules.Classes.length:Int) * p0.Race.Rules.Laps)),.slice A191 y56.length c192,.slice A193 y57.length c194]) ⟨⟨_,f200,(ldvarA Tryz.isAgg34 Zn (hS208.blkAt (k:=3) rfl) (vs:=[.int .i64 (w64 ((↑p0.Race.Rules.Classes.length:Int) * p0.Race.Rules.Laps)),.slice A191 y56.length c192,.slice A193 y57.length c194]) rfl rfl)⟩,trivial⟩),φ196,_,(hS208.pick [0,1,4] _ (by decide) rfl),A191,c192,A193,c194,c195,rfl,rfl,h204⟩
end Go.Proofs.YtjfffcjjlnmneaaGreat
namespace Go.Proofs.YtjfffcjjlnmneaaGreat
open Go.KL
set_option maxHeartbeats 4000000
theorem w_relay_Laps (p0:T_relay_Race) (pA0_0_0:Option Addr) (pc0_0_0:Nat) (pA0_2:Option Addr) (pc0_2:Nat) (w:World) (φ:PHeap) (hS:St0 w φ []) (ha0:Sl φ 1 pA0_0_0 pc0_0_0 p0.Rules.Classes.length (List.flatMap KL.encI p0.Rules.Classes)) (ha1:SlR φ rl44 pA0_2 pc0_2 p0.Teams) {r:T_start_Race × Int} (hm:m_relay_Laps p0=some r):Gv Tryz.prog 17 [.agg #[.slice pA0_0_0 p0.Rules.Classes.length pc0_0_0,.int .i64 p0.Rules.Each,.int .i64 p0.Rules.Laps,.int .i64 p0.Rules.Spare,.int .i64 p0.Rules.Loop,.int .i64 p0.Rules.Unused,.int .i64 p0.Start,.slice pA0_2 p0.Teams.length pc0_2]] w (RetS w [] φ (fun φ_ L_ v=>∃ (A01:Option Addr) (c01:Nat) (A02:Option Addr) (c02:Nat) (cs02:List Value),v=.tuple #[.agg #[.int .i64 r.1.Laps,.slice A01 r.1.Bibs.length c01,.slice A02 r.1.Times.length c02],.int .i64 r.2]∧L_=[.row A01 c01 3 1 (List.flatMap KL.encI r.1.Bibs),.row A02 c02 23 1 cs02]∧RlL φ_ rl23 r.1.Times cs02)):=by
 unfold m_relay_Laps at hm
 refine Gv.of Tryz.func17 rfl Tryz.ntmps17 Tryz.results17 rfl (sR (.fx 0 (.fx 1 (.fl 2 (.nil)) .stop) .stop) rfl (Zd (cs:=[.slice pA0_0_0 p0.Rules.Classes.length pc0_0_0,.int .i64 p0.Rules.Each,.int .i64 p0.Rules.Laps,.int .i64 p0.Rules.Spare,.int .i64 p0.Rules.Loop,.int .i64 p0.Rules.Unused,.int .i64 p0.Start,.slice pA0_2 p0.Teams.length pc0_2]) rfl rfl rfl rfl rfl rfl (by rfl) hS ?_))
 intro W1 b2 hS3
 refine ZK (cs:=[.int .i64 0,.slice none 0 0,.slice none 0 0]) Z Z Z Z Z yC Z hS3 ?_
 intro W5 b6 hS7
 refine oA Z Z (eN (sR (.fl 0 (.fx 1 (fC2_6 (.nil)) .stop)) Z (oL Z (hS7.ldBA (j:=1) Z Z Z ZW zy (vs:=[.slice pA0_0_0 p0.Rules.Classes.length pc0_0_0,.int .i64 p0.Rules.Each,.int .i64 p0.Rules.Laps,.int .i64 p0.Rules.Spare,.int .i64 p0.Rules.Loop,.int .i64 p0.Rules.Unused,.int .i64 p0.Start,.slice pA0_2 p0.Teams.length pc0_2]) Z Z) ?_)))
 have q:=bnd hm
 obtain ⟨⟨x9,x10⟩,h11,hm12⟩:=q
 try dsimp only at hm12
 refine zU 0 Z Z Z Z (zP Z Z Tryz.call107 (zD Z zZ) Z) hS7 (fun hs=>w_relay_begun p0 pA0_0_0 pc0_0_0 pA0_2 pc0_2 W5 φ hs ha0 ha1 h11) (.inr Z) ?_
 rintro φ13 L14 v15 W16 le17 hS18 hP27
 rcases x9 with _ | x28
 ·try dsimp only at hm12
  obtain ⟨rfl,rfl⟩:=hP27
  let B0:Res:=.blk b6 34 [.int .i64 0,.slice none 0 0,.slice none 0 0]
  let B1:Res:=.blk b2 28 [.slice pA0_0_0 p0.Rules.Classes.length pc0_0_0,.int .i64 p0.Rules.Each,.int .i64 p0.Rules.Laps,.int .i64 p0.Rules.Spare,.int .i64 p0.Rules.Loop,.int .i64 p0.Rules.Unused,.int .i64 p0.Start,.slice pA0_2 p0.Teams.length pc0_2]
  have hS29:St ⟨w,[],φ⟩ φ13 [B0,B1] W16:=hS18
  refine oM Z Z (oR Z (fun _=>ZM Z Z (v:=.pointer none) Z) (oR Z (fun _=>ZM Z Z (v:=.int .i64 x10) Z) (oA Z Z (oA Z Z (eN (zE (sR fL2 Z (oM Z Z (oR Z (fun _=>ZI Z Z Z) (eN (ifc hm12 ?_ ?_)))))))))))
  ·intro c30 hm31
   refine zr (zX (fun h=>h c30.out)) (kN (sR (.fl 0 (.fx 1 (.fx 2 (.fl 3 (.nil)) .stop) .stop)) Z (oM Z Z ?_)))
   cases hm31
  ·intro c30 hm32
   refine cT Z c30 (sR (.fl 0 (.fl 1 (.fx 2 (.fl 3 (.nil)) .stop))) Z (oR Z (fun _=>Zf (pv:=[]) (z:=[.int .i64 0,.slice none 0 0,.slice none 0 0]) (cs:=[.int .i64 0,.slice none 0 0,.slice none 0 0]) Z mapnil2 yC places34 Z Z) (oM Z Z (zx (j:=0) (vs:=[.int .i64 0,.slice none 0 0,.slice none 0 0]) Z Z Z Z hS29 Z Z Z Z Zn (zC Z) Z Z Z ?_))))
   intro W33 hS34
   have hS35:St ⟨w,[],φ⟩ φ13 [B0,B1] W33:=hS34
   refine oA Z Z (eN (zO (zB ?_)))
   have hS36:=hS35.nilrow 3 1
   have hS38:=hS36.nilrow 23 1
   cases hm32
   exact ⟨rfl,_,(resLn (rs:=[.cell 2 34,.tmp 3]) (vs:=[.agg #[.int .i64 0,.slice none 0 0,.slice none 0 0],.int .i64 x10]) ⟨⟨_,rfl,(ldvarA Tryz.isAgg34 Zn (hS38.blkAt (k:=2) rfl) (vs:=[.int .i64 0,.slice none 0 0,.slice none 0 0]) rfl rfl)⟩,⟨rfl,trivial⟩⟩ rfl),φ13,_,(hS38.pick [1,0] _ (by decide) rfl),none,0,none,0,[],rfl,rfl,RlL.nil⟩
 ·try dsimp only at hm12
  obtain ⟨b19,A20,c21,A22,c23,A24,c25,c26,rfl,rfl,h42,h43,h44⟩:=hP27
  let B2:Res:=.blk b19 245 [.slice A20 x28.Race.Rules.Classes.length c21,.int .i64 x28.Race.Rules.Each,.int .i64 x28.Race.Rules.Laps,.int .i64 x28.Race.Rules.Spare,.int .i64 x28.Race.Rules.Loop,.int .i64 x28.Race.Rules.Unused,.int .i64 x28.Race.Start,.slice A22 x28.Race.Teams.length c23,.slice A24 x28.after.length c25]
  let B3:Res:=.blk b6 34 [.int .i64 0,.slice none 0 0,.slice none 0 0]
  let B4:Res:=.blk b2 28 [.slice pA0_0_0 p0.Rules.Classes.length pc0_0_0,.int .i64 p0.Rules.Each,.int .i64 p0.Rules.Laps,.int .i64 p0.Rules.Spare,.int .i64 p0.Rules.Loop,.int .i64 p0.Rules.Unused,.int .i64 p0.Start,.slice pA0_2 p0.Teams.length pc0_2]
  have hS45:St ⟨w,[],φ⟩ φ13 [B2,.row A24 c25 23 1 c26,B3,B4] W16:=hS18
  refine oM Z Z (oR Z (fun _=>ZM Z Z (v:=.pointer (some ⟨b19,0,none⟩)) Z) (oR Z (fun _=>ZM Z Z (v:=.int .i64 x10) Z) (oA Z Z (oA Z Z (eN (zE (sR fL2 Z (oM Z Z (oR Z (fun _=>ZI Z Z Z) (eN (ifc hm12 ?_ ?_)))))))))))
  ·intro c46 hm47
   refine zr (zX (fun h=>h c46.out)) (kN (sR (.fl 0 (.fx 1 (.fx 2 (.fl 3 (.nil)) .stop) .stop)) Z (oM Z Z ?_)))
   have q:=hS45.freezeRR (R:=rl23) (k:=1) rfl h44 rfl (by decide)
   obtain ⟨φ48,le49,hs50,hS51⟩:=q
   have hS52:St ⟨w,[],φ⟩ φ48 [B2,B3,B4] W16:=hS51
   have h53:=h42.le le49
   have h54:=h43.le le49
   refine bnK hm47 fun x55 h56 hm57=>zU 1 Z Z Z Z (zP Z Z Tryz.call108 (zD Z zZ) Z) hS52 (fun hs=>w_relay_desk_laps x28 b19 A20 c21 A22 c23 A24 c25 W16 φ48 hs h53 h54 hs50 h56) (.inl Z) ?_
   rintro φ58 L59 v60 W61 le62 hS63 ⟨A64,c65,A66,c67,c68,rfl,rfl,h71⟩
   let B5:Res:=.row A64 c65 3 1 (List.flatMap KL.encI x55.Bibs)
   have hS72:St ⟨w,[],φ⟩ φ58 [B5,.row A66 c67 23 1 c68,B2,B3,B4] W61:=hS63
   refine zx (j:=3) (vs:=[.int .i64 x55.Laps,.slice A64 x55.Bibs.length c65,.slice A66 x55.Times.length c67]) Z Z Z Z hS72 Z Z Z Z Zn (zC Z) Z Z Z ?_
   intro W73 hS74
   have hS75:St ⟨w,[],φ⟩ φ58 [B5,.row A66 c67 23 1 c68,B2,.blk b6 34 [.int .i64 x55.Laps,.slice A64 x55.Bibs.length c65,.slice A66 x55.Times.length c67],B4] W73:=hS74
   refine oA Z Z (eN (zO ?_))
   cases hm57
   exact ⟨rfl,_,(resLn (rs:=[.cell 2 34,.tmp 3]) (vs:=[.agg #[.int .i64 x55.Laps,.slice A64 x55.Bibs.length c65,.slice A66 x55.Times.length c67],.int .i64 0]) ⟨⟨_,rfl,(ldvarA Tryz.isAgg34 Zn (hS75.blkAt (k:=3) rfl) (vs:=[.int .i64 x55.Laps,.slice A64 x55.Bibs.length c65,.slice A66 x55.Times.length c67]) rfl rfl)⟩,⟨rfl,trivial⟩⟩ rfl),φ58,_,(hS75.pick [0,1] _ (by decide) rfl),A64,c65,A66,c67,c68,rfl,rfl,h71⟩
  ·intro c46 hm76
   refine cT Z c46 (sR (.fl 0 (.fl 1 (.fx 2 (.fl 3 (.nil)) .stop))) Z (oR Z (fun _=>Zf (pv:=[]) (z:=[.int .i64 0,.slice none 0 0,.slice none 0 0]) (cs:=[.int .i64 0,.slice none 0 0,.slice none 0 0]) Z mapnil2 yC places34 Z Z) (oM Z Z (zx (j:=2) (vs:=[.int .i64 0,.slice none 0 0,.slice none 0 0]) Z Z Z Z hS45 Z Z Z Z Zn (zC Z) Z Z Z ?_))))
   intro W77 hS78
   have hS79:St ⟨w,[],φ⟩ φ13 [B2,.row A24 c25 23 1 c26,B3,B4] W77:=hS78
   refine oA Z Z (eN (zO (zB ?_)))
   have hS80:=hS79.nilrow 3 1
   have hS82:=hS80.nilrow 23 1
   cases hm76
   exact ⟨rfl,_,(resLn (rs:=[.cell 2 34,.tmp 3]) (vs:=[.agg #[.int .i64 0,.slice none 0 0,.slice none 0 0],.int .i64 x10]) ⟨⟨_,rfl,(ldvarA Tryz.isAgg34 Zn (hS82.blkAt (k:=4) rfl) (vs:=[.int .i64 0,.slice none 0 0,.slice none 0 0]) rfl rfl)⟩,⟨rfl,trivial⟩⟩ rfl),φ13,_,(hS82.pick [1,0] _ (by decide) rfl),none,0,none,0,[],rfl,rfl,RlL.nil⟩
theorem w_relay_desk_times (p0:T_relay_desk) (pb0:Nat) (pA0_0_0_0:Option Addr) (pc0_0_0_0:Nat) (pA0_0_2:Option Addr) (pc0_0_2:Nat) (pA0_1:Option Addr) (pc0_1:Nat) (p1:Int) (w:World) (φ:PHeap) (hS:St0 w φ [.blk pb0 245 [.slice pA0_0_0_0 p0.Race.Rules.Classes.length pc0_0_0_0,.int .i64 p0.Race.Rules.Each,.int .i64 p0.Race.Rules.Laps,.int .i64 p0.Race.Rules.Spare,.int .i64 p0.Race.Rules.Loop,.int .i64 p0.Race.Rules.Unused,.int .i64 p0.Race.Start,.slice pA0_0_2 p0.Race.Teams.length pc0_0_2,.slice pA0_1 p0.after.length pc0_1]]) (ha0:Sl φ 1 pA0_0_0_0 pc0_0_0_0 p0.Race.Rules.Classes.length (List.flatMap KL.encI p0.Race.Rules.Classes)) (ha1:SlR φ rl44 pA0_0_2 pc0_0_2 p0.Race.Teams) (ha2:SlR φ rl23 pA0_1 pc0_1 p0.after) {r:(List Int)} (hm:m_relay_desk_times p0 p1=some r):Gv Tryz.prog 109 [.pointer (some ⟨pb0,0,none⟩),.int .i64 p1] w (RetS w [.blk pb0 245 [.slice pA0_0_0_0 p0.Race.Rules.Classes.length pc0_0_0_0,.int .i64 p0.Race.Rules.Each,.int .i64 p0.Race.Rules.Laps,.int .i64 p0.Race.Rules.Spare,.int .i64 p0.Race.Rules.Loop,.int .i64 p0.Race.Rules.Unused,.int .i64 p0.Race.Start,.slice pA0_0_2 p0.Race.Teams.length pc0_0_2,.slice pA0_1 p0.after.length pc0_1]] φ (fun φ_ L_ v=>∃ (A0:Option Addr) (c0:Nat),v=.slice A0 r.length c0∧L_=[.row A0 c0 3 1 (List.flatMap KL.encI r),.blk pb0 245 [.slice pA0_0_0_0 p0.Race.Rules.Classes.length pc0_0_0_0,.int .i64 p0.Race.Rules.Each,.int .i64 p0.Race.Rules.Laps,.int .i64 p0.Race.Rules.Spare,.int .i64 p0.Race.Rules.Loop,.int .i64 p0.Race.Rules.Unused,.int .i64 p0.Race.Start,.slice pA0_0_2 p0.Race.Teams.length pc0_0_2,.slice pA0_1 p0.after.length pc0_1]])):=by
 unfold m_relay_desk_times at hm
 refine Gv.of Tryz.func109 Z Tryz.ntmps109 Tryz.results109 Z (sR fL1 Z (oA Z Z (eN (sR fL1 Z (oA Z Z (eN (zE (sR fL9 Z (oM Z Z (oR Z (fun _=>ZV Z Z) (oR Z (fun _=>zF Z Z ZP Z ZT) (oL Z (hS.ldB (j:=0) Z Z Z Zi (v:=.slice pA0_1 p0.after.length pc0_1) Z) (oM Z Z (bnK hm fun x2 h3 hm4=>?_))))))))))))))
 have q:=ha2.el (idx_get h3)
 obtain ⟨b5,off6,vs9,hA7,hC8,hr10⟩:=q
 obtain ⟨pA11,pc12,rfl,h13⟩:=hr10
 replace hC8:Cl φ b5 (off6 + p1.toNat * 1) [.slice pA11 x2.length pc12]:=hC8
 refine oR Z (fun _=>Zo Z Z hA7 Z zQ zN (idx_lo h3) (idx_hi h3)) (oL Z (hS.ldC (f:=0) hC8 (v:=.slice pA11 x2.length pc12) Z Z zd Z) (oR Z (fun _=>zV Z Z zA) (oM Z Z (eN (zS (bnK hm4 fun y36 hf33 hm32=>?_))))))
 have q:=forR'_le hf33
 obtain ⟨hle34,hf35⟩:=q
 replace hle34:=zG hle34
 let B0:Res:=.blk pb0 245 [.slice pA0_0_0_0 p0.Race.Rules.Classes.length pc0_0_0_0,.int .i64 p0.Race.Rules.Each,.int .i64 p0.Race.Rules.Laps,.int .i64 p0.Race.Rules.Spare,.int .i64 p0.Race.Rules.Loop,.int .i64 p0.Race.Rules.Unused,.int .i64 p0.Race.Start,.slice pA0_0_2 p0.Race.Teams.length pc0_0_2,.slice pA0_1 p0.after.length pc0_1]
 refine CK.forN' (fun k31 l27 σ_ w_=>∃ (φ_:PHeap) (A28:Option Addr) (c29:Nat),σ_ 16=.int .i64 (↑k31:Int)∧σ_ 0=.pointer (some ⟨pb0,0,none⟩)∧σ_ 5=.slice A28 l27.length c29∧σ_ 14=.slice pA11 x2.length pc12∧σ_ 15=.int .i64 (↑x2.length:Int)∧PHeap.Le φ φ_∧St ⟨w,[B0],φ⟩ φ_ [B0,.row A28 c29 3 1 (List.flatMap KL.encI l27)] w_) hf35 ?_ ?_ ?_
 ·have hS37:=hS.nilrow 3 1
  exact ⟨φ,none,0,rfl,rfl,rfl,rfl,rfl,(zf _),(hS37.pick [1,0] _ (by decide) rfl)⟩
 ·rintro k31 l27 xx41 σ39 W40 hk44 ⟨φ46,A28,c29,fi45,f49,f50,f51,f52,le47,hS48⟩ hx42
  have c53:Hid ((↑k31:Int) < (↑x2.length:Int)):=zG (lp_lt0 hk44)
  replace hk44:=zG hk44
  have hi54:Hid (w64 ((↑k31:Int) + 1)=(↑(k31 + 1):Int)):=zG (by have h1:=hle34.out;have h2:=c53.out;rw [w64_in] <;> omega)
  refine sR fL1 Z (oR Z (fun _=>zW Z fi45 f52) (eN (zE (cT Z c53 (kN (zE (zS (sR fL5 Z (oM Z fi45 (bnK hx42 fun x55 h56 hm57=>?_))))))))))
  have h58:=h13.le le47
  have q:=h58.el (fun _=>rfl) (idx_get h56)
  obtain ⟨b59,off60,hA61,hC62⟩:=q
  refine oR Z (fun _=>zu Z f51 hA61 fi45 zA zJ (idx_lt h56)) (oL Z (hS48.ldC (f:=0) hC62 (v:=.int .i64 x55) Z Z zR Z) (oA Z Z (oA Z Z (eN (sR fL10 Z (oM Z Z (oR Z (fun _=>zz (zY Z Z Z) (congrArg (Value.int .i64) hi54.out)) (oM Z f49 (oR Z (fun _=>ZV Z Z) (oR Z (fun _=>zF Z Z ZP Z zy) (oR Z (fun _=>zF Z Z zL Z ZE) (oR Z (fun _=>zF Z Z zg Z zJ) (oL Z (hS48.ldB (j:=0) Z Z Z zR (v:=.int .i64 p0.Race.Rules.Laps) Z) (bnK hm57 fun x63 h64 hm65=>oR Z (fun _=>Runs.rem Z Z Z h64) (oR Z (fun _=>Runs.eql Z Z Z) (eN (ifc hm65 ?_ ?_)))))))))))))))))
  ·intro c66 hm67
   refine cT Z c66 (rR (.fl 0 (.fl 1 (.fx 2 (.fx 3 (.fl 4 (.nil)) .stop) .stop))) Z (oM Z f50 (oM Z Z (ZC (pv:=[(0,.int .i64 x55)]) (zs:=[.int .i64 0]) (cs:=[.int .i64 x55]) Z Z Z Z Z (mapcons2 Z mapnil2) zA zJ Zp Z Z Z Z Z hS48 ?_))))
   intro W68 b69 hS70
   let B1:Res:=.row (some ⟨b69,0,none⟩) 1 3 1 (List.flatMap KL.encI [x55])
   have hS72:St ⟨w,[B0],φ⟩ φ46 [B1,B0,.row A28 c29 3 1 (List.flatMap KL.encI l27)] W68:=hS70
   refine bnK hm67 fun x73 h74 hm75=>Zu (j:=2) (enc:=KL.encI) (xs:=l27) (ys:=[x55]) (zs:=x73) rfl rfl rfl rfl rfl Zc info3 rfl rfl rfl rfl rfl rfl hS72 rfl rfl rfl (hS72.srcR (j:=0) rfl (by decide) (flatMap_len (f:=KL.encI) (sz:=1) (fun _=>rfl) [x55])) (fun _=>rfl) (fun _=>rfl) h74 rfl ?_
   intro A76 c77 W78 hS79
   have hS80:St ⟨w,[B0],φ⟩ φ46 [B1,B0,.row A76 c77 3 1 (List.flatMap KL.encI x73)] W78:=hS79
   refine oA Z Z (zp (zh (zH (rR fL2 Z (oR Z (fun _=>zz (zY Z fi45 Z) (congrArg (Value.int .i64) hi54.out)) (oM Z Z (zp ?_)))))))
   cases hm75
   exact zH ⟨rfl,⟨φ46,A76,c77,rfl,f49,rfl,f51,f52,le47,(hS80.pick [1,2] _ (by decide) rfl)⟩⟩
  ·intro c66 hm84
   refine cF Z c66 (ZU (zh (zH (rR fL2 Z (oR Z (fun _=>zz (zY Z fi45 Z) (congrArg (Value.int .i64) hi54.out)) (oM Z Z (zp ?_)))))))
   cases hm84
   exact zH ⟨Z,⟨φ46,A28,c29,Z,f49,f50,f51,f52,le47,hS48⟩⟩
 ·rintro σ88 W89 ⟨φ97,A95,c96,fi91,f100,f101,f102,f103,le98,hS99⟩
  have c104:Hid (¬ ((↑(((↑x2.length:Int):Int) - 0).toNat:Int) < (↑x2.length:Int))):=zG (lp_end0)
  refine sR fL1 Z (oR Z (fun _=>zW Z fi91 f103) (eN (zE (cF Z c104 (ZG (ze (ze (zw (zH (sR fL2 Z (oM Z f101 (oA Z Z (eN (zO ?_))))))))))))))
  have hE:=Option.some.inj hm32;first | subst r | cases hE
  exact ⟨rfl,_,(zq rfl),φ97,_,(hS99.pick [1,0] _ (by decide) rfl),A95,c96,rfl,rfl⟩
theorem w_relay_Times (p0:T_relay_Race) (pA0_0_0:Option Addr) (pc0_0_0:Nat) (pA0_2:Option Addr) (pc0_2:Nat) (w:World) (φ:PHeap) (hS:St0 w φ []) (ha0:Sl φ 1 pA0_0_0 pc0_0_0 p0.Rules.Classes.length (List.flatMap KL.encI p0.Rules.Classes)) (ha1:SlR φ rl44 pA0_2 pc0_2 p0.Teams) {r:(List (List Int)) × Int} (hm:m_relay_Times p0=some r):Gv Tryz.prog 18 [.agg #[.slice pA0_0_0 p0.Rules.Classes.length pc0_0_0,.int .i64 p0.Rules.Each,.int .i64 p0.Rules.Laps,.int .i64 p0.Rules.Spare,.int .i64 p0.Rules.Loop,.int .i64 p0.Rules.Unused,.int .i64 p0.Start,.slice pA0_2 p0.Teams.length pc0_2]] w (RetS w [] φ (fun φ_ L_ v=>∃ (A0:Option Addr) (c0:Nat) (cs0:List Value),v=.tuple #[.slice A0 r.1.length c0,.int .i64 r.2]∧L_=[.row A0 c0 23 1 cs0]∧RlL φ_ rl23 r.1 cs0)):=by
 unfold m_relay_Times at hm
 refine Gv.of Tryz.func18 rfl Tryz.ntmps18 Tryz.results18 rfl (sR (.fx 0 (.fl 1 (.fl 2 (.nil))) .stop) rfl (Zd (cs:=[.slice pA0_0_0 p0.Rules.Classes.length pc0_0_0,.int .i64 p0.Rules.Each,.int .i64 p0.Rules.Laps,.int .i64 p0.Rules.Spare,.int .i64 p0.Rules.Loop,.int .i64 p0.Rules.Unused,.int .i64 p0.Start,.slice pA0_2 p0.Teams.length pc0_2]) rfl rfl rfl rfl rfl rfl (by rfl) hS ?_))
 intro W1 b2 hS3
 refine oA Z Z (oA Z Z (eN (sR (.fl 0 (.fx 1 (fC2_6 (.nil)) .stop)) Z (oL Z (hS3.ldBA (j:=0) Z Z Z ZW zy (vs:=[.slice pA0_0_0 p0.Rules.Classes.length pc0_0_0,.int .i64 p0.Rules.Each,.int .i64 p0.Rules.Laps,.int .i64 p0.Rules.Spare,.int .i64 p0.Rules.Loop,.int .i64 p0.Rules.Unused,.int .i64 p0.Start,.slice pA0_2 p0.Teams.length pc0_2]) Z Z) ?_))))
 have q:=bnd hm
 obtain ⟨⟨x5,x6⟩,h7,hm8⟩:=q
 try dsimp only at hm8
 refine zU 0 Z Z Z Z (zP Z Z Tryz.call107 (zD Z zZ) Z) hS3 (fun hs=>w_relay_begun p0 pA0_0_0 pc0_0_0 pA0_2 pc0_2 W1 φ hs ha0 ha1 h7) (.inr Z) ?_
 rintro φ9 L10 v11 W12 le13 hS14 hP23
 rcases x5 with _ | x24
 ·try dsimp only at hm8
  obtain ⟨rfl,rfl⟩:=hP23
  let B0:Res:=.blk b2 28 [.slice pA0_0_0 p0.Rules.Classes.length pc0_0_0,.int .i64 p0.Rules.Each,.int .i64 p0.Rules.Laps,.int .i64 p0.Rules.Spare,.int .i64 p0.Rules.Loop,.int .i64 p0.Rules.Unused,.int .i64 p0.Start,.slice pA0_2 p0.Teams.length pc0_2]
  have hS25:St ⟨w,[],φ⟩ φ9 [B0] W12:=hS14
  refine oM Z Z (oR Z (fun _=>ZM Z Z (v:=.pointer none) Z) (oR Z (fun _=>ZM Z Z (v:=.int .i64 x6) Z) (oA Z Z (oA Z Z (eN (zE (sR fL2 Z (oM Z Z (oR Z (fun _=>ZI Z Z Z) (eN (ifc hm8 ?_ ?_)))))))))))
  ·intro c26 hm27
   refine zr (zX (fun h=>h c26.out)) (kN (sR fL1 Z (oA Z Z (eN (zE (sR fL4 Z (oR Z (fun _=>zF Z Z zL Z ZH) (oL Z (hS25.ldB (j:=0) Z Z Z ZO (v:=.slice pA0_2 p0.Teams.length pc0_2) Z) (oR Z (fun _=>zV Z Z zm) (oM Z Z (eN (zS ?_))))))))))))
   have q:=bnd hm27
   obtain ⟨⟨⟩,hf31,hm30⟩:=q
   try dsimp only at hm30
   have q:=forR'_le hf31
   obtain ⟨hle32,hf33⟩:=q
   replace hle32:=zG hle32
   refine CK.forN' (fun k29 _ σ_ w_=>∃ (φ_:PHeap),σ_ 19=.int .i64 (↑k29:Int)∧σ_ 4=.pointer none∧σ_ 6=.slice none 0 0∧σ_ 18=.int .i64 (↑p0.Teams.length:Int)∧PHeap.Le φ9 φ_∧St ⟨w,[],φ⟩ φ_ [B0] w_) hf33 ?_ ?_ ?_
   ·exact ⟨φ9,Z,Z,Z,Z,(zf _),hS25⟩
   ·rintro k29 ⟨⟩ xx36 σ34 W35 hk39 ⟨φ41,fi40,f44,f45,f46,le42,hS43⟩ hx37
    try dsimp only at hx37
    have c47:Hid ((↑k29:Int) < (↑p0.Teams.length:Int)):=zG (lp_lt0 hk39)
    replace hk39:=zG hk39
    have hi48:Hid (w64 ((↑k29:Int) + 1)=(↑(k29 + 1):Int)):=zG (by have h1:=hle32.out;have h2:=c47.out;rw [w64_in] <;> omega)
    refine sR fL1 Z (oR Z (fun _=>zW Z fi40 f46) (eN (zE (cT Z c47 (kN (zE (zS (sR fL2 Z (oM Z fi40 (oA Z Z (eN (rR (fC0_2 (.fx 3 (.fx 4 (.fx 5 (.fl 6 (.nil)) .stop) .stop) .stop)) Z (oM Z f45 (oM Z f44 (oM Z Z ?_)))))))))))))))
    cases hx37
   ·rintro σ49 W50 ⟨φ53,fi52,f56,f57,f58,le54,hS55⟩
    have c59:Hid (¬ ((↑(((↑p0.Teams.length:Int):Int) - 0).toNat:Int) < (↑p0.Teams.length:Int))):=zG (lp_end0)
    refine sR fL1 Z (oR Z (fun _=>zW Z fi52 f58) (eN (zE (cF Z c59 (ZG (ze (ze (zw (zH (sR fL3 Z (oM Z f57 (oA Z Z (oA Z Z (eN (zO ?_)))))))))))))))
    have hS60:=hS55.nilrow 23 1
    cases hm30
    exact ⟨rfl,_,(res2 rfl rfl),φ53,_,(hS60.pick [0] _ (by decide) rfl),none,0,[],rfl,rfl,RlL.nil⟩
  ·intro c26 hm62
   refine cT Z c26 (sR fL3 Z (oM Z Z (oA Z Z (oA Z Z (eN (zO (zB ?_)))))))
   have hS63:=hS25.nilrow 23 1
   cases hm62
   exact ⟨rfl,_,(res2 rfl rfl),φ9,_,(hS63.pick [0] _ (by decide) rfl),none,0,[],rfl,rfl,RlL.nil⟩
 ·try dsimp only at hm8
  obtain ⟨b15,A16,c17,A18,c19,A20,c21,c22,rfl,rfl,h67,h68,h69⟩:=hP23
  let B1:Res:=.blk b15 245 [.slice A16 x24.Race.Rules.Classes.length c17,.int .i64 x24.Race.Rules.Each,.int .i64 x24.Race.Rules.Laps,.int .i64 x24.Race.Rules.Spare,.int .i64 x24.Race.Rules.Loop,.int .i64 x24.Race.Rules.Unused,.int .i64 x24.Race.Start,.slice A18 x24.Race.Teams.length c19,.slice A20 x24.after.length c21]
  let B2:Res:=.blk b2 28 [.slice pA0_0_0 p0.Rules.Classes.length pc0_0_0,.int .i64 p0.Rules.Each,.int .i64 p0.Rules.Laps,.int .i64 p0.Rules.Spare,.int .i64 p0.Rules.Loop,.int .i64 p0.Rules.Unused,.int .i64 p0.Start,.slice pA0_2 p0.Teams.length pc0_2]
  have hS70:St ⟨w,[],φ⟩ φ9 [B1,.row A20 c21 23 1 c22,B2] W12:=hS14
  refine oM Z Z (oR Z (fun _=>ZM Z Z (v:=.pointer (some ⟨b15,0,none⟩)) Z) (oR Z (fun _=>ZM Z Z (v:=.int .i64 x6) Z) (oA Z Z (oA Z Z (eN (zE (sR fL2 Z (oM Z Z (oR Z (fun _=>ZI Z Z Z) (eN (ifc hm8 ?_ ?_)))))))))))
  ·intro c71 hm72
   refine zr (zX (fun h=>h c71.out)) (kN (sR fL1 Z (oA Z Z (eN (zE (sR fL4 Z (oR Z (fun _=>zF Z Z zL Z ZH) (oL Z (hS70.ldB (j:=2) Z Z Z ZO (v:=.slice pA0_2 p0.Teams.length pc0_2) Z) (oR Z (fun _=>zV Z Z zm) (oM Z Z (eN (zS ?_))))))))))))
   have q:=hS70.freezeRR (R:=rl23) (k:=1) rfl h69 rfl (by decide)
   obtain ⟨φ74,le75,hs76,hS77⟩:=q
   have hS78:St ⟨w,[],φ⟩ φ74 [B1,B2] W12:=hS77
   refine bnK hm72 fun y105 hf102 hm101=>?_
   have q:=forR'_le hf102
   obtain ⟨hle103,hf104⟩:=q
   replace hle103:=zG hle103
   refine CK.forN' (fun k100 l95 σ_ w_=>∃ (φ_:PHeap) (A96:Option Addr) (c97:Nat) (cs99:List Value),σ_ 19=.int .i64 (↑k100:Int)∧σ_ 4=.pointer (some ⟨b15,0,none⟩)∧σ_ 6=.slice A96 l95.length c97∧σ_ 18=.int .i64 (↑p0.Teams.length:Int)∧PHeap.Le φ74 φ_∧St ⟨w,[],φ⟩ φ_ [B1,B2,.row A96 c97 23 1 cs99] w_∧RlL φ_ rl23 l95 cs99) hf104 ?_ ?_ ?_
   ·have hS106:=hS78.nilrow 23 1
    exact ⟨φ74,none,0,[],rfl,rfl,rfl,rfl,(zf _),(hS106.pick [1,2,0] _ (by decide) rfl),RlL.nil⟩
   ·rintro k100 l95 xx110 σ108 W109 hk113 ⟨φ115,A96,c97,cs99,fi114,f118,f119,f120,le116,hS117,h121⟩ hx111
    have c122:Hid ((↑k100:Int) < (↑p0.Teams.length:Int)):=zG (lp_lt0 hk113)
    replace hk113:=zG hk113
    have hi123:Hid (w64 ((↑k100:Int) + 1)=(↑(k100 + 1):Int)):=zG (by have h1:=hle103.out;have h2:=c122.out;rw [w64_in] <;> omega)
    refine sR fL1 Z (oR Z (fun _=>zW Z fi114 f120) (eN (zE (cT Z c122 (kN (zE (zS (sR fL2 Z (oM Z fi114 (oA Z Z (eN (rR (fC0_2 (.fx 3 (.fx 4 (.fx 5 (.fl 6 (.nil)) .stop) .stop) .stop)) Z (oM Z f119 (oM Z f118 (oM Z Z ?_)))))))))))))))
    have h124:=h67.le le75
    have h125:=h124.le le116
    have h126:=h68.le le75
    have h127:=h126.le le116
    have h128:=hs76.le le116
    refine bnK hx111 fun x129 h130 hm131=>zU 1 Z Z Z Z (zP Z Z Tryz.call109 (zD Z (zD Z zZ)) Z) hS117 (fun hs=>w_relay_desk_times x24 b15 A16 c17 A18 c19 A20 c21 (↑k100:Int) W109 φ115 hs h125 h127 h128 h130) (.inl Z) ?_
    rintro φ132 L133 v134 W135 le136 hS137 ⟨A138,c139,rfl,rfl⟩
    have hS141:St ⟨w,[],φ⟩ φ132 [.row A138 c139 3 1 (List.flatMap KL.encI x129),B1,B2,.row A96 c97 23 1 cs99] W135:=hS137
    have q:=hS141.freezeR (k:=0) (n:=x129.length) rfl (flatMap_len (f:=KL.encI) (sz:=1) (fun _=>rfl) x129) (by decide)
    obtain ⟨φ145,le146,hs147,hS148⟩:=q
    have hS149:St ⟨w,[],φ⟩ φ145 [B1,B2,.row A96 c97 23 1 cs99] W135:=hS148
    refine ZC (pv:=[(0,.slice A138 x129.length c139)]) (zs:=[.slice none 0 0]) (cs:=[.slice A138 x129.length c139]) Z Z Z Z Z (mapcons2 Z mapnil2) zQ zN Tryz.zeroValue23 Z Z Z Z Z hS149 ?_
    intro W142 b143 hS144
    have hr151:RlL φ145 rl23 [x129] [.slice A138 x129.length c139]:=(RlL.cons (R:=rl23) (x:=x129) (vs:=[.slice A138 x129.length c139]) ⟨A138,c139,rfl,hs147⟩ RlL.nil)
    let B3:Res:=.row (some ⟨b143,0,none⟩) 1 23 1 [.slice A138 x129.length c139]
    have hS152:St ⟨w,[],φ⟩ φ145 [B3,B1,B2,.row A96 c97 23 1 cs99] W142:=hS144
    refine bnK hm131 fun x153 h154 hm155=>?_
    have h162:=h121.le le136
    have h163:=h162.le le146
    refine Zt (R:=rl23) (j:=3) (xs:=l95) (ys:=[x129]) (zs:=x153) rfl rfl rfl rfl rfl Tryz.underlying32 info23 rfl rfl rfl rfl rfl rfl rfl hS152 rfl rfl rfl h163 hr151 (hS152.srcR (j:=0) rfl (by decide) (RlL.len hr151)) h154 rfl ?_
    intro A156 c157 cs158 W159 hS160 hr161
    have hS164:St ⟨w,[],φ⟩ φ145 [B3,B1,B2,.row A156 c157 23 1 cs158] W159:=hS160
    refine oA Z Z (zp (zh (zH (rR fL2 Z (oR Z (fun _=>zz (zY Z fi114 Z) (congrArg (Value.int .i64) hi123.out)) (oM Z Z (zp ?_)))))))
    cases hm155
    exact zH ⟨rfl,⟨φ145,A156,c157,cs158,rfl,f118,rfl,f120,((le116.trans le136).trans le146),(hS164.pick [1,2,3] _ (by decide) rfl),hr161⟩⟩
   ·rintro σ169 W170 ⟨φ180,A177,c178,c179,fi172,f183,f184,f185,le181,hS182,h186⟩
    have c187:Hid (¬ ((↑(((↑p0.Teams.length:Int):Int) - 0).toNat:Int) < (↑p0.Teams.length:Int))):=zG (lp_end0)
    refine sR fL1 Z (oR Z (fun _=>zW Z fi172 f185) (eN (zE (cF Z c187 (ZG (ze (ze (zw (zH (sR fL3 Z (oM Z f184 (oA Z Z (oA Z Z (eN (zO ?_)))))))))))))))
    cases hm101
    exact ⟨rfl,_,(res2 rfl rfl),φ180,_,(hS182.pick [2] _ (by decide) rfl),A177,c178,c179,rfl,rfl,h186⟩
  ·intro c71 hm188
   refine cT Z c71 (sR fL3 Z (oM Z Z (oA Z Z (oA Z Z (eN (zO (zB ?_)))))))
   have hS189:=hS70.nilrow 23 1
   cases hm188
   exact ⟨rfl,_,(res2 rfl rfl),φ9,_,(hS189.pick [0] _ (by decide) rfl),none,0,[],rfl,rfl,RlL.nil⟩
theorem w_relay_Legs (p0:T_relay_Race) (pA0_0_0:Option Addr) (pc0_0_0:Nat) (pA0_2:Option Addr) (pc0_2:Nat) (w:World) (φ:PHeap) (hS:St0 w φ []) (ha0:Sl φ 1 pA0_0_0 pc0_0_0 p0.Rules.Classes.length (List.flatMap KL.encI p0.Rules.Classes)) (ha1:SlR φ rl44 pA0_2 pc0_2 p0.Teams) {r:(List (List Int)) × Int} (hm:m_relay_Legs p0=some r):Gv Tryz.prog 19 [.agg #[.slice pA0_0_0 p0.Rules.Classes.length pc0_0_0,.int .i64 p0.Rules.Each,.int .i64 p0.Rules.Laps,.int .i64 p0.Rules.Spare,.int .i64 p0.Rules.Loop,.int .i64 p0.Rules.Unused,.int .i64 p0.Start,.slice pA0_2 p0.Teams.length pc0_2]] w (RetS w [] φ (fun φ_ L_ v=>∃ (A0:Option Addr) (c0:Nat) (cs0:List Value),v=.tuple #[.slice A0 r.1.length c0,.int .i64 r.2]∧L_=[.row A0 c0 23 1 cs0]∧RlL φ_ rl23 r.1 cs0)):=by
 unfold m_relay_Legs at hm
 refine Gv.of Tryz.func19 rfl Tryz.ntmps19 Tryz.results19 rfl (sR (.fx 0 (.fl 1 (.fl 2 (.nil))) .stop) rfl (Zd (cs:=[.slice pA0_0_0 p0.Rules.Classes.length pc0_0_0,.int .i64 p0.Rules.Each,.int .i64 p0.Rules.Laps,.int .i64 p0.Rules.Spare,.int .i64 p0.Rules.Loop,.int .i64 p0.Rules.Unused,.int .i64 p0.Start,.slice pA0_2 p0.Teams.length pc0_2]) rfl rfl rfl rfl rfl rfl (by rfl) hS ?_))
 intro W1 b2 hS3
 refine oA Z Z (oA Z Z (eN (sR (.fl 0 (.fx 1 (fC2_6 (.nil)) .stop)) Z (oL Z (hS3.ldBA (j:=0) Z Z Z ZW zy (vs:=[.slice pA0_0_0 p0.Rules.Classes.length pc0_0_0,.int .i64 p0.Rules.Each,.int .i64 p0.Rules.Laps,.int .i64 p0.Rules.Spare,.int .i64 p0.Rules.Loop,.int .i64 p0.Rules.Unused,.int .i64 p0.Start,.slice pA0_2 p0.Teams.length pc0_2]) Z Z) ?_))))
 have q:=bnd hm
 obtain ⟨⟨x5,x6⟩,h7,hm8⟩:=q
 try dsimp only at hm8
 refine zU 0 Z Z Z Z (zP Z Z Tryz.call107 (zD Z zZ) Z) hS3 (fun hs=>w_relay_begun p0 pA0_0_0 pc0_0_0 pA0_2 pc0_2 W1 φ hs ha0 ha1 h7) (.inr Z) ?_
 rintro φ9 L10 v11 W12 le13 hS14 hP23
 rcases x5 with _ | x24
 ·try dsimp only at hm8
  obtain ⟨rfl,rfl⟩:=hP23
  let B0:Res:=.blk b2 28 [.slice pA0_0_0 p0.Rules.Classes.length pc0_0_0,.int .i64 p0.Rules.Each,.int .i64 p0.Rules.Laps,.int .i64 p0.Rules.Spare,.int .i64 p0.Rules.Loop,.int .i64 p0.Rules.Unused,.int .i64 p0.Start,.slice pA0_2 p0.Teams.length pc0_2]
  have hS25:St ⟨w,[],φ⟩ φ9 [B0] W12:=hS14
  refine oM Z Z (oR Z (fun _=>ZM Z Z (v:=.pointer none) Z) (oR Z (fun _=>ZM Z Z (v:=.int .i64 x6) Z) (oA Z Z (oA Z Z (eN (zE (sR fL2 Z (oM Z Z (oR Z (fun _=>ZI Z Z Z) (eN (ifc hm8 ?_ ?_)))))))))))
  ·intro c26 hm27
   refine zr (zX (fun h=>h c26.out)) (kN (sR fL1 Z (oA Z Z (eN (zE (sR fL4 Z (oR Z (fun _=>zF Z Z zL Z ZH) (oL Z (hS25.ldB (j:=0) Z Z Z ZO (v:=.slice pA0_2 p0.Teams.length pc0_2) Z) (oR Z (fun _=>zV Z Z zm) (oM Z Z (eN (zS ?_))))))))))))
   have q:=bnd hm27
   obtain ⟨⟨⟩,hf31,hm30⟩:=q
   try dsimp only at hm30
   have q:=forR'_le hf31
   obtain ⟨hle32,hf33⟩:=q
   replace hle32:=zG hle32
   refine CK.forN' (fun k29 _ σ_ w_=>∃ (φ_:PHeap),σ_ 23=.int .i64 (↑k29:Int)∧σ_ 1=.pointer (some ⟨b2,0,none⟩)∧σ_ 4=.pointer none∧σ_ 6=.slice none 0 0∧σ_ 22=.int .i64 (↑p0.Teams.length:Int)∧PHeap.Le φ9 φ_∧St ⟨w,[],φ⟩ φ_ [B0] w_) hf33 ?_ ?_ ?_
   ·exact ⟨φ9,Z,Z,Z,Z,Z,(zf _),hS25⟩
   ·rintro k29 ⟨⟩ xx36 σ34 W35 hk39 ⟨φ41,fi40,f44,f45,f46,f47,le42,hS43⟩ hx37
    try dsimp only at hx37
    have c48:Hid ((↑k29:Int) < (↑p0.Teams.length:Int)):=zG (lp_lt0 hk39)
    replace hk39:=zG hk39
    have hi49:Hid (w64 ((↑k29:Int) + 1)=(↑(k29 + 1):Int)):=zG (by have h1:=hle32.out;have h2:=c48.out;rw [w64_in] <;> omega)
    refine sR fL1 Z (oR Z (fun _=>zW Z fi40 f47) (eN (zE (cT Z c48 (kN (zE (zS (sR fL2 Z (oM Z fi40 (oA Z Z (eN (sR fL3 Z (oR Z (fun _=>zF Z f44 zL Z zJ) (oL Z (hS43.ldB (j:=0) Z Z Z zR (v:=.int .i64 p0.Start) Z) (oA Z Z (eN (sR fL1 Z (oA Z Z (eN (zE (sR (.fl 0 (.fl 1 (.fx 2 (.fl 3 (.fl 4 (.nil))) .stop))) Z (oM Z f45 (oM Z Z ?_)))))))))))))))))))))))
    cases hx37
   ·rintro σ50 W51 ⟨φ54,fi53,f57,f58,f59,f60,le55,hS56⟩
    have c61:Hid (¬ ((↑(((↑p0.Teams.length:Int):Int) - 0).toNat:Int) < (↑p0.Teams.length:Int))):=zG (lp_end0)
    refine sR fL1 Z (oR Z (fun _=>zW Z fi53 f60) (eN (zE (cF Z c61 (ZG (ze (ze (zw (zH (sR fL3 Z (oM Z f59 (oA Z Z (oA Z Z (eN (zO ?_)))))))))))))))
    have hS62:=hS56.nilrow 23 1
    cases hm30
    exact ⟨rfl,_,(res2 rfl rfl),φ54,_,(hS62.pick [0] _ (by decide) rfl),none,0,[],rfl,rfl,RlL.nil⟩
  ·intro c26 hm64
   refine cT Z c26 (sR fL3 Z (oM Z Z (oA Z Z (oA Z Z (eN (zO (zB ?_)))))))
   have hS65:=hS25.nilrow 23 1
   cases hm64
   exact ⟨rfl,_,(res2 rfl rfl),φ9,_,(hS65.pick [0] _ (by decide) rfl),none,0,[],rfl,rfl,RlL.nil⟩
 ·try dsimp only at hm8
  obtain ⟨b15,A16,c17,A18,c19,A20,c21,c22,rfl,rfl,h69,h70,h71⟩:=hP23
  let B1:Res:=.blk b15 245 [.slice A16 x24.Race.Rules.Classes.length c17,.int .i64 x24.Race.Rules.Each,.int .i64 x24.Race.Rules.Laps,.int .i64 x24.Race.Rules.Spare,.int .i64 x24.Race.Rules.Loop,.int .i64 x24.Race.Rules.Unused,.int .i64 x24.Race.Start,.slice A18 x24.Race.Teams.length c19,.slice A20 x24.after.length c21]
  let B2:Res:=.blk b2 28 [.slice pA0_0_0 p0.Rules.Classes.length pc0_0_0,.int .i64 p0.Rules.Each,.int .i64 p0.Rules.Laps,.int .i64 p0.Rules.Spare,.int .i64 p0.Rules.Loop,.int .i64 p0.Rules.Unused,.int .i64 p0.Start,.slice pA0_2 p0.Teams.length pc0_2]
  have hS72:St ⟨w,[],φ⟩ φ9 [B1,.row A20 c21 23 1 c22,B2] W12:=hS14
  refine oM Z Z (oR Z (fun _=>ZM Z Z (v:=.pointer (some ⟨b15,0,none⟩)) Z) (oR Z (fun _=>ZM Z Z (v:=.int .i64 x6) Z) (oA Z Z (oA Z Z (eN (zE (sR fL2 Z (oM Z Z (oR Z (fun _=>ZI Z Z Z) (eN (ifc hm8 ?_ ?_)))))))))))
  ·intro c73 hm74
   refine zr (zX (fun h=>h c73.out)) (kN (sR fL1 Z (oA Z Z (eN (zE (sR fL4 Z (oR Z (fun _=>zF Z Z zL Z ZH) (oL Z (hS72.ldB (j:=2) Z Z Z ZO (v:=.slice pA0_2 p0.Teams.length pc0_2) Z) (oR Z (fun _=>zV Z Z zm) (oM Z Z (eN (zS ?_))))))))))))
   have q:=hS72.freezeRR (R:=rl23) (k:=1) rfl h71 rfl (by decide)
   obtain ⟨φ76,le77,hs78,hS79⟩:=q
   have hS80:St ⟨w,[],φ⟩ φ76 [B1,B2] W12:=hS79
   refine bnK hm74 fun y107 hf104 hm103=>?_
   have q:=forR'_le hf104
   obtain ⟨hle105,hf106⟩:=q
   replace hle105:=zG hle105
   refine CK.forN' (fun k102 l97 σ_ w_=>∃ (φ_:PHeap) (A98:Option Addr) (c99:Nat) (cs101:List Value),σ_ 23=.int .i64 (↑k102:Int)∧σ_ 1=.pointer (some ⟨b2,0,none⟩)∧σ_ 4=.pointer (some ⟨b15,0,none⟩)∧σ_ 6=.slice A98 l97.length c99∧σ_ 22=.int .i64 (↑p0.Teams.length:Int)∧PHeap.Le φ76 φ_∧St ⟨w,[],φ⟩ φ_ [B1,B2,.row A98 c99 23 1 cs101] w_∧RlL φ_ rl23 l97 cs101) hf106 ?_ ?_ ?_
   ·have hS108:=hS80.nilrow 23 1
    exact ⟨φ76,none,0,[],rfl,rfl,rfl,rfl,rfl,(zf _),(hS108.pick [1,2,0] _ (by decide) rfl),RlL.nil⟩
   ·rintro k102 l97 xx112 σ110 W111 hk115 ⟨φ117,A98,c99,cs101,fi116,f120,f121,f122,f123,le118,hS119,h124⟩ hx113
    have c125:Hid ((↑k102:Int) < (↑p0.Teams.length:Int)):=zG (lp_lt0 hk115)
    replace hk115:=zG hk115
    have hi126:Hid (w64 ((↑k102:Int) + 1)=(↑(k102 + 1):Int)):=zG (by have h1:=hle105.out;have h2:=c125.out;rw [w64_in] <;> omega)
    refine sR fL1 Z (oR Z (fun _=>zW Z fi116 f123) (eN (zE (cT Z c125 (kN (zE (zS (sR fL2 Z (oM Z fi116 (oA Z Z (eN (sR fL3 Z (oR Z (fun _=>zF Z f120 zL Z zJ) (oL Z (hS119.ldB (j:=1) Z Z Z zR (v:=.int .i64 p0.Start) Z) (oA Z Z (eN (sR fL1 Z (oA Z Z (eN (zE (sR (.fl 0 (.fl 1 (.fx 2 (.fl 3 (.fl 4 (.nil))) .stop))) Z (oM Z f121 (oM Z Z ?_)))))))))))))))))))))))
    have h127:=h69.le le77
    have h128:=h127.le le118
    have h129:=h70.le le77
    have h130:=h129.le le118
    have h131:=hs78.le le118
    refine bnK hx113 fun x132 h133 hm134=>zU 1 Z Z Z Z (zP Z Z Tryz.call109 (zD Z (zD Z zZ)) Z) hS119 (fun hs=>w_relay_desk_times x24 b15 A16 c17 A18 c19 A20 c21 (↑k102:Int) W111 φ117 hs h128 h130 h131 h133) (.inl Z) ?_
    rintro φ135 L136 v137 W138 le139 hS140 ⟨A141,c142,rfl,rfl⟩
    let B3:Res:=.row A141 c142 3 1 (List.flatMap KL.encI x132)
    let B4:Res:=.row A98 c99 23 1 cs101
    have hS144:St ⟨w,[],φ⟩ φ135 [B3,B1,B2,B4] W138:=hS140
    refine oR Z (fun _=>zV Z Z zA) (oM Z Z (eN (zS ?_)))
    have q:=bnd hm134
    obtain ⟨⟨y171,y172⟩,hf168,hm167⟩:=q
    try dsimp only at hm167
    have q:=forR'_le hf168
    obtain ⟨hle169,hf170⟩:=q
    replace hle169:=zG hle169
    refine CK.forN' (fun k166 (x161,l162) σ_ w_=>∃ (φ_:PHeap) (A163:Option Addr) (c164:Nat),σ_ 32=.int .i64 (↑k166:Int)∧σ_ 1=.pointer (some ⟨b2,0,none⟩)∧σ_ 4=.pointer (some ⟨b15,0,none⟩)∧σ_ 6=.slice A98 l97.length c99∧σ_ 8=.int .i64 x161∧σ_ 9=.slice A163 l162.length c164∧σ_ 22=.int .i64 (↑p0.Teams.length:Int)∧σ_ 23=.int .i64 (↑k102:Int)∧σ_ 30=.slice A141 x132.length c142∧σ_ 31=.int .i64 (↑x132.length:Int)∧PHeap.Le φ135 φ_∧St ⟨w,[],φ⟩ φ_ [B1,B2,B4,.row A163 c164 3 1 (List.flatMap KL.encI l162),B3] w_) hf170 ?_ ?_ ?_
    ·have hS173:=hS144.nilrow 3 1
     exact ⟨φ135,none,0,rfl,f120,f121,f122,rfl,rfl,f123,fi116,rfl,rfl,(zf _),(hS173.pick [2,3,4,0,1] _ (by decide) rfl)⟩
    ·rintro k166 ⟨x161,l162⟩ xx177 σ175 W176 hk180 ⟨φ182,A163,c164,fi181,f185,f186,f187,f188,f189,f190,f191,f192,f193,le183,hS184⟩ hx178
     try dsimp only at hx178
     have c194:Hid ((↑k166:Int) < (↑x132.length:Int)):=zG (lp_lt0 hk180)
     replace hk180:=zG hk180
     have hi195:Hid (w64 ((↑k166:Int) + 1)=(↑(k166 + 1):Int)):=zG (by have h1:=hle169.out;have h2:=c194.out;rw [w64_in] <;> omega)
     refine sR fL1 Z (oR Z (fun _=>zW Z fi181 f193) (eN (zE (cT Z c194 (kN (zE (zS (sR fL3 Z (bnK hx178 fun _ h196 hm197=>?_)))))))))
     obtain ⟨b198,hA199⟩:=hS184.rowSome (j:=4) rfl (by rw [flatMap_len (f:=KL.encI) (sz:=1) (fun _=>rfl) x132];have hz:=chk_lt h196;omega)
     refine oR Z (fun _=>zu Z f192 hA199 fi181 zA zJ (chk_lt h196)) ?_
     have hg200:=gd_at (xs:=x132) (chk_lt h196)
     refine ZD rfl rfl rfl rfl (hS184.ldR (j:=4) rfl hA199 rfl rfl zR (flatMap_cell (sz:=1) (fun _=>rfl) _ _ 0 _ hg200 (by first | omega | rfl | simp) rfl)) rfl (OKS.ra rfl rfl rfl rfl rfl rfl (eN (sR (fC0_3 (.fx 4 (.fx 5 (.fl 6 (.nil)) .stop) .stop)) rfl (zj rfl rfl rfl rfl rfl f189 (zj rfl rfl rfl rfl rfl rfl (zj rfl rfl rfl rfl rfl f188 (zi rfl rfl rfl rfl (fun _=>Za rfl rfl rfl) (ZC (pv:=[(0,.int .i64 (w64 ((gd x132 k166) - x161)))]) (zs:=[.int .i64 0]) (cs:=[.int .i64 (w64 ((gd x132 k166) - x161))]) rfl rfl rfl rfl rfl (mapcons2 rfl mapnil2) zA zJ Zp rfl rfl rfl rfl rfl hS184 ?_))))))))
     intro W201 b202 hS203
     let B5:Res:=.row (some ⟨b202,0,none⟩) 1 3 1 (List.flatMap KL.encI [w64 ((gd x132 k166) - x161)])
     have hS205:St ⟨w,[],φ⟩ φ182 [B5,B1,B2,B4,.row A163 c164 3 1 (List.flatMap KL.encI l162),B3] W201:=hS203
     refine bnK hm197 fun x206 h207 hm208=>Zu (j:=4) (enc:=KL.encI) (xs:=l162) (ys:=[w64 ((gd x132 k166) - x161)]) (zs:=x206) rfl rfl rfl rfl rfl Zc info3 rfl rfl rfl rfl rfl rfl hS205 rfl rfl rfl (hS205.srcR (j:=0) rfl (by decide) (flatMap_len (f:=KL.encI) (sz:=1) (fun _=>rfl) [w64 ((gd x132 k166) - x161)])) (fun _=>rfl) (fun _=>rfl) h207 rfl ?_
     intro A209 c210 W211 hS212
     have hS213:St ⟨w,[],φ⟩ φ182 [B5,B1,B2,B4,.row A209 c210 3 1 (List.flatMap KL.encI x206),B3] W211:=hS212
     refine oA Z Z (eN (rR fL2 Z (oM Z Z (oA Z Z (zp (zh (zH (rR fL2 Z (oR Z (fun _=>zz (zY Z fi181 Z) (congrArg (Value.int .i64) hi195.out)) (oM Z Z (zp ?_)))))))))))
     cases hm208
     exact zH ⟨rfl,⟨φ182,A209,c210,rfl,f185,f186,f187,rfl,rfl,f190,f191,f192,f193,le183,(hS213.pick [1,2,3,4,5] _ (by decide) rfl)⟩⟩
    ·rintro σ218 W219 ⟨φ228,A226,c227,fi221,f231,f232,f233,f234,f235,f236,f237,f238,f239,le229,hS230⟩
     have c240:Hid (¬ ((↑(((↑x132.length:Int):Int) - 0).toNat:Int) < (↑x132.length:Int))):=zG (lp_end0)
     refine sR fL1 Z (oR Z (fun _=>zW Z fi221 f239) (eN (zE (cF Z c240 (ZG (ze (ze (zw (zH (rR (.fl 0 (.fl 1 (.fx 2 (.fx 3 (.fl 4 (.nil)) .stop) .stop))) Z (oM Z f233 (oM Z f235 ?_))))))))))))
     have q:=hS230.freezeR (k:=3) (n:=y172.length) rfl (flatMap_len (f:=KL.encI) (sz:=1) (fun _=>rfl) y172) (by decide)
     obtain ⟨φ244,le245,hs246,hS247⟩:=q
     have hS248:St ⟨w,[],φ⟩ φ244 [B1,B2,B4,B3] W219:=hS247
     refine ZC (pv:=[(0,.slice A226 y172.length c227)]) (zs:=[.slice none 0 0]) (cs:=[.slice A226 y172.length c227]) Z Z Z Z Z (mapcons2 Z mapnil2) zQ zN Tryz.zeroValue23 Z Z Z Z Z hS248 ?_
     intro W241 b242 hS243
     have hr250:RlL φ244 rl23 [y172] [.slice A226 y172.length c227]:=(RlL.cons (R:=rl23) (x:=y172) (vs:=[.slice A226 y172.length c227]) ⟨A226,c227,rfl,hs246⟩ RlL.nil)
     let B6:Res:=.row (some ⟨b242,0,none⟩) 1 23 1 [.slice A226 y172.length c227]
     have hS251:St ⟨w,[],φ⟩ φ244 [B6,B1,B2,B4,B3] W241:=hS243
     refine bnK hm167 fun x252 h253 hm254=>?_
     have h261:=h124.le le139
     have h262:=h261.le le229
     have h263:=h262.le le245
     refine Zt (R:=rl23) (j:=3) (xs:=l97) (ys:=[y172]) (zs:=x252) rfl rfl rfl rfl rfl Tryz.underlying32 info23 rfl rfl rfl rfl rfl rfl rfl hS251 rfl rfl rfl h263 hr250 (hS251.srcR (j:=0) rfl (by decide) (RlL.len hr250)) h253 rfl ?_
     intro A255 c256 cs257 W258 hS259 hr260
     have hS264:St ⟨w,[],φ⟩ φ244 [B6,B1,B2,.row A255 c256 23 1 cs257,B3] W258:=hS259
     refine oA Z Z (zp (zh (zH (rR fL2 Z (oR Z (fun _=>zz (zY Z f237 Z) (congrArg (Value.int .i64) hi126.out)) (oM Z Z (zp ?_)))))))
     cases hm254
     exact zH ⟨rfl,⟨φ244,A255,c256,cs257,rfl,f231,f232,rfl,f236,(((le118.trans le139).trans le229).trans le245),(hS264.pick [1,2,3] _ (by decide) rfl),hr260⟩⟩
   ·rintro σ269 W270 ⟨φ280,A277,c278,c279,fi272,f283,f284,f285,f286,le281,hS282,h287⟩
    have c288:Hid (¬ ((↑(((↑p0.Teams.length:Int):Int) - 0).toNat:Int) < (↑p0.Teams.length:Int))):=zG (lp_end0)
    refine sR fL1 Z (oR Z (fun _=>zW Z fi272 f286) (eN (zE (cF Z c288 (ZG (ze (ze (zw (zH (sR fL3 Z (oM Z f285 (oA Z Z (oA Z Z (eN (zO ?_)))))))))))))))
    cases hm103
    exact ⟨rfl,_,(res2 rfl rfl),φ280,_,(hS282.pick [2] _ (by decide) rfl),A277,c278,c279,rfl,rfl,h287⟩
  ·intro c73 hm289
   refine cT Z c73 (sR fL3 Z (oM Z Z (oA Z Z (oA Z Z (eN (zO (zB ?_)))))))
   have hS290:=hS72.nilrow 23 1
   cases hm289
   exact ⟨rfl,_,(res2 rfl rfl),φ9,_,(hS290.pick [0] _ (by decide) rfl),none,0,[],rfl,rfl,RlL.nil⟩
end Go.Proofs.YtjfffcjjlnmneaaGreat
namespace Go.Proofs.YtjfffcjjlnmneaaGreat
open Go.KL
set_option maxHeartbeats 4000000
theorem w_start_in (p0:Int) (p1:Int) (p2:Int) (w:World) (φ:PHeap) (hS:St0 w φ [])  {r:Bool} (hm:m_start_in p0 p1 p2=some r):Gv Tryz.prog 119 [.int .i64 p0,.int .i64 p1,.int .i64 p2] w (RetS w [] φ (fun φ_ L_ v=>v=.bool r∧L_=[])):=by
 unfold m_start_in at hm
 refine Gv.of Tryz.func119 Z Tryz.ntmps119 Tryz.results119 Z (sR fL1 Z (oA Z Z (eN (sR fL9 Z (oM Z Z (oM Z Z (oR Z (fun _=>Runs.geq Z Z Z) (oM Z Z ?_))))))))
 by_cases c1:p1 ≤ p0
 ·have hm2:=hm;rw [if_pos c1] at hm2;replace c1:=zG c1
  refine zj Z Z Z (wT Z c1) Z Z (zj Z Z Z (wT Z c1) Z Z (rU Z (wT Z c1) (fun _=>Runs.leq Z Z Z) (oR Z (fun _=>zM Z (Zb c1.out) Z) (oA Z Z (eN (zO ?_))))))
  cases hm2
  exact ⟨Z,_,(zq Z),φ,_,hS,Z,Z⟩
 ·have hm3:=hm;rw [if_neg c1] at hm3;replace c1:=zG c1
  refine oF Z c1 (oF Z c1 (oF Z c1 (oR Z (fun _=>zl Z (zX c1.out) Z) (oA Z Z (eN (zO ?_))))))
  have hE:=Option.some.inj hm3;first | subst r | cases hE
  exact ⟨Z,_,(zq Z),φ,_,hS,Z,Z⟩
theorem w_start_CheckRace_1 (p0:List Int) (pA0:Option Addr) (pc0:Nat) (p1:T_start_Race) (pb1:Nat) (pA1_1:Option Addr) (pc1_1:Nat) (pA1_2:Option Addr) (pc1_2:Nat) (w:World) (φ:PHeap) (hS:St0 w φ []) (ha0:Sl φ 1 pA0 pc0 p0.length (List.flatMap KL.encI p0)) (ha1:Cl φ pb1 0 [.int .i64 p1.Laps,.slice pA1_1 p1.Bibs.length pc1_1,.slice pA1_2 p1.Times.length pc1_2]) (ha2:Sl φ 1 pA1_1 pc1_1 p1.Bibs.length (List.flatMap KL.encI p1.Bibs)) (ha3:SlR φ rl23 pA1_2 pc1_2 p1.Times) {r:Bool} (hm:m_start_CheckRace_1 p0 p1=some r):Gv Tryz.prog 121 [.slice pA0 p0.length pc0,.pointer (some ⟨pb1,0,none⟩)] w (RetS w [] φ (fun φ_ L_ v=>v=.bool r∧L_=[])):=by
 unfold m_start_CheckRace_1 at hm
 refine Gv.of Tryz.func121 Z Tryz.ntmps121 Tryz.results121 Z (sR fL1 Z (oA Z Z (eN (sR fL6 Z (oM Z Z (oR Z (fun _=>zV Z Z zA) (oR Z (fun _=>zF Z Z zt Z zJ) (oL Z (hS.ldC (f:=0) ha1 (v:=.int .i64 p1.Laps) Z Z zR Z) (oR Z (fun _=>Runs.leq Z Z Z) (oA Z Z (eN (zO ?_))))))))))))
 cases hm
 exact ⟨Z,_,(zq Z),φ,_,hS,Z,Z⟩
theorem w_start_all_int (p0:List (List Int)) (pA0:Option Addr) (pc0:Nat) (p1:((List Int)→Option Bool)) (pv1:Value) (w:World) (φ:PHeap) (hS:St0 w φ []) (ha0:SlR φ rl23 pA0 pc0 p0) (ha1:FnOK Tryz.prog φ pv1 ar202 rr202 p1) {r:Bool} (hm:m_start_all_int p0 p1=some r):Gv Tryz.prog 120 [.slice pA0 p0.length pc0,pv1] w (RetS w [] φ (fun φ_ L_ v=>v=.bool r∧L_=[])):=by
 unfold m_start_all_int at hm
 refine Gv.of Tryz.func120 Z Tryz.ntmps120 Tryz.results120 Z (sR fL1 Z (oA Z Z (eN (zE (sR fL3 Z (oM Z Z (oR Z (fun _=>zV Z Z zQ) (oM Z Z (eN (zS ?_))))))))))
 have q:=jn_some hm
 obtain ⟨r3,hX4⟩:=q
 have q:=forR_le hX4
 obtain ⟨hle5,hf6⟩:=q
 replace hle5:=zG hle5
 refine Zx (fun k2 _ σ_ w_=>∃ (φ_:PHeap),σ_ 9=.int .i64 (↑k2:Int)∧σ_ 1=pv1∧σ_ 7=.slice pA0 p0.length pc0∧σ_ 8=.int .i64 (↑p0.length:Int)∧PHeap.Le φ φ_∧St ⟨w,[],φ⟩ φ_ [] w_) hf6 ?_ ?_ ?_
 ·exact ⟨φ,Z,Z,Z,Z,(zf _),hS⟩
 ·rintro k2 ⟨⟩ xx9 σ7 W8 hk12 ⟨φ14,fi13,f17,f18,f19,le15,hS16⟩ hx10 hb11
  try dsimp only at hx10
  have c20:Hid ((↑k2:Int) < (↑p0.length:Int)):=zG (lp_lt0 hk12)
  replace hk12:=zG hk12
  have hi21:Hid (w64 ((↑k2:Int) + 1)=(↑(k2 + 1):Int)):=zG (by have h1:=hle5.out;have h2:=c20.out;rw [w64_in] <;> omega)
  refine sR fL1 Z (oR Z (fun _=>zW Z fi13 f19) (eN (zE (cT Z c20 (kN (zE (zS (sR fL3 Z (bnK hx10 fun x22 h23 hm24=>?_)))))))))
  have h25:=ha0.le le15
  have q:=h25.el (idx_get h23)
  obtain ⟨b26,off27,vs30,hA28,hC29,hr31⟩:=q
  obtain ⟨pA32,pc33,rfl,h34⟩:=hr31
  replace hC29:Cl φ14 b26 (off27 + k2 * 1) [.slice pA32 x22.length pc33]:=hC29
  refine oR Z (fun _=>zu Z f18 hA28 fi13 zQ zN (idx_lt h23)) (oL Z (hS16.ldC (f:=0) hC29 (v:=.slice pA32 x22.length pc33) Z Z zd Z) (oA Z Z (eN (sR (.fl 0 (.fl 1 (.fx 2 (.fl 3 (.nil)) .stop))) Z (oM Z f17 (oM Z Z (bnK hm24 fun x35 h36 hm37=>?_)))))))
  have h44:=ha1.le le15
  refine OKS.callV (a:=x22) Z Z Z Z Z Z (zD Z zZ) hS16 h44 ⟨pA32,pc33,Z,h34⟩ h36 ?_
  rintro φ38 L39 v40 W41 le42 hS43 ⟨rfl,rfl⟩
  have hS45:St ⟨w,[],φ⟩ φ38 [] W41:=hS43
  refine oR Z (fun _=>ZL Z Z) (eN (ifc hm37 ?_ ?_))
  ·intro c46 hm47
   refine zr (congrArg (fun b=>Value.bool (!b)) c46.out) (ZU (zh (zH (rR fL2 Z (oR Z (fun _=>zz (zY Z fi13 Z) (congrArg (Value.int .i64) hi21.out)) (oM Z Z (zp ?_)))))))
   obtain rfl:=Option.some.inj hm47
   exact zH ⟨Z,_,Z,⟨φ38,Z,f17,f18,f19,(le15.trans le42),hS45⟩⟩
  ·intro c46 hm48
   refine zn (congrArg (fun b=>Value.bool (!b)) (Bool.eq_false_iff.2 c46.out)) (sR fL1 Z (oA Z Z (eN (zO (zI (zB ?_))))))
   have q:=esc_spec hm48
   obtain ⟨v49,hm50,e51⟩:=q
   obtain rfl:=jn_inr hm hX4 (hb11 v49 e51)
   refine zB (zI (zB ?_))
   have hE:=Option.some.inj hm50;first | subst r | cases hE
   exact ⟨Z,_,(zq Z),φ38,_,hS45,Z,Z⟩
 ·rintro ⟨⟩ σ52 W53 ⟨φ56,fi55,f59,f60,f61,le57,hS58⟩ hb54
  have hm62:=jn_inl hm hX4 hb54
  try dsimp only at hm62
  have c63:Hid (¬ ((↑(((↑p0.length:Int):Int) - 0).toNat:Int) < (↑p0.length:Int))):=zG (lp_end0)
  refine sR fL1 Z (oR Z (fun _=>zW Z fi55 f61) (eN (zE (cF Z c63 (ZG (ze (ze (zw (zH (sR fL1 Z (oA Z Z (eN (zO ?_)))))))))))))
  have hE:=Option.some.inj hm62;first | subst r | cases hE
  exact ⟨Z,_,(zq Z),φ56,_,hS58,Z,Z⟩
theorem w_start_all_int_122 (p0:List Int) (pA0:Option Addr) (pc0:Nat) (p1:(Int→Option Bool)) (pv1:Value) (w:World) (φ:PHeap) (hS:St0 w φ []) (ha0:Sl φ 1 pA0 pc0 p0.length (List.flatMap KL.encI p0)) (ha1:FnOK Tryz.prog φ pv1 ar190 rr190 p1) {r:Bool} (hm:m_start_all_int_122 p0 p1=some r):Gv Tryz.prog 122 [.slice pA0 p0.length pc0,pv1] w (RetS w [] φ (fun φ_ L_ v=>v=.bool r∧L_=[])):=by
 unfold m_start_all_int_122 at hm
 refine Gv.of Tryz.func122 Z Tryz.ntmps122 Tryz.results122 Z (sR fL1 Z (oA Z Z (eN (zE (sR fL3 Z (oM Z Z (oR Z (fun _=>zV Z Z zA) (oM Z Z (eN (zS ?_))))))))))
 have q:=jn_some hm
 obtain ⟨r3,hX4⟩:=q
 have q:=forR_le hX4
 obtain ⟨hle5,hf6⟩:=q
 replace hle5:=zG hle5
 refine Zx (fun k2 _ σ_ w_=>∃ (φ_:PHeap),σ_ 9=.int .i64 (↑k2:Int)∧σ_ 1=pv1∧σ_ 7=.slice pA0 p0.length pc0∧σ_ 8=.int .i64 (↑p0.length:Int)∧PHeap.Le φ φ_∧St ⟨w,[],φ⟩ φ_ [] w_) hf6 ?_ ?_ ?_
 ·exact ⟨φ,Z,Z,Z,Z,(zf _),hS⟩
 ·rintro k2 ⟨⟩ xx9 σ7 W8 hk12 ⟨φ14,fi13,f17,f18,f19,le15,hS16⟩ hx10 hb11
  try dsimp only at hx10
  have c20:Hid ((↑k2:Int) < (↑p0.length:Int)):=zG (lp_lt0 hk12)
  replace hk12:=zG hk12
  have hi21:Hid (w64 ((↑k2:Int) + 1)=(↑(k2 + 1):Int)):=zG (by have h1:=hle5.out;have h2:=c20.out;rw [w64_in] <;> omega)
  refine sR fL1 Z (oR Z (fun _=>zW Z fi13 f19) (eN (zE (cT Z c20 (kN (zE (zS (sR fL3 Z (bnK hx10 fun x22 h23 hm24=>?_)))))))))
  have h25:=ha0.le le15
  have q:=h25.el (fun _=>rfl) (idx_get h23)
  obtain ⟨b26,off27,hA28,hC29⟩:=q
  refine oR Z (fun _=>zu Z f18 hA28 fi13 zA zJ (idx_lt h23)) (oL Z (hS16.ldC (f:=0) hC29 (v:=.int .i64 x22) Z Z zR Z) (oA Z Z (eN (sR (.fl 0 (.fl 1 (.fx 2 (.fl 3 (.nil)) .stop))) Z (oM Z f17 (oM Z Z (bnK hm24 fun x30 h31 hm32=>?_)))))))
  have h39:=ha1.le le15
  refine OKS.callV (a:=x22) Z Z Z Z Z Z (zD Z zZ) hS16 h39 Z h31 ?_
  rintro φ33 L34 v35 W36 le37 hS38 ⟨rfl,rfl⟩
  have hS40:St ⟨w,[],φ⟩ φ33 [] W36:=hS38
  refine oR Z (fun _=>ZL Z Z) (eN (ifc hm32 ?_ ?_))
  ·intro c41 hm42
   refine zr (congrArg (fun b=>Value.bool (!b)) c41.out) (ZU (zh (zH (rR fL2 Z (oR Z (fun _=>zz (zY Z fi13 Z) (congrArg (Value.int .i64) hi21.out)) (oM Z Z (zp ?_)))))))
   obtain rfl:=Option.some.inj hm42
   exact zH ⟨Z,_,Z,⟨φ33,Z,f17,f18,f19,(le15.trans le37),hS40⟩⟩
  ·intro c41 hm43
   refine zn (congrArg (fun b=>Value.bool (!b)) (Bool.eq_false_iff.2 c41.out)) (sR fL1 Z (oA Z Z (eN (zO (zI (zB ?_))))))
   have q:=esc_spec hm43
   obtain ⟨v44,hm45,e46⟩:=q
   obtain rfl:=jn_inr hm hX4 (hb11 v44 e46)
   refine zB (zI (zB ?_))
   have hE:=Option.some.inj hm45;first | subst r | cases hE
   exact ⟨Z,_,(zq Z),φ33,_,hS40,Z,Z⟩
 ·rintro ⟨⟩ σ47 W48 ⟨φ51,fi50,f54,f55,f56,le52,hS53⟩ hb49
  have hm57:=jn_inl hm hX4 hb49
  try dsimp only at hm57
  have c58:Hid (¬ ((↑(((↑p0.length:Int):Int) - 0).toNat:Int) < (↑p0.length:Int))):=zG (lp_end0)
  refine sR fL1 Z (oR Z (fun _=>zW Z fi50 f56) (eN (zE (cF Z c58 (ZG (ze (ze (zw (zH (sR fL1 Z (oA Z Z (eN (zO ?_)))))))))))))
  have hE:=Option.some.inj hm57;first | subst r | cases hE
  exact ⟨Z,_,(zq Z),φ51,_,hS53,Z,Z⟩
theorem w_start_CheckRace_2 (p0:Int) (w:World) (φ:PHeap) (hS:St0 w φ [])  {r:Bool} (hm:m_start_CheckRace_2 p0=some r):Gv Tryz.prog 123 [.int .i64 p0] w (RetS w [] φ (fun φ_ L_ v=>v=.bool r∧L_=[])):=by
 unfold m_start_CheckRace_2 at hm
 refine Gv.of Tryz.func123 Z Tryz.ntmps123 Tryz.results123 Z (sR fL1 Z (oA Z Z (eN (sR (.fl 0 (.fx 1 (.fl 2 (.nil)) .stop)) Z (oM Z Z (bnK hm fun x1 h2 hm3=>zU 0 Z Z Z Z (zP Z Z Tryz.call119 (zD Z (zD Z (zD Z zZ))) Z) hS (fun hs=>w_start_in p0 1 999 w φ hs h2) (.inr Z) ?_))))))
 rintro φ4 L5 v6 W7 le8 hS9 ⟨rfl,rfl⟩
 have hS10:St ⟨w,[],φ⟩ φ4 [] W7:=hS9
 refine oA Z Z (eN (zO ?_))
 have hE:=Option.some.inj hm3;first | subst r | cases hE
 exact ⟨Z,_,(zq Z),φ4,_,hS10,Z,Z⟩
theorem w_start_CheckRace_3_1 (p0:Int) (w:World) (φ:PHeap) (hS:St0 w φ [])  {r:Bool} (hm:m_start_CheckRace_3_1 p0=some r):Gv Tryz.prog 125 [.int .i64 p0] w (RetS w [] φ (fun φ_ L_ v=>v=.bool r∧L_=[])):=by
 unfold m_start_CheckRace_3_1 at hm
 refine Gv.of Tryz.func125 Z Tryz.ntmps125 Tryz.results125 Z (sR fL1 Z (oA Z Z (eN (sR (.fl 0 (.fx 1 (.fl 2 (.nil)) .stop)) Z (oM Z Z (bnK hm fun x1 h2 hm3=>zU 0 Z Z Z Z (zP Z Z Tryz.call119 (zD Z (zD Z (zD Z zZ))) Z) hS (fun hs=>w_start_in p0 0 360000 w φ hs h2) (.inr Z) ?_))))))
 rintro φ4 L5 v6 W7 le8 hS9 ⟨rfl,rfl⟩
 have hS10:St ⟨w,[],φ⟩ φ4 [] W7:=hS9
 refine oA Z Z (eN (zO ?_))
 have hE:=Option.some.inj hm3;first | subst r | cases hE
 exact ⟨Z,_,(zq Z),φ4,_,hS10,Z,Z⟩
theorem w_start_CheckRace_3 (p0:List Int) (pA0:Option Addr) (pc0:Nat) (w:World) (φ:PHeap) (hS:St0 w φ []) (ha0:Sl φ 1 pA0 pc0 p0.length (List.flatMap KL.encI p0)) {r:Bool} (hm:m_start_CheckRace_3 p0=some r):Gv Tryz.prog 124 [.slice pA0 p0.length pc0] w (RetS w [] φ (fun φ_ L_ v=>v=.bool r∧L_=[])):=by
 unfold m_start_CheckRace_3 at hm
 refine Gv.of Tryz.func124 Z Tryz.ntmps124 Tryz.results124 Z (sR fL1 Z (oA Z Z (eN (sR (.fl 0 (.fx 1 (.fl 2 (.nil)) .stop)) Z (oM Z Z ?_)))))
 have hF1:FnOK Tryz.prog φ (.func (.func 125) #[] #[]) ar190 rr190 m_start_CheckRace_3_1:=⟨125,[],[],rfl,Tryz.call125,fun φ1 w1 x y vs le hs ha hm=>by obtain rfl:=ha;exact w_start_CheckRace_3_1 x w1 φ1 hs  hm⟩
 refine bnK hm fun x2 h3 hm4=>zU 0 Z Z Z Z (zP Z Z Tryz.call122 (zD Z (zD Z zZ)) Z) hS (fun hs=>w_start_all_int_122 p0 pA0 pc0 m_start_CheckRace_3_1 (.func (.func 125) #[] #[]) w φ hs ha0 hF1 h3) (.inr Z) ?_
 rintro φ5 L6 v7 W8 le9 hS10 ⟨rfl,rfl⟩
 have hS11:St ⟨w,[],φ⟩ φ5 [] W8:=hS10
 refine oA Z Z (eN (zO ?_))
 have hE:=Option.some.inj hm4;first | subst r | cases hE
 exact ⟨Z,_,(zq Z),φ5,_,hS11,Z,Z⟩
theorem w_start_twice (p0:List Int) (pA0:Option Addr) (pc0:Nat) (w:World) (φ:PHeap) (hS:St0 w φ []) (ha0:Sl φ 1 pA0 pc0 p0.length (List.flatMap KL.encI p0)) {r:Bool} (hm:m_start_twice p0=some r):Gv Tryz.prog 126 [.slice pA0 p0.length pc0] w (RetS w [] φ (fun φ_ L_ v=>v=.bool r∧L_=[])):=by
 unfold m_start_twice at hm
 refine Gv.of Tryz.func126 Z Tryz.ntmps126 Tryz.results126 Z (sR fL1 Z (oA Z Z (eN (sR (.fx 0 (.fl 1 (.nil)) .stop) Z (OKS.makeMap Z Z Z Z Z hS ?_)))))
 intro W1 b2 hS3
 have hr4:=MpR.nil mk207 mv207
 refine oA Z Z (eN (zE (sR fL3 Z (oM Z Z (oR Z (fun _=>zV Z Z zA) (oM Z Z (eN (zS ?_))))))))
 have q:=jn_some hm
 obtain ⟨r21,hX22⟩:=q
 have q:=forR_le hX22
 obtain ⟨hle23,hf24⟩:=q
 replace hle23:=zG hle23
 refine Zx (fun k20 l17 σ_ w_=>∃ (φ_:PHeap) (es18:Array MapEntry) (ck19:Nat),σ_ 9=.int .i64 (↑k20:Int)∧σ_ 3=.map (some b2)∧σ_ 7=.slice pA0 p0.length pc0∧σ_ 8=.int .i64 (↑p0.length:Int)∧PHeap.Le φ φ_∧St ⟨w,[],φ⟩ φ_ [.obj b2 (.map es18 ck19)] w_∧MpR es18 mk207 mv207 l17) hf24 ?_ ?_ ?_
 ·exact ⟨φ,#[],0,Z,Z,Z,Z,(zf _),hS3,hr4⟩
 ·rintro k20 l17 xx27 σ25 W26 hk30 ⟨φ32,es18,ck19,fi31,f35,f36,f37,le33,hS34,h38⟩ hx28 hb29
  have c39:Hid ((↑k20:Int) < (↑p0.length:Int)):=zG (lp_lt0 hk30)
  replace hk30:=zG hk30
  have hi40:Hid (w64 ((↑k20:Int) + 1)=(↑(k20 + 1):Int)):=zG (by have h1:=hle23.out;have h2:=c39.out;rw [w64_in] <;> omega)
  refine sR fL1 Z (oR Z (fun _=>zW Z fi31 f37) (eN (zE (cT Z c39 (kN (zE (zS (sR fL3 Z (bnK hx28 fun x41 h42 hm43=>?_)))))))))
  have h44:=ha0.le le33
  have q:=h44.el (fun _=>rfl) (idx_get h42)
  obtain ⟨b45,off46,hA47,hC48⟩:=q
  refine oR Z (fun _=>zu Z f36 hA47 fi31 zA zJ (idx_lt h42)) (oL Z (hS34.ldC (f:=0) hC48 (v:=.int .i64 x41) Z Z zR Z) (oA Z Z (eN (zE (sR fL3 Z (oM Z f35 (oM Z Z (oL Z (hS34.lookup1 (j:=0) (mk:=mk207) (mv:=mv207) (a:=x41) (z:=false) Z Z Z Z (und_of Tryz.runUnderlying207) keyR207 Tryz.zeroValue4 h38) (eN (ifc hm43 ?_ ?_))))))))))
  ·intro c49 hm50
   refine zn (congrArg Value.bool c49.out) (sR fL1 Z (oA Z Z (eN (zO (zB (zI (zB ?_)))))))
   have q:=esc_spec hm50
   obtain ⟨v51,hm52,e53⟩:=q
   obtain rfl:=jn_inr hm hX22 (hb29 v51 e53)
   refine zB (zI (zB ?_))
   have hE:=Option.some.inj hm52;first | subst r | cases hE
   exact ⟨rfl,_,(zq rfl),φ32,_,(hS34.pick [] _ (by decide) rfl),rfl,rfl⟩
  ·intro c49 hm54
   refine zr (congrArg Value.bool (Bool.eq_false_iff.2 c49.out)) (kN (rR (.fl 0 (.fl 1 (.fx 2 (.nil) .stop))) rfl (zj rfl rfl rfl rfl rfl f35 (zj rfl rfl rfl rfl rfl rfl (OKS.mapPut (x:=.tmp 16) (y:=.tmp 17) (j:=0) (mk:=mk207) (mv:=mv207) (a:=x41) (v:=true) rfl rfl rfl (by first | exact .inl rfl | exact .inr rfl) hS34 rfl rfl rfl rfl (und_of Tryz.runUnderlying207) keyR207 h38 rfl ?_)))))
   intro es55 ck56 W57 hr58 hS59
   have hS60:St ⟨w,[],φ⟩ φ32 [.obj b2 (.map es55 ck56)] W57:=hS59
   refine zp (zh (zH (rR fL2 Z (oR Z (fun _=>zz (zY Z fi31 Z) (congrArg (Value.int .i64) hi40.out)) (oM Z Z (zp ?_))))))
   obtain rfl:=Option.some.inj hm54
   exact zH ⟨Z,_,Z,⟨φ32,es55,ck56,Z,f35,f36,f37,le33,hS60,hr58⟩⟩
 ·rintro y68 σ64 W65 ⟨φ71,e69,c70,fi67,f74,f75,f76,le72,hS73,h77⟩ hb66
  have hm78:=jn_inl hm hX22 hb66
  have c79:Hid (¬ ((↑(((↑p0.length:Int):Int) - 0).toNat:Int) < (↑p0.length:Int))):=zG (lp_end0)
  refine sR fL1 Z (oR Z (fun _=>zW Z fi67 f76) (eN (zE (cF Z c79 (ZG (ze (ze (zw (zH (sR fL1 Z (oA Z Z (eN (zO ?_)))))))))))))
  have hE:=Option.some.inj hm78;first | subst r | cases hE
  exact ⟨rfl,_,(zq rfl),φ71,_,(hS73.pick [] _ (by decide) rfl),rfl,rfl⟩
theorem w_start_CheckRace (p0:T_start_Race) (pA0_1:Option Addr) (pc0_1:Nat) (pA0_2:Option Addr) (pc0_2:Nat) (w:World) (φ:PHeap) (hS:St0 w φ []) (ha0:Sl φ 1 pA0_1 pc0_1 p0.Bibs.length (List.flatMap KL.encI p0.Bibs)) (ha1:SlR φ rl23 pA0_2 pc0_2 p0.Times) {r:Int} (hm:m_start_CheckRace p0=some r):Gv Tryz.prog 21 [.agg #[.int .i64 p0.Laps,.slice pA0_1 p0.Bibs.length pc0_1,.slice pA0_2 p0.Times.length pc0_2]] w (RetS w [] φ (fun φ_ L_ v=>v=.int .i64 r∧L_=[])):=by
 unfold m_start_CheckRace at hm
 refine Gv.of Tryz.func21 rfl Tryz.ntmps21 Tryz.results21 rfl (sR (.fx 0 (.fl 1 (.nil)) .stop) rfl (Zd (cs:=[.int .i64 p0.Laps,.slice pA0_1 p0.Bibs.length pc0_1,.slice pA0_2 p0.Times.length pc0_2]) rfl rfl rfl rfl rfl rfl (by rfl) hS ?_))
 intro W1 b2 hS3
 have q:=hS3.freeze (k:=0) rfl
 obtain ⟨φ5,le6,hC7,hS8⟩:=q
 replace hC7:=Cl.of hC7
 have hS9:St ⟨w,[],φ⟩ φ5 [] W1:=hS8
 replace hC7:Cl φ5 b2 0 [.int .i64 p0.Laps,.slice pA0_1 p0.Bibs.length pc0_1,.slice pA0_2 p0.Times.length pc0_2]:=hC7
 refine oA Z Z (eN (zE (zS (sR (.fl 0 (.fl 1 (.fx 2 (fC3_22 (.fx 23 (fC24_26 (.nil)) .stop)) .stop))) Z (oR Z (fun _=>zF Z Z zt Z zJ) (oL Z (hS9.ldC (f:=0) hC7 (v:=.int .i64 p0.Laps) Z Z zR Z) (bnK hm fun x10 h11 hm12=>zU 0 Z Z Z Z (zP Z Z Tryz.call119 (zD Z (zD Z (zD Z zZ))) Z) hS9 (fun hs=>w_start_in p0.Laps 1 20 W1 φ5 hs h11) (.inr Z) ?_)))))))
 rintro φ13 L14 v15 W16 le17 hS18 ⟨rfl,rfl⟩
 have hS19:St ⟨w,[],φ⟩ φ13 [] W16:=hS18
 refine oR Z (fun _=>ZL Z Z) (oM Z Z (ifc hm12 ?_ ?_))
 ·intro c20 hm21
  refine zi Z Z Z (zK Z Z (congrArg (fun b=>Value.bool (!b)) c20.out)) (fun _=>zF Z Z zt Z zN) ?_
  have h22:=hC7.le le17
  refine ZD Z Z Z (zK Z Z (congrArg (fun b=>Value.bool (!b)) c20.out)) (hS19.ldC (f:=1) h22 (v:=.slice pA0_1 p0.Bibs.length pc0_1) Z Z zd Z) Z (zi Z Z Z (zK Z Z (congrArg (fun b=>Value.bool (!b)) c20.out)) (fun _=>zV Z Z zA) (zi Z Z Z (zK Z Z (congrArg (fun b=>Value.bool (!b)) c20.out)) (fun _=>Zy Z Z Z) (oR Z (fun _=>zl Z (congrArg (fun b=>Value.bool (!b)) c20.out) Z) (oM Z Z (ifc hm21 ?_ ?_)))))
  ·intro c23 hm24
   refine oT Z c23 (oT Z c23 (oT Z c23 (oT Z c23 (oT Z c23 (oT Z c23 (oT Z c23 (oR Z (fun _=>zM Z (Zb c23.out) Z) (oM Z Z (oN Z (oN Z (oN Z (Zq Z Z Z (ZA Z Z Z Z) (oN Z (oR Z (fun _=>zM Z Z Z) (oA Z Z (eN (zn Z (sR fL1 Z (oA Z Z (eN (zO (zI (zB ?_)))))))))))))))))))))))
   cases hm24
   exact ⟨Z,_,(zq Z),φ13,_,hS19,Z,Z⟩
  ·intro c23 hm25
   refine rU Z (wF Z c23) (fun _=>zF Z Z zt Z ZT) (ZD Z Z Z (wF Z c23) (hS19.ldC (f:=2) h22 (v:=.slice pA0_2 p0.Times.length pc0_2) Z Z Zi Z) Z (rU Z (wF Z c23) (fun _=>zV Z Z zQ) (rU Z (wF Z c23) (fun _=>zF Z Z zt Z zN) (ZD Z Z Z (wF Z c23) (hS19.ldC (f:=1) h22 (v:=.slice pA0_1 p0.Bibs.length pc0_1) Z Z zd Z) Z (rU Z (wF Z c23) (fun _=>zV Z Z zA) (rU Z (wF Z c23) (fun _=>ZI Z Z Z) (oR Z (fun _=>zl Z (zX c23.out) Z) (oM Z Z (ifc hm25 ?_ ?_)))))))))
   ·intro c26 hm27
    refine zi Z Z Z (zK Z Z (zX (fun h=>h c26.out))) (fun _=>zF Z Z zt Z ZT) (ZD Z Z Z (zK Z Z (zX (fun h=>h c26.out))) (hS19.ldC (f:=2) h22 (v:=.slice pA0_2 p0.Times.length pc0_2) Z Z Zi Z) Z (zi Z Z Z (zK Z Z (zX (fun h=>h c26.out))) (fun _=>Runs.mkf Z zZ (zD Z zZ)) ?_))
    have h28:=ha1.le le6
    have h29:=h28.le le17
    have h30:=ha0.le le6
    have h31:=h30.le le17
    have hF32:FnOK Tryz.prog φ13 (.func (.func 121) #[] #[.pointer (some ⟨b2,0,none⟩)]) ar202 rr202 (fun x=>m_start_CheckRace_1 x p0):=⟨121,[],[.pointer (some ⟨b2,0,none⟩)],rfl,Tryz.call121,fun φ1 w1 x y vs le hs ha hm=>by obtain ⟨pA_0,pc_0,rfl,hq0_0⟩:=ha;exact w_start_CheckRace_1 x pA_0 pc_0 p0 b2 pA0_1 pc0_1 pA0_2 pc0_2 w1 φ1 hs hq0_0 (h22.le le) (h31.le le) (h29.le le) hm⟩
    refine bnK hm27 fun x33 h34 hm35=>zU 0 Z Z Z (zK Z Z (zX (fun h=>h c26.out))) (zP Z Z Tryz.call120 (zD Z (zD Z zZ)) Z) hS19 (fun hs=>w_start_all_int p0.Times pA0_2 pc0_2 (fun x=>m_start_CheckRace_1 x p0) (.func (.func 121) #[] #[.pointer (some ⟨b2,0,none⟩)]) W16 φ13 hs h29 hF32 h34) (.inr Z) ?_
    rintro φ36 L37 v38 W39 le40 hS41 ⟨rfl,rfl⟩
    have hS42:St ⟨w,[],φ⟩ φ36 [] W39:=hS41
    refine zi Z Z Z (zK Z Z (zX (fun h=>h c26.out))) (fun _=>ZL Z Z) (oR Z (fun _=>zl Z (zX (fun h=>h c26.out)) Z) (oA Z Z (eN (ifc hm35 ?_ ?_))))
    ·intro c43 hm44
     refine zr (congrArg (fun b=>Value.bool (!b)) c43.out) (sR (.fl 0 (.fl 1 (.fx 2 (fC3_6 (.fx 7 (fC8_10 (.nil)) .stop)) .stop))) Z (oR Z (fun _=>zF Z Z zt Z zN) ?_))
     have h45:=h22.le le40
     refine oL Z (hS42.ldC (f:=1) h45 (v:=.slice pA0_1 p0.Bibs.length pc0_1) Z Z zd Z) ?_
     have h46:=h31.le le40
     have hF47:FnOK Tryz.prog φ36 (.func (.func 123) #[] #[]) ar190 rr190 m_start_CheckRace_2:=⟨123,[],[],rfl,Tryz.call123,fun φ1 w1 x y vs le hs ha hm=>by obtain rfl:=ha;exact w_start_CheckRace_2 x w1 φ1 hs  hm⟩
     refine bnK hm44 fun x48 h49 hm50=>zU 0 Z Z Z Z (zP Z Z Tryz.call122 (zD Z (zD Z zZ)) Z) hS42 (fun hs=>w_start_all_int_122 p0.Bibs pA0_1 pc0_1 m_start_CheckRace_2 (.func (.func 123) #[] #[]) W39 φ36 hs h46 hF47 h49) (.inr Z) ?_
     rintro φ51 L52 v53 W54 le55 hS56 ⟨rfl,rfl⟩
     have hS57:St ⟨w,[],φ⟩ φ51 [] W54:=hS56
     refine oR Z (fun _=>ZL Z Z) (oM Z Z (ifc hm50 ?_ ?_))
     ·intro c58 hm59
      refine zi Z Z Z (zK Z Z (congrArg (fun b=>Value.bool (!b)) c58.out)) (fun _=>zF Z Z zt Z ZT) ?_
      have h60:=h45.le le55
      refine ZD Z Z Z (zK Z Z (congrArg (fun b=>Value.bool (!b)) c58.out)) (hS57.ldC (f:=2) h60 (v:=.slice pA0_2 p0.Times.length pc0_2) Z Z Zi Z) Z ?_
      have h61:=h29.le le40
      have h62:=h61.le le55
      have hF63:FnOK Tryz.prog φ51 (.func (.func 124) #[] #[]) ar202 rr202 m_start_CheckRace_3:=⟨124,[],[],rfl,Tryz.call124,fun φ1 w1 x y vs le hs ha hm=>by obtain ⟨pA_0,pc_0,rfl,hq0_0⟩:=ha;exact w_start_CheckRace_3 x pA_0 pc_0 w1 φ1 hs hq0_0 hm⟩
      refine bnK hm59 fun x64 h65 hm66=>zU 0 Z Z Z (zK Z Z (congrArg (fun b=>Value.bool (!b)) c58.out)) (zP Z Z Tryz.call120 (zD Z (zD Z zZ)) Z) hS57 (fun hs=>w_start_all_int p0.Times pA0_2 pc0_2 m_start_CheckRace_3 (.func (.func 124) #[] #[]) W54 φ51 hs h62 hF63 h65) (.inr Z) ?_
      rintro φ67 L68 v69 W70 le71 hS72 ⟨rfl,rfl⟩
      have hS73:St ⟨w,[],φ⟩ φ67 [] W70:=hS72
      refine zi Z Z Z (zK Z Z (congrArg (fun b=>Value.bool (!b)) c58.out)) (fun _=>ZL Z Z) (oR Z (fun _=>zl Z (congrArg (fun b=>Value.bool (!b)) c58.out) Z) (oA Z Z (eN (ifc hm66 ?_ ?_))))
      ·intro c74 hm75
       refine zr (congrArg (fun b=>Value.bool (!b)) c74.out) (sR (.fl 0 (.fl 1 (.fx 2 (.fl 3 (.nil)) .stop))) Z (oR Z (fun _=>zF Z Z zt Z zN) ?_))
       have h76:=h60.le le71
       refine oL Z (hS73.ldC (f:=1) h76 (v:=.slice pA0_1 p0.Bibs.length pc0_1) Z Z zd Z) ?_
       have h77:=h46.le le55
       have h78:=h77.le le71
       refine bnK hm75 fun x79 h80 hm81=>zU 0 Z Z Z Z (zP Z Z Tryz.call126 (zD Z zZ) Z) hS73 (fun hs=>w_start_twice p0.Bibs pA0_1 pc0_1 W70 φ67 hs h78 h80) (.inr Z) ?_
       rintro φ82 L83 v84 W85 le86 hS87 ⟨rfl,rfl⟩
       have hS88:St ⟨w,[],φ⟩ φ82 [] W85:=hS87
       refine oA Z Z (eN (ifc hm81 ?_ ?_))
       ·intro c89 hm90
        refine zn (congrArg Value.bool c89.out) (sR fL1 Z (oA Z Z (eN (zO (zI (zB ?_))))))
        cases hm90
        exact ⟨Z,_,(zq Z),φ82,_,hS88,Z,Z⟩
       ·intro c89 hm91
        refine zr (congrArg Value.bool (Bool.eq_false_iff.2 c89.out)) (ZU (zh (zH (zE (zE (Zj fun σ92 hσ93=>?_))))))
        have f94:σ92 1=.pointer (some ⟨b2,0,none⟩):=(hσ93 1).trans rfl
        clear hσ93
        refine rR fL4 Z (oR Z (fun _=>zF Z f94 zt Z ZT) ?_)
        have h95:=h76.le le86
        refine oL Z (hS88.ldC (f:=2) h95 (v:=.slice pA0_2 p0.Times.length pc0_2) Z Z Zi Z) (oR Z (fun _=>zV Z Z zQ) (oM Z Z (eN (zS ?_))))
        have q:=jn_some hm91
        obtain ⟨r98,hX99⟩:=q
        have q:=forR_le hX99
        obtain ⟨hle100,hf101⟩:=q
        replace hle100:=zG hle100
        refine Zx (fun k97 _ σ_ w_=>∃ (φ_:PHeap),σ_ 51=.int .i64 (↑k97:Int)∧σ_ 49=.slice pA0_2 p0.Times.length pc0_2∧σ_ 50=.int .i64 (↑p0.Times.length:Int)∧PHeap.Le φ82 φ_∧St ⟨w,[],φ⟩ φ_ [] w_) hf101 ?_ ?_ ?_
        ·exact ⟨φ82,Z,Z,Z,(zf _),hS88⟩
        ·rintro k97 ⟨⟩ xx104 σ102 W103 hk107 ⟨φ109,fi108,f112,f113,le110,hS111⟩ hx105 hb106
         try dsimp only at hx105
         have c114:Hid ((↑k97:Int) < (↑p0.Times.length:Int)):=zG (lp_lt0 hk107)
         replace hk107:=zG hk107
         have hi115:Hid (w64 ((↑k97:Int) + 1)=(↑(k97 + 1):Int)):=zG (by have h1:=hle100.out;have h2:=c114.out;rw [w64_in] <;> omega)
         refine sR fL1 Z (oR Z (fun _=>zW Z fi108 f113) (eN (zE (cT Z c114 (kN (zE (zS (sR fL3 Z (bnK hx105 fun x116 h117 hm118=>?_)))))))))
         have h119:=h62.le le71
         have h120:=h119.le le86
         have h121:=h120.le le110
         have q:=h121.el (idx_get h117)
         obtain ⟨b122,off123,vs126,hA124,hC125,hr127⟩:=q
         obtain ⟨pA128,pc129,rfl,h130⟩:=hr127
         replace hC125:Cl φ109 b122 (off123 + k97 * 1) [.slice pA128 x116.length pc129]:=hC125
         refine oR Z (fun _=>zu Z f112 hA124 fi108 zQ zN (idx_lt h117)) (oL Z (hS111.ldC (f:=0) hC125 (v:=.slice pA128 x116.length pc129) Z Z zd Z) (oA Z Z (eN (sR fL1 Z (oA Z Z (eN (zS ?_)))))))
         have q:=jn_some hm118
         obtain ⟨r133,hX134⟩:=q
         have q:=forR_le hX134
         obtain ⟨hle135,hf136⟩:=q
         replace hle135:=zG hle135
         refine Zx (fun k132 _ σ_ w_=>∃ (φ_:PHeap),σ_ 5=.int .i64 (1 + ↑k132:Int)∧σ_ 4=.slice pA128 x116.length pc129∧σ_ 49=.slice pA0_2 p0.Times.length pc0_2∧σ_ 50=.int .i64 (↑p0.Times.length:Int)∧σ_ 51=.int .i64 (↑k97:Int)∧PHeap.Le φ109 φ_∧St ⟨w,[],φ⟩ φ_ [] w_) hf136 ?_ ?_ ?_
         ·exact ⟨φ109,Z,Z,f112,f113,fi108,(zf _),hS111⟩
         ·rintro k132 ⟨⟩ xx139 σ137 W138 hk142 ⟨φ144,fi143,f147,f148,f149,f150,le145,hS146⟩ hx140 hb141
          try dsimp only at hx140
          have c151:Hid ((1 + ↑k132:Int) < (↑x116.length:Int)):=zG (lp_lt hk142)
          replace hk142:=zG hk142
          have hi152:Hid (w64 ((1 + ↑k132:Int) + 1)=(1 + ↑(k132 + 1):Int)):=zG (by have h1:=hle135.out;have h2:=c151.out;rw [w64_in] <;> omega)
          refine zE (sR fL4 rfl (zj rfl rfl rfl rfl rfl fi143 (zj rfl rfl rfl rfl rfl f147 (zi rfl rfl rfl rfl (fun _=>zV rfl rfl zA) (zi rfl rfl rfl rfl (fun _=>zW rfl rfl rfl) (eN (cT Z c151 (kN (zE (zS (zE (Zh ZY [3,3,3,1,3,3,3,3,1,3] fL10 (by kernel_rfl) ?_))))))))))))
          have hS153:=hS146.drew
          generalize hw_W154:({ W138 with drawn:=W138.drawn + 1 }:World)=W154 at hS153 ⊢
          refine oM Z f147 (oM Z fi143 (bnK hx140 fun x155 h156 hm157=>?_))
          have h158:=h130.le le145
          have q:=h158.el (fun _=>rfl) (idx_get h156)
          obtain ⟨b159,off160,hA161,hC162⟩:=q
          refine oR Z (fun _=>Zo Z Z hA161 Z zA zJ (idx_lo h156) (idx_hi h156)) (oL Z (hS153.ldC (f:=0) hC162 (v:=.int .i64 x155) Z Z zR Z) (oM Z f147 (oM Z fi143 (oR Z (fun _=>Za Z Z Z) (bnK hm157 fun x163 h164 hm165=>?_)))))
          have q:=h158.el (fun _=>rfl) (idx_get h164)
          obtain ⟨b166,off167,hA168,hC169⟩:=q
          refine oR Z (fun _=>Zo Z Z hA168 Z zA zJ (idx_lo h164) (idx_hi h164)) (oL Z (hS153.ldC (f:=0) hC169 (v:=.int .i64 x163) Z Z zR Z) (oR Z (fun _=>Runs.leq Z Z Z) (eN (ifc hm165 ?_ ?_))))
          ·intro c170 hm171
           refine cT Z c170 (sR fL1 Z (oA Z Z (eN (zO (zI (zB ?_))))))
           have q:=esc_spec hm171
           obtain ⟨v172,hm173,e174⟩:=q
           obtain rfl:=jn_inr hm118 hX134 (hb141 v172 e174)
           refine zB (zI (zI (zB ?_)))
           have q:=esc_spec hm173
           obtain ⟨v175,hm176,e177⟩:=q
           obtain rfl:=jn_inr hm91 hX99 (hb106 v175 e177)
           refine zB (zI (zB ?_))
           cases hm176
           exact ⟨Z,_,(zq Z),φ144,_,hS153,Z,Z⟩
          ·intro c170 hm178
           refine cF Z c170 (ZU (zh (zH (rR fL3 Z (oM Z fi143 (oR Z (fun _=>zz (zY Z Z Z) (congrArg (Value.int .i64) hi152.out)) (oA Z Z (zp ?_))))))))
           obtain rfl:=Option.some.inj hm178
           exact zH ⟨Z,_,Z,⟨φ144,Z,f147,f148,f149,f150,le145,hS153⟩⟩
         ·rintro ⟨⟩ σ179 W180 ⟨φ183,fi182,f186,f187,f188,f189,le184,hS185⟩ hb181
          have hm190:=jn_inl hm118 hX134 hb181
          try dsimp only at hm190
          have c191:Hid (¬ ((1 + ↑(((↑x116.length:Int):Int) - 1).toNat:Int) < (↑x116.length:Int))):=zG (lp_end)
          refine zE (sR fL4 Z (oM Z fi182 (oM Z f186 (oR Z (fun _=>zV Z Z zA) (oR Z (fun _=>zW Z Z Z) (eN (cF Z c191 (ZG (ze (ze (zw (zh (zH (rR fL2 Z (oR Z (fun _=>zz (zY Z f189 Z) (congrArg (Value.int .i64) hi115.out)) (oM Z Z (zp ?_)))))))))))))))))
          obtain rfl:=Option.some.inj hm190
          exact zH ⟨Z,_,Z,⟨φ183,Z,f187,f188,(le110.trans le184),hS185⟩⟩
        ·rintro ⟨⟩ σ192 W193 ⟨φ196,fi195,f199,f200,le197,hS198⟩ hb194
         have hm201:=jn_inl hm91 hX99 hb194
         try dsimp only at hm201
         have c202:Hid (¬ ((↑(((↑p0.Times.length:Int):Int) - 0).toNat:Int) < (↑p0.Times.length:Int))):=zG (lp_end0)
         refine sR fL1 Z (oR Z (fun _=>zW Z fi195 f200) (eN (zE (cF Z c202 (ZG (ze (ze (zw (zH (sR fL1 Z (oA Z Z (eN (zO ?_)))))))))))))
         cases hm201
         exact ⟨Z,_,(zq Z),φ196,_,hS198,Z,Z⟩
      ·intro c74 hm203
       refine zn (congrArg (fun b=>Value.bool (!b)) (Bool.eq_false_iff.2 c74.out)) (sR fL1 Z (oA Z Z (eN (zO (zI (zB ?_))))))
       cases hm203
       exact ⟨Z,_,(zq Z),φ67,_,hS73,Z,Z⟩
     ·intro c58 hm204
      refine ZQ Z Z Z (ZA Z Z (congrArg (fun b=>Value.bool (!b)) (Bool.eq_false_iff.2 c58.out)) Z) (ZQ Z Z Z (ZA Z Z (congrArg (fun b=>Value.bool (!b)) (Bool.eq_false_iff.2 c58.out)) Z) (Zq Z Z Z (ZA Z Z (congrArg (fun b=>Value.bool (!b)) (Bool.eq_false_iff.2 c58.out)) Z) (ZQ Z Z Z (ZA Z Z (congrArg (fun b=>Value.bool (!b)) (Bool.eq_false_iff.2 c58.out)) Z) (oR Z (fun _=>zM Z (congrArg (fun b=>Value.bool (!b)) (Bool.eq_false_iff.2 c58.out)) Z) (oA Z Z (eN (zn Z (sR fL1 Z (oA Z Z (eN (zO (zI (zB ?_)))))))))))))
      cases hm204
      exact ⟨Z,_,(zq Z),φ51,_,hS57,Z,Z⟩
    ·intro c43 hm205
     refine zn (congrArg (fun b=>Value.bool (!b)) (Bool.eq_false_iff.2 c43.out)) (sR fL1 Z (oA Z Z (eN (zO (zI (zB ?_))))))
     cases hm205
     exact ⟨Z,_,(zq Z),φ36,_,hS42,Z,Z⟩
   ·intro c26 hm206
    refine oT Z c26 (oT Z c26 (oT Z c26 (Zq Z Z Z (ZA Z Z (Zb c26.out) Z) (oT Z c26 (oR Z (fun _=>zM Z (Zb c26.out) Z) (oA Z Z (eN (zn Z (sR fL1 Z (oA Z Z (eN (zO (zI (zB ?_))))))))))))))
    cases hm206
    exact ⟨Z,_,(zq Z),φ13,_,hS19,Z,Z⟩
 ·intro c20 hm207
  refine ZQ Z Z Z (ZA Z Z (congrArg (fun b=>Value.bool (!b)) (Bool.eq_false_iff.2 c20.out)) Z) (ZQ Z Z Z (ZA Z Z (congrArg (fun b=>Value.bool (!b)) (Bool.eq_false_iff.2 c20.out)) Z) (ZQ Z Z Z (ZA Z Z (congrArg (fun b=>Value.bool (!b)) (Bool.eq_false_iff.2 c20.out)) Z) (ZQ Z Z Z (ZA Z Z (congrArg (fun b=>Value.bool (!b)) (Bool.eq_false_iff.2 c20.out)) Z) (oR Z (fun _=>zM Z (congrArg (fun b=>Value.bool (!b)) (Bool.eq_false_iff.2 c20.out)) Z) (oM Z Z (oN Z (oN Z (oN Z (oN Z (oN Z (oN Z (oN Z (oR Z (fun _=>zM Z Z Z) (oM Z Z (oN Z (oN Z (oN Z (Zq Z Z Z (ZA Z Z Z Z) (oN Z (oR Z (fun _=>zM Z Z Z) (oA Z Z (eN (zn Z (sR fL1 Z (oA Z Z (eN (zO (zI (zB ?_)))))))))))))))))))))))))))))
  cases hm207
  exact ⟨Z,_,(zq Z),φ13,_,hS19,Z,Z⟩
theorem w_klisterkit_Fold (p0:Int) (p1:Int) (w:World) (φ:PHeap) (hS:St0 w φ [])  {r:Int} (hm:m_klisterkit_Fold p0 p1=some r):Gv Tryz.prog 23 [.int .i64 p0,.int .i64 p1] w (RetS w [] φ (fun φ_ L_ v=>v=.int .i64 r∧L_=[])):=by
 unfold m_klisterkit_Fold at hm
 refine Gv.of Tryz.func23 Z Tryz.ntmps23 Tryz.results23 Z (sR fL1 Z (oA Z Z (eN (zE (sR fL2 Z (oM Z Z (oR Z (fun _=>Runs.leq Z Z Z) (eN ?_))))))))
 by_cases c1:p1 ≤ 0
 ·have hm2:=hm;rw [if_pos c1] at hm2;replace c1:=zG c1
  refine cT Z c1 (sR fL1 Z (oA Z Z (eN (zO (zB ?_)))))
  cases hm2
  exact ⟨Z,_,(zq Z),φ,_,hS,Z,Z⟩
 ·have hm3:=hm;rw [if_neg c1] at hm3;replace c1:=zG c1
  refine cF Z c1 (kN (sR fL8 Z (oM Z Z (oM Z Z (bnK hm3 fun x4 h5 hm6=>oR Z (fun _=>Runs.rem Z Z Z h5) (oM Z Z (oR Z (fun _=>zY Z Z Z) (oM Z Z (bnK hm6 fun x7 h8 hm9=>oR Z (fun _=>Runs.rem Z Z Z h8) (oA Z Z (eN (zO ?_))))))))))))
  have hE:=Option.some.inj hm9;first | subst r | cases hE
  exact ⟨Z,_,(zq Z),φ,_,hS,Z,Z⟩
theorem w_relay_Places (p0:T_relay_Race) (pA0_0_0:Option Addr) (pc0_0_0:Nat) (pA0_2:Option Addr) (pc0_2:Nat) (p1:Int) (w:World) (φ:PHeap) (hS:St0 w φ []) (ha0:Sl φ 1 pA0_0_0 pc0_0_0 p0.Rules.Classes.length (List.flatMap KL.encI p0.Rules.Classes)) (ha1:SlR φ rl44 pA0_2 pc0_2 p0.Teams) {r:(List Int) × Int} (hm:m_relay_Places p0 p1=some r):Gv Tryz.prog 24 [.agg #[.slice pA0_0_0 p0.Rules.Classes.length pc0_0_0,.int .i64 p0.Rules.Each,.int .i64 p0.Rules.Laps,.int .i64 p0.Rules.Spare,.int .i64 p0.Rules.Loop,.int .i64 p0.Rules.Unused,.int .i64 p0.Start,.slice pA0_2 p0.Teams.length pc0_2],.int .i64 p1] w (RetS w [] φ (fun φ_ L_ v=>∃ (A0:Option Addr) (c0:Nat),v=.tuple #[.slice A0 r.1.length c0,.int .i64 r.2]∧L_=[.row A0 c0 3 1 (List.flatMap KL.encI r.1)])):=by
 unfold m_relay_Places at hm
 refine Gv.of Tryz.func24 rfl Tryz.ntmps24 Tryz.results24 rfl (sR (.fx 0 (.fl 1 (.fl 2 (.nil))) .stop) rfl (Zd (cs:=[.slice pA0_0_0 p0.Rules.Classes.length pc0_0_0,.int .i64 p0.Rules.Each,.int .i64 p0.Rules.Laps,.int .i64 p0.Rules.Spare,.int .i64 p0.Rules.Loop,.int .i64 p0.Rules.Unused,.int .i64 p0.Start,.slice pA0_2 p0.Teams.length pc0_2]) rfl rfl rfl rfl rfl rfl (by rfl) hS ?_))
 intro W1 b2 hS3
 refine oA Z Z (oA Z Z (eN (sR (.fl 0 (.fx 1 (fC2_6 (.nil)) .stop)) Z (oL Z (hS3.ldBA (j:=0) Z Z Z ZW zy (vs:=[.slice pA0_0_0 p0.Rules.Classes.length pc0_0_0,.int .i64 p0.Rules.Each,.int .i64 p0.Rules.Laps,.int .i64 p0.Rules.Spare,.int .i64 p0.Rules.Loop,.int .i64 p0.Rules.Unused,.int .i64 p0.Start,.slice pA0_2 p0.Teams.length pc0_2]) Z Z) ?_))))
 have q:=bnd hm
 obtain ⟨⟨x5,x6⟩,h7,hm8⟩:=q
 try dsimp only at hm8
 refine zU 0 Z Z Z Z (zP Z Z Tryz.call18 (zD Z zZ) Z) hS3 (fun hs=>w_relay_Times p0 pA0_0_0 pc0_0_0 pA0_2 pc0_2 W1 φ hs ha0 ha1 h7) (.inr Z) ?_
 rintro φ9 L10 v11 W12 le13 hS14 ⟨A15,c16,c17,rfl,rfl,h19⟩
 let B0:Res:=.blk b2 28 [.slice pA0_0_0 p0.Rules.Classes.length pc0_0_0,.int .i64 p0.Rules.Each,.int .i64 p0.Rules.Laps,.int .i64 p0.Rules.Spare,.int .i64 p0.Rules.Loop,.int .i64 p0.Rules.Unused,.int .i64 p0.Start,.slice pA0_2 p0.Teams.length pc0_2]
 have hS20:St ⟨w,[],φ⟩ φ9 [.row A15 c16 23 1 c17,B0] W12:=hS14
 refine oM Z Z (oR Z (fun _=>ZM Z Z (v:=.slice A15 x5.length c16) Z) (oR Z (fun _=>ZM Z Z (v:=.int .i64 x6) Z) (oA Z Z (oA Z Z (eN (zE (zS (sR fL3 Z (oM Z Z (oR Z (fun _=>ZI Z Z Z) (oA Z Z (eN (ifc hm8 ?_ ?_)))))))))))))
 ·intro c21 hm22
  refine zr (zX (fun h=>h c21.out)) (sR (fC0_5 (.fx 6 (.fl 7 (.fl 8 (.nil))) .stop)) Z (oM Z Z (oR Z (fun _=>zF Z Z zL Z ZE) (oR Z (fun _=>zF Z Z zg Z zN) (oL Z (hS20.ldB (j:=1) Z Z Z zd (v:=.slice pA0_0_0 p0.Rules.Classes.length pc0_0_0) Z) (oR Z (fun _=>zV Z Z zA) (oR Z (fun _=>Za Z Z Z) (bnK hm22 fun x23 h24 hm25=>zU 0 Z Z Z Z (zP Z Z Zr (zD Z (zD Z (zD Z zZ))) Z) hS20 (fun hs=>w_relay_in p1 0 (w64 ((↑p0.Rules.Classes.length:Int) - 1)) W12 φ9 hs h24) (.inr Z) ?_))))))))
  rintro φ26 L27 v28 W29 le30 hS31 ⟨rfl,rfl⟩
  have hS32:St ⟨w,[],φ⟩ φ26 [.row A15 c16 23 1 c17,B0] W29:=hS31
  refine oR Z (fun _=>ZL Z Z) (oA Z Z (eN (ifc hm25 ?_ ?_)))
  ·intro c33 hm34
   refine zr (congrArg (fun b=>Value.bool (!b)) c33.out) (ZU (zh (zH (sR (.fl 0 (.fl 1 (.fx 2 (.fl 3 (.nil)) .stop))) Z (oM Z Z (oR Z (fun _=>zV Z Z zQ) (bnK hm34 fun x35 h36 hm37=>OKS.makeSlice (enc:=KL.encI) (z:=0) (v:=.int .i64 0) Z Z Z Z Z (und_of zA) info3 Z Z Z Z Z Z h36 hS32 ?_)))))))
   intro W38 b39 hS40
   let B1:Res:=.row (some ⟨b39,0,none⟩) x35.length 3 1 (List.flatMap KL.encI x35)
   have hS42:St ⟨w,[],φ⟩ φ26 [B1,.row A15 c16 23 1 c17,B0] W38:=hS40
   refine oA Z Z (eN (zE (sR fL3 Z (oM Z Z (oR Z (fun _=>zV Z Z zQ) (oM Z Z (eN (zS ?_))))))))
   have h48:=h19.le le30
   have q:=hS42.freezeRR (R:=rl23) (k:=1) rfl h48 rfl (by decide)
   obtain ⟨φ44,le45,hs46,hS47⟩:=q
   have hS49:St ⟨w,[],φ⟩ φ44 [B1,B0] W38:=hS47
   refine bnK hm37 fun y61 hf58 hm57=>?_
   have q:=forR'_le hf58
   obtain ⟨hle59,hf60⟩:=q
   replace hle59:=zG hle59
   refine CK.forN' (fun k56 l55 σ_ w_=>∃ (φ_:PHeap),σ_ 36=.int .i64 (↑k56:Int)∧σ_ 1=.int .i64 p1∧σ_ 6=.slice A15 x5.length c16∧σ_ 8=.slice (some ⟨b39,0,none⟩) l55.length x35.length∧σ_ 34=.slice A15 x5.length c16∧σ_ 35=.int .i64 (↑x5.length:Int)∧PHeap.Le φ44 φ_∧St ⟨w,[],φ⟩ φ_ [B0,.row (some ⟨b39,0,none⟩) x35.length 3 1 (List.flatMap KL.encI l55)] w_∧l55.length=x35.length) hf60 ?_ ?_ ?_
   ·exact ⟨φ44,rfl,rfl,rfl,rfl,rfl,rfl,(zf _),(hS49.pick [1,0] _ (by decide) rfl),rfl⟩
   ·rintro k56 l55 xx64 σ62 W63 hk67 ⟨φ69,fi68,f72,f73,f74,f75,f76,le70,hS71,h77⟩ hx65
    have c78:Hid ((↑k56:Int) < (↑x5.length:Int)):=zG (lp_lt0 hk67)
    replace hk67:=zG hk67
    have hi79:Hid (w64 ((↑k56:Int) + 1)=(↑(k56 + 1):Int)):=zG (by have h1:=hle59.out;have h2:=c78.out;rw [w64_in] <;> omega)
    refine sR fL1 Z (oR Z (fun _=>zW Z fi68 f76) (eN (zE (cT Z c78 (kN (zE (zS (sR fL5 Z (oM Z fi68 (bnK hx65 fun x80 h81 hm82=>?_))))))))))
    have h83:=hs46.le le70
    have q:=h83.el (idx_get h81)
    obtain ⟨b84,off85,vs88,hA86,hC87,hr89⟩:=q
    obtain ⟨pA90,pc91,rfl,h92⟩:=hr89
    replace hC87:Cl φ69 b84 (off85 + k56 * 1) [.slice pA90 x80.length pc91]:=hC87
    refine oR Z (fun _=>zu Z f75 hA86 fi68 zQ zN (idx_lt h81)) (oL Z (hS71.ldC (f:=0) hC87 (v:=.slice pA90 x80.length pc91) Z Z zd Z) (oA Z Z (oA Z Z (eN (zE (sR fL4 Z (oM Z f72 (oM Z Z (oR Z (fun _=>zV Z Z zA) (oR Z (fun _=>Runs.geq Z Z Z) (eN (ifc hm82 ?_ ?_))))))))))))
    ·intro c93 hm94
     refine cT Z c93 (ZG (ze (zw (zH (rR fL2 Z (oR Z (fun _=>zz (zY Z fi68 Z) (congrArg (Value.int .i64) hi79.out)) (oM Z Z (zp ?_))))))))
     cases hm94
     exact zH ⟨Z,⟨φ69,Z,f72,f73,f74,f75,f76,le70,hS71,h77⟩⟩
    ·intro c93 hm96
     refine cF Z c93 (kN (sR (fC0_2 (.fx 3 (.nil) .stop)) Z (oM Z f74 (oM Z Z (bnK hm96 fun _ h97 hm98=>oR Z (fun _=>zu Z Z Z Z zA zJ (chk_lt h97)) ?_)))))
     have hg99:=gd_at (xs:=l55) (chk_lt h97)
     refine OKS.stR (j:=1) (vs:=[.int .i64 1]) (cs':=List.flatMap KL.encI (List.set l55 k56 1)) rfl rfl rfl rfl hS71 rfl rfl rfl rfl rfl zJ (by rw [flatMap_len (f:=KL.encI) (sz:=1) (fun _=>rfl)];have hz:=chk_lt h97;simp only [List.getElem_toArray,List.getElem_cons_succ,List.getElem_cons_zero,List.length_cons,List.length_nil];omega) rfl (setN_at (sz:=1) (fo:=0) (fun _=>rfl) _ _ _ _ hg99 (by first | omega | (simp only [List.getElem_toArray,List.getElem_cons_succ,List.getElem_cons_zero];omega)) (zC rfl) rfl) rfl ?_
     intro W100 hS101
     have hS102:St ⟨w,[],φ⟩ φ69 [B0,.row (some ⟨b39,0,none⟩) x35.length 3 1 (List.flatMap KL.encI (List.set l55 k56 1))] W100:=hS101
     refine eN (sR fL3 Z (oM Z f73 (oR Z (fun _=>zV Z Z zQ) (oM Z Z (eN (zS (bnK hm98 fun y114 hf111 hm110=>?_)))))))
     have q:=forR'_le hf111
     obtain ⟨hle112,hf113⟩:=q
     replace hle112:=zG hle112
     refine CK.forN' (fun k109 l108 σ_ w_=>∃ (φ_:PHeap),σ_ 50=.int .i64 (↑k109:Int)∧σ_ 1=.int .i64 p1∧σ_ 6=.slice A15 x5.length c16∧σ_ 8=.slice (some ⟨b39,0,none⟩) l108.length x35.length∧σ_ 9=.int .i64 (↑k56:Int)∧σ_ 10=.slice pA90 x80.length pc91∧σ_ 34=.slice A15 x5.length c16∧σ_ 35=.int .i64 (↑x5.length:Int)∧σ_ 36=.int .i64 (↑k56:Int)∧σ_ 48=.slice A15 x5.length c16∧σ_ 49=.int .i64 (↑x5.length:Int)∧PHeap.Le φ69 φ_∧St ⟨w,[],φ⟩ φ_ [B0,.row (some ⟨b39,0,none⟩) x35.length 3 1 (List.flatMap KL.encI l108)] w_∧l108.length=x35.length) hf113 ?_ ?_ ?_
     ·exact ⟨φ69,rfl,f72,f73,(Eq.trans (b:=(.slice (some ⟨b39,0,none⟩) l55.length x35.length:Value)) (c:=(.slice (some ⟨b39,0,none⟩) ((List.set l55 k56 1).length) x35.length:Value)) f74 (by simp only [List.length_set])),rfl,rfl,f75,f76,fi68,rfl,rfl,(zf _),hS102,(by simp only [List.length_set];exact h77)⟩
     ·rintro k109 l108 xx117 σ115 W116 hk120 ⟨φ122,fi121,f125,f126,f127,f128,f129,f130,f131,f132,f133,f134,le123,hS124,h135⟩ hx118
      have c136:Hid ((↑k109:Int) < (↑x5.length:Int)):=zG (lp_lt0 hk120)
      replace hk120:=zG hk120
      have hi137:Hid (w64 ((↑k109:Int) + 1)=(↑(k109 + 1):Int)):=zG (by have h1:=hle112.out;have h2:=c136.out;rw [w64_in] <;> omega)
      refine sR fL1 Z (oR Z (fun _=>zW Z fi121 f134) (eN (zE (cT Z c136 (kN (zE (zS (sR fL3 Z (bnK hx118 fun x138 h139 hm140=>?_)))))))))
      have h141:=h83.le le123
      have q:=h141.el (idx_get h139)
      obtain ⟨b142,off143,vs146,hA144,hC145,hr147⟩:=q
      obtain ⟨pA148,pc149,rfl,h150⟩:=hr147
      replace hC145:Cl φ122 b142 (off143 + k109 * 1) [.slice pA148 x138.length pc149]:=hC145
      refine zi rfl rfl rfl rfl (fun _=>zu rfl f133 hA144 fi121 zQ zN (idx_lt h139)) (ZD rfl rfl rfl rfl (hS124.ldC (f:=0) hC145 (v:=.slice pA148 x138.length pc149) rfl rfl zd rfl) rfl (OKS.ra rfl rfl rfl rfl rfl rfl (eN (zE (Zh ZY [3,3,3,3,3,3,3,3,1,3,3,3,1,3,3] fL15 (by kernel_rfl) ?_)))))
      have hS151:=hS124.drew
      generalize hw_W152:({ W116 with drawn:=W116.drawn + 1 }:World)=W152 at hS151 ⊢
      refine oM Z f125 (oM Z Z (oR Z (fun _=>zV Z Z zA) (oR Z (fun _=>zW Z Z Z) (oM Z Z (ifc hm140 ?_ ?_)))))
      ·intro c153 hm154
       refine zj Z Z Z (wT Z c153) Z Z (zj Z Z Z (wT Z c153) Z f125 (bnK hm154 fun x155 h156 hm157=>?_))
       have q:=h150.el (fun _=>rfl) (idx_get h156)
       obtain ⟨b158,off159,hA160,hC161⟩:=q
       refine rU Z (wT Z c153) (fun _=>Zo Z Z hA160 Z zA zJ (idx_lo h156) (idx_hi h156)) (ZD Z Z Z (wT Z c153) (hS151.ldC (f:=0) hC161 (v:=.int .i64 x155) Z Z zR Z) Z (zj Z Z Z (wT Z c153) Z f129 (zj Z Z Z (wT Z c153) Z f125 (bnK hm157 fun x162 h163 hm164=>?_))))
       have h165:=h92.le le123
       have q:=h165.el (fun _=>rfl) (idx_get h163)
       obtain ⟨b166,off167,hA168,hC169⟩:=q
       refine rU Z (wT Z c153) (fun _=>Zo Z Z hA168 Z zA zJ (idx_lo h163) (idx_hi h163)) (ZD Z Z Z (wT Z c153) (hS151.ldC (f:=0) hC169 (v:=.int .i64 x162) Z Z zR Z) Z (rU Z (wT Z c153) (fun _=>zW Z Z Z) (oR Z (fun _=>zM Z (Zb c153.out) Z) (eN (ifc hm164 ?_ ?_)))))
       ·intro c170 hm171
        refine cT Z c170 (rR (fC0_5 (.fx 6 (.nil) .stop)) Z (oM Z f127 (oM Z f128 (bnK hm171 fun _ h172 hm173=>oR Z (fun _=>zu Z Z Z Z zA zJ (chk_lt h172)) ?_))))
        have hg174:=gd_at (xs:=l108) (chk_lt h172)
        refine ZD rfl rfl rfl rfl (hS151.ldR (j:=1) rfl rfl rfl rfl zR (flatMap_cell (sz:=1) (fun _=>rfl) _ _ 0 _ hg174 (by first | omega | rfl | simp) rfl)) rfl (zi rfl rfl rfl rfl (fun _=>zY rfl rfl rfl) (zi rfl rfl rfl rfl (fun _=>zu rfl rfl rfl rfl zA zJ (chk_lt h172)) ?_))
        have hg175:=gd_at (xs:=l108) (chk_lt h172)
        refine OKS.stR (j:=1) (vs:=[.int .i64 (w64 ((gd l108 k56) + 1))]) (cs':=List.flatMap KL.encI (List.set l108 k56 (w64 ((gd l108 k56) + 1)))) rfl rfl rfl rfl hS151 rfl rfl rfl rfl rfl zJ (by rw [flatMap_len (f:=KL.encI) (sz:=1) (fun _=>rfl)];have hz:=chk_lt h172;simp only [List.getElem_toArray,List.getElem_cons_succ,List.getElem_cons_zero,List.length_cons,List.length_nil];omega) rfl (setN_at (sz:=1) (fo:=0) (fun _=>rfl) _ _ _ _ hg175 (by first | omega | (simp only [List.getElem_toArray,List.getElem_cons_succ,List.getElem_cons_zero];omega)) (zC rfl) rfl) rfl ?_
        intro W176 hS177
        have hS178:St ⟨w,[],φ⟩ φ122 [B0,.row (some ⟨b39,0,none⟩) x35.length 3 1 (List.flatMap KL.encI (List.set l108 k56 (w64 ((gd l108 k56) + 1))))] W176:=hS177
        refine zp (zh (zH (rR fL2 Z (oR Z (fun _=>zz (zY Z fi121 Z) (congrArg (Value.int .i64) hi137.out)) (oM Z Z (zp ?_))))))
        cases hm173
        exact zH ⟨rfl,⟨φ122,rfl,f125,f126,(Eq.trans (b:=(.slice (some ⟨b39,0,none⟩) l108.length x35.length:Value)) (c:=(.slice (some ⟨b39,0,none⟩) ((List.set l108 k56 (w64 ((gd l108 k56) + 1))).length) x35.length:Value)) f127 (by simp only [List.length_set])),f128,f129,f130,f131,f132,f133,f134,le123,hS178,(by simp only [List.length_set];exact h135)⟩⟩
       ·intro c170 hm180
        refine cF Z c170 (ZU (zh (zH (rR fL2 Z (oR Z (fun _=>zz (zY Z fi121 Z) (congrArg (Value.int .i64) hi137.out)) (oM Z Z (zp ?_)))))))
        cases hm180
        exact zH ⟨Z,⟨φ122,Z,f125,f126,f127,f128,f129,f130,f131,f132,f133,f134,le123,hS151,h135⟩⟩
      ·intro c153 hm182
       refine oF Z c153 (oF Z c153 (oF Z c153 (oF Z c153 (oF Z c153 (oF Z c153 (oF Z c153 (oF Z c153 (oF Z c153 (oR Z (fun _=>zl Z (zX c153.out) Z) (eN (zr Z (ZU (zh (zH (rR fL2 Z (oR Z (fun _=>zz (zY Z fi121 Z) (congrArg (Value.int .i64) hi137.out)) (oM Z Z (zp ?_))))))))))))))))))
       cases hm182
       exact zH ⟨Z,⟨φ122,Z,f125,f126,f127,f128,f129,f130,f131,f132,f133,f134,le123,hS151,h135⟩⟩
     ·rintro σ184 W185 ⟨φ189,fi187,f192,f193,f194,f195,f196,f197,f198,f199,f200,f201,le190,hS191,h202⟩
      have c203:Hid (¬ ((↑(((↑x5.length:Int):Int) - 0).toNat:Int) < (↑x5.length:Int))):=zG (lp_end0)
      refine sR fL1 Z (oR Z (fun _=>zW Z fi187 f201) (eN (zE (cF Z c203 (ZG (ze (ze (zw (zh (zH (rR fL2 Z (oR Z (fun _=>zz (zY Z f199 Z) (congrArg (Value.int .i64) hi79.out)) (oM Z Z (zp ?_))))))))))))))
      cases hm110
      exact zH ⟨Z,⟨φ189,Z,f192,f193,f194,f197,f198,(le70.trans le190),hS191,h202⟩⟩
   ·rintro σ205 W206 ⟨φ210,fi208,f213,f214,f215,f216,f217,le211,hS212,h218⟩
    have c219:Hid (¬ ((↑(((↑x5.length:Int):Int) - 0).toNat:Int) < (↑x5.length:Int))):=zG (lp_end0)
    refine sR fL1 Z (oR Z (fun _=>zW Z fi208 f217) (eN (zE (cF Z c219 (ZG (ze (ze (zw (zH (sR fL3 Z (oM Z f215 (oA Z Z (oA Z Z (eN (zO ?_)))))))))))))))
    cases hm57
    exact ⟨rfl,_,(res2 rfl rfl),φ210,_,(hS212.pick [1] _ (by decide) rfl),(some ⟨b39,0,none⟩),x35.length,rfl,rfl⟩
  ·intro c33 hm220
   refine zn (congrArg (fun b=>Value.bool (!b)) (Bool.eq_false_iff.2 c33.out)) (sR fL2 Z (oA Z Z (oA Z Z (eN (zO (zI (zB ?_)))))))
   have hS221:=hS32.nilrow 3 1
   cases hm220
   exact ⟨rfl,_,(res2 rfl rfl),φ26,_,(hS221.pick [0] _ (by decide) rfl),none,0,rfl,rfl⟩
 ·intro c21 hm223
  refine cT Z c21 (sR fL3 Z (oM Z Z (oA Z Z (oA Z Z (eN (zO (zI (zB ?_))))))))
  have hS224:=hS20.nilrow 3 1
  cases hm223
  exact ⟨rfl,_,(res2 rfl rfl),φ9,_,(hS224.pick [0] _ (by decide) rfl),none,0,rfl,rfl⟩
end Go.Proofs.YtjfffcjjlnmneaaGreat
namespace Go.Proofs.YtjfffcjjlnmneaaGreat
open Go.KL
set_option maxHeartbeats 4000000
theorem w_slices_Sort_int_int (p0:List Int) (pA0:Option Addr) (pc0:Nat) (w:World) (φ:PHeap) (hS:St ⟨w,[.row pA0 pc0 3 1 (List.flatMap KL.encI p0)],φ⟩ φ [.row pA0 pc0 3 1 (List.flatMap KL.encI p0)] w) {r:List Int} (hm:m_slices_Sort_int_int p0=some r):Gv Tryz.prog 127 [.slice pA0 p0.length pc0] w (RetS w [.row pA0 pc0 3 1 (List.flatMap KL.encI p0)] φ (fun φ_ L_ v=>v=.tuple #[]∧L_=[.row pA0 pc0 3 1 (List.flatMap KL.encI r)]∧r.length=p0.length)) :=
  sortI_gv (fun b o c zs w h1 h2 h3=>Go.Proofs.Tryz.slices_Sort_int b o c zs w h1 h2 h3) (fun p c w=>Go.Proofs.Tryz.slices_Sort_int_none p c w) hS hm
theorem w_relay_Fastest (p0:T_relay_Race) (pA0_0_0:Option Addr) (pc0_0_0:Nat) (pA0_2:Option Addr) (pc0_2:Nat) (p1:Int) (w:World) (φ:PHeap) (hS:St0 w φ []) (ha0:Sl φ 1 pA0_0_0 pc0_0_0 p0.Rules.Classes.length (List.flatMap KL.encI p0.Rules.Classes)) (ha1:SlR φ rl44 pA0_2 pc0_2 p0.Teams) {r:(List Int) × Int × Int} (hm:m_relay_Fastest p0 p1=some r):Gv Tryz.prog 25 [.agg #[.slice pA0_0_0 p0.Rules.Classes.length pc0_0_0,.int .i64 p0.Rules.Each,.int .i64 p0.Rules.Laps,.int .i64 p0.Rules.Spare,.int .i64 p0.Rules.Loop,.int .i64 p0.Rules.Unused,.int .i64 p0.Start,.slice pA0_2 p0.Teams.length pc0_2],.int .i64 p1] w (RetS w [] φ (fun φ_ L_ v=>∃ (A0:Option Addr) (c0:Nat),v=.tuple #[.slice A0 r.1.length c0,.int .i64 r.2.1,.int .i64 r.2.2]∧L_=[.row A0 c0 3 1 (List.flatMap KL.encI r.1)])):=by
 unfold m_relay_Fastest at hm
 refine Gv.of Tryz.func25 rfl Tryz.ntmps25 Tryz.results25 rfl (sR (.fx 0 (fC1_3 (.nil)) .stop) rfl (Zd (cs:=[.slice pA0_0_0 p0.Rules.Classes.length pc0_0_0,.int .i64 p0.Rules.Each,.int .i64 p0.Rules.Laps,.int .i64 p0.Rules.Spare,.int .i64 p0.Rules.Loop,.int .i64 p0.Rules.Unused,.int .i64 p0.Start,.slice pA0_2 p0.Teams.length pc0_2]) rfl rfl rfl rfl rfl rfl (by rfl) hS ?_))
 intro W1 b2 hS3
 refine oA Z Z (oA Z Z (oA Z Z (eN (sR (.fl 0 (.fx 1 (fC2_6 (.nil)) .stop)) Z (oL Z (hS3.ldBA (j:=0) Z Z Z ZW zy (vs:=[.slice pA0_0_0 p0.Rules.Classes.length pc0_0_0,.int .i64 p0.Rules.Each,.int .i64 p0.Rules.Laps,.int .i64 p0.Rules.Spare,.int .i64 p0.Rules.Loop,.int .i64 p0.Rules.Unused,.int .i64 p0.Start,.slice pA0_2 p0.Teams.length pc0_2]) Z Z) ?_)))))
 have q:=bnd hm
 obtain ⟨⟨x5,x6⟩,h7,hm8⟩:=q
 try dsimp only at hm8
 refine zU 0 Z Z Z Z (zP Z Z Tryz.call19 (zD Z zZ) Z) hS3 (fun hs=>w_relay_Legs p0 pA0_0_0 pc0_0_0 pA0_2 pc0_2 W1 φ hs ha0 ha1 h7) (.inr Z) ?_
 rintro φ9 L10 v11 W12 le13 hS14 ⟨A15,c16,c17,rfl,rfl,h19⟩
 let B0:Res:=.blk b2 28 [.slice pA0_0_0 p0.Rules.Classes.length pc0_0_0,.int .i64 p0.Rules.Each,.int .i64 p0.Rules.Laps,.int .i64 p0.Rules.Spare,.int .i64 p0.Rules.Loop,.int .i64 p0.Rules.Unused,.int .i64 p0.Start,.slice pA0_2 p0.Teams.length pc0_2]
 have hS20:St ⟨w,[],φ⟩ φ9 [.row A15 c16 23 1 c17,B0] W12:=hS14
 refine oM Z Z (oR Z (fun _=>ZM Z Z (v:=.slice A15 x5.length c16) Z) (oR Z (fun _=>ZM Z Z (v:=.int .i64 x6) Z) (oA Z Z (oA Z Z (eN (zE (zS (sR fL3 Z (oM Z Z (oR Z (fun _=>ZI Z Z Z) (oA Z Z (eN (ifc hm8 ?_ ?_)))))))))))))
 ·intro c21 hm22
  refine zr (zX (fun h=>h c21.out)) (sR (fC0_5 (.fx 6 (.fl 7 (.fl 8 (.nil))) .stop)) Z (oM Z Z (oR Z (fun _=>zF Z Z zL Z ZE) (oR Z (fun _=>zF Z Z zg Z zN) (oL Z (hS20.ldB (j:=1) Z Z Z zd (v:=.slice pA0_0_0 p0.Rules.Classes.length pc0_0_0) Z) (oR Z (fun _=>zV Z Z zA) (oR Z (fun _=>Za Z Z Z) (bnK hm22 fun x23 h24 hm25=>zU 0 Z Z Z Z (zP Z Z Zr (zD Z (zD Z (zD Z zZ))) Z) hS20 (fun hs=>w_relay_in p1 0 (w64 ((↑p0.Rules.Classes.length:Int) - 1)) W12 φ9 hs h24) (.inr Z) ?_))))))))
  rintro φ26 L27 v28 W29 le30 hS31 ⟨rfl,rfl⟩
  have hS32:St ⟨w,[],φ⟩ φ26 [.row A15 c16 23 1 c17,B0] W29:=hS31
  refine oR Z (fun _=>ZL Z Z) (oA Z Z (eN (ifc hm25 ?_ ?_)))
  ·intro c33 hm34
   refine zr (congrArg (fun b=>Value.bool (!b)) c33.out) (ZU (zh (zH (sR fL1 Z (oA Z Z (eN (zE (sR fL3 Z (oM Z Z (oR Z (fun _=>zV Z Z zQ) (oM Z Z (eN (zS ?_)))))))))))))
   have h40:=h19.le le30
   have q:=hS32.freezeRR (R:=rl23) (k:=0) rfl h40 rfl (by decide)
   obtain ⟨φ36,le37,hs38,hS39⟩:=q
   have hS41:St ⟨w,[],φ⟩ φ36 [B0] W29:=hS39
   refine bnK hm34 fun y53 hf50 hm49=>?_
   have q:=forR'_le hf50
   obtain ⟨hle51,hf52⟩:=q
   replace hle51:=zG hle51
   refine CK.forN' (fun k48 x47 σ_ w_=>∃ (φ_:PHeap),σ_ 35=.int .i64 (↑k48:Int)∧σ_ 1=.int .i64 p1∧σ_ 2=.pointer (some ⟨b2,0,none⟩)∧σ_ 7=.slice A15 x5.length c16∧σ_ 9=.int .i64 x47∧σ_ 33=.slice A15 x5.length c16∧σ_ 34=.int .i64 (↑x5.length:Int)∧PHeap.Le φ36 φ_∧St ⟨w,[],φ⟩ φ_ [B0] w_) hf52 ?_ ?_ ?_
   ·exact ⟨φ36,Z,Z,Z,Z,Z,Z,Z,(zf _),hS41⟩
   ·rintro k48 x47 xx56 σ54 W55 hk59 ⟨φ61,fi60,f64,f65,f66,f67,f68,f69,le62,hS63⟩ hx57
    have c70:Hid ((↑k48:Int) < (↑x5.length:Int)):=zG (lp_lt0 hk59)
    replace hk59:=zG hk59
    have hi71:Hid (w64 ((↑k48:Int) + 1)=(↑(k48 + 1):Int)):=zG (by have h1:=hle51.out;have h2:=c70.out;rw [w64_in] <;> omega)
    refine sR fL1 Z (oR Z (fun _=>zW Z fi60 f69) (eN (zE (cT Z c70 (kN (zE (zS (sR fL3 Z (bnK hx57 fun x72 h73 hm74=>?_)))))))))
    have h75:=hs38.le le62
    have q:=h75.el (idx_get h73)
    obtain ⟨b76,off77,vs80,hA78,hC79,hr81⟩:=q
    obtain ⟨pA82,pc83,rfl,h84⟩:=hr81
    replace hC79:Cl φ61 b76 (off77 + k48 * 1) [.slice pA82 x72.length pc83]:=hC79
    refine oR Z (fun _=>zu Z f68 hA78 fi60 zQ zN (idx_lt h73)) (oL Z (hS63.ldC (f:=0) hC79 (v:=.slice pA82 x72.length pc83) Z Z zd Z) (oA Z Z (eN (sR fL4 Z (oM Z f64 (oM Z Z (oR Z (fun _=>zV Z Z zA) (oR Z (fun _=>zW Z Z Z) (eN (ifc hm74 ?_ ?_))))))))))
    ·intro c85 hm86
     refine cT Z c85 (rR fL7 Z (oM Z f67 (oM Z Z (oM Z f64 (bnK hm86 fun x87 h88 hm89=>?_)))))
     have q:=h84.el (fun _=>rfl) (idx_get h88)
     obtain ⟨b90,off91,hA92,hC93⟩:=q
     refine oR Z (fun _=>Zo Z Z hA92 Z zA zJ (idx_lo h88) (idx_hi h88)) (oL Z (hS63.ldC (f:=0) hC93 (v:=.int .i64 x87) Z Z zR Z) (oR Z (fun _=>Runs.min Z Z Z) (oA Z Z (zp (zh (zH (rR fL2 Z (oR Z (fun _=>zz (zY Z fi60 Z) (congrArg (Value.int .i64) hi71.out)) (oM Z Z (zp ?_))))))))))
     cases hm89
     exact zH ⟨Z,⟨φ61,Z,f64,f65,f66,Z,f68,f69,le62,hS63⟩⟩
    ·intro c85 hm95
     refine cF Z c85 (ZU (zh (zH (rR fL2 Z (oR Z (fun _=>zz (zY Z fi60 Z) (congrArg (Value.int .i64) hi71.out)) (oM Z Z (zp ?_)))))))
     cases hm95
     exact zH ⟨Z,⟨φ61,Z,f64,f65,f66,f67,f68,f69,le62,hS63⟩⟩
   ·rintro σ97 W98 ⟨φ102,fi100,f105,f106,f107,f108,f109,f110,le103,hS104⟩
    have c111:Hid (¬ ((↑(((↑x5.length:Int):Int) - 0).toNat:Int) < (↑x5.length:Int))):=zG (lp_end0)
    refine sR fL1 Z (oR Z (fun _=>zW Z fi100 f110) (eN (zE (cF Z c111 (ZG (ze (ze (zw (zH (sR fL1 Z (oA Z Z (eN (zE (sR fL3 Z (oM Z f107 (oR Z (fun _=>zV Z Z zQ) (oM Z Z (eN (zS (bnK hm49 fun y134 hf131 hm130=>?_))))))))))))))))))))
    have q:=forR'_le hf131
    obtain ⟨hle132,hf133⟩:=q
    replace hle132:=zG hle132
    refine CK.forN' (fun k129 l125 σ_ w_=>∃ (φ_:PHeap) (A126:Option Addr) (c127:Nat),σ_ 52=.int .i64 (↑k129:Int)∧σ_ 1=.int .i64 p1∧σ_ 2=.pointer (some ⟨b2,0,none⟩)∧σ_ 9=.int .i64 y53∧σ_ 12=.slice A126 l125.length c127∧σ_ 50=.slice A15 x5.length c16∧σ_ 51=.int .i64 (↑x5.length:Int)∧PHeap.Le φ102 φ_∧St ⟨w,[],φ⟩ φ_ [B0,.row A126 c127 3 1 (List.flatMap KL.encI l125)] w_) hf133 ?_ ?_ ?_
    ·have hS135:=hS104.nilrow 3 1
     exact ⟨φ102,none,0,rfl,f105,f106,f108,rfl,rfl,rfl,(zf _),(hS135.pick [1,0] _ (by decide) rfl)⟩
    ·rintro k129 l125 xx139 σ137 W138 hk142 ⟨φ144,A126,c127,fi143,f147,f148,f149,f150,f151,f152,le145,hS146⟩ hx140
     have c153:Hid ((↑k129:Int) < (↑x5.length:Int)):=zG (lp_lt0 hk142)
     replace hk142:=zG hk142
     have hi154:Hid (w64 ((↑k129:Int) + 1)=(↑(k129 + 1):Int)):=zG (by have h1:=hle132.out;have h2:=c153.out;rw [w64_in] <;> omega)
     refine sR fL1 Z (oR Z (fun _=>zW Z fi143 f152) (eN (zE (cT Z c153 (kN (zE (zS (sR fL5 Z (oM Z fi143 (bnK hx140 fun x155 h156 hm157=>?_))))))))))
     have h158:=hs38.le le103
     have h159:=h158.le le145
     have q:=h159.el (idx_get h156)
     obtain ⟨b160,off161,vs164,hA162,hC163,hr165⟩:=q
     obtain ⟨pA166,pc167,rfl,h168⟩:=hr165
     replace hC163:Cl φ144 b160 (off161 + k129 * 1) [.slice pA166 x155.length pc167]:=hC163
     refine oR Z (fun _=>zu Z f151 hA162 fi143 zQ zN (idx_lt h156)) (oL Z (hS146.ldC (f:=0) hC163 (v:=.slice pA166 x155.length pc167) Z Z zd Z) (oA Z Z (oA Z Z (eN (sR fL12 Z (oM Z f147 (oM Z Z (oR Z (fun _=>zV Z Z zA) (oR Z (fun _=>zW Z Z Z) (oM Z Z (ifc hm157 ?_ ?_)))))))))))
     ·intro c169 hm170
      refine zj Z Z Z (wT Z c169) Z Z (zj Z Z Z (wT Z c169) Z f147 (bnK hm170 fun x171 h172 hm173=>?_))
      have q:=h168.el (fun _=>rfl) (idx_get h172)
      obtain ⟨b174,off175,hA176,hC177⟩:=q
      refine rU Z (wT Z c169) (fun _=>Zo Z Z hA176 Z zA zJ (idx_lo h172) (idx_hi h172)) (ZD Z Z Z (wT Z c169) (hS146.ldC (f:=0) hC177 (v:=.int .i64 x171) Z Z zR Z) Z (zj Z Z Z (wT Z c169) Z f149 (rU Z (wT Z c169) (fun _=>Runs.eql Z Z Z) (oR Z (fun _=>zM Z (Zb c169.out) Z) (eN (ifc hm173 ?_ ?_))))))
      ·intro c178 hm179
       refine cT Z c178 (rR (fC0_6 (.fx 7 (.fx 8 (.fl 9 (.nil)) .stop) .stop)) Z (oM Z f150 (oR Z (fun _=>zF Z f148 zL Z ZH) (oL Z (hS146.ldB (j:=0) Z Z Z ZO (v:=.slice pA0_2 p0.Teams.length pc0_2) Z) (oM Z Z (bnK hm179 fun x180 h181 hm182=>?_))))))
       have h183:=ha1.le le13
       have h184:=h183.le le30
       have h185:=h184.le le37
       have h186:=h185.le le103
       have h187:=h186.le le145
       have q:=h187.el (idx_get h181)
       obtain ⟨b188,off189,vs192,hA190,hC191,hr193⟩:=q
       obtain ⟨pA194,pc195,pA196,pc197,rfl,h198,h199⟩:=hr193
       replace hC191:Cl φ144 b188 (off189 + k129 * 3) [.int .i64 x180.Bib,.slice pA194 x180.Classes.length pc195,.slice pA196 x180.Legs.length pc197]:=hC191
       refine oR Z (fun _=>zu Z Z hA190 Z zm ZB (idx_lt h181)) (oR Z (fun _=>zF Z Z zk Z zJ) (oL Z (hS146.ldC (f:=0) hC191 (v:=.int .i64 x180.Bib) Z Z zR Z) (ZC (pv:=[(0,.int .i64 x180.Bib)]) (zs:=[.int .i64 0]) (cs:=[.int .i64 x180.Bib]) Z Z Z Z Z (mapcons2 Z mapnil2) zA zJ Zp Z Z Z Z Z hS146 ?_)))
       intro W200 b201 hS202
       let B1:Res:=.row (some ⟨b201,0,none⟩) 1 3 1 (List.flatMap KL.encI [x180.Bib])
       have hS204:St ⟨w,[],φ⟩ φ144 [B1,B0,.row A126 c127 3 1 (List.flatMap KL.encI l125)] W200:=hS202
       refine bnK hm182 fun x205 h206 hm207=>Zu (j:=2) (enc:=KL.encI) (xs:=l125) (ys:=[x180.Bib]) (zs:=x205) rfl rfl rfl rfl rfl Zc info3 rfl rfl rfl rfl rfl rfl hS204 rfl rfl rfl (hS204.srcR (j:=0) rfl (by decide) (flatMap_len (f:=KL.encI) (sz:=1) (fun _=>rfl) [x180.Bib])) (fun _=>rfl) (fun _=>rfl) h206 rfl ?_
       intro A208 c209 W210 hS211
       have hS212:St ⟨w,[],φ⟩ φ144 [B1,B0,.row A208 c209 3 1 (List.flatMap KL.encI x205)] W210:=hS211
       refine oA Z Z (zp (zh (zH (rR fL2 Z (oR Z (fun _=>zz (zY Z fi143 Z) (congrArg (Value.int .i64) hi154.out)) (oM Z Z (zp ?_)))))))
       cases hm207
       exact zH ⟨rfl,⟨φ144,A208,c209,rfl,f147,f148,f149,rfl,f151,f152,le145,(hS212.pick [1,2] _ (by decide) rfl)⟩⟩
      ·intro c178 hm216
       refine cF Z c178 (ZU (zh (zH (rR fL2 Z (oR Z (fun _=>zz (zY Z fi143 Z) (congrArg (Value.int .i64) hi154.out)) (oM Z Z (zp ?_)))))))
       cases hm216
       exact zH ⟨Z,⟨φ144,A126,c127,Z,f147,f148,f149,f150,f151,f152,le145,hS146⟩⟩
     ·intro c169 hm220
      refine oF Z c169 (oF Z c169 (oF Z c169 (oF Z c169 (oF Z c169 (oF Z c169 (oR Z (fun _=>zl Z (zX c169.out) Z) (eN (zr Z (ZU (zh (zH (rR fL2 Z (oR Z (fun _=>zz (zY Z fi143 Z) (congrArg (Value.int .i64) hi154.out)) (oM Z Z (zp ?_)))))))))))))))
      cases hm220
      exact zH ⟨Z,⟨φ144,A126,c127,Z,f147,f148,f149,f150,f151,f152,le145,hS146⟩⟩
    ·rintro σ224 W225 ⟨φ233,A231,c232,fi227,f236,f237,f238,f239,f240,f241,le234,hS235⟩
     have c242:Hid (¬ ((↑(((↑x5.length:Int):Int) - 0).toNat:Int) < (↑x5.length:Int))):=zG (lp_end0)
     refine sR fL1 Z (oR Z (fun _=>zW Z fi227 f241) (eN (zE (cF Z c242 (ZG (ze (ze (zw (zH (zE (sR fL3 Z (oM Z f239 (oR Z (fun _=>zV Z Z zA) (oR Z (fun _=>Runs.eql Z Z Z) (eN (ifc hm130 ?_ ?_))))))))))))))))
     ·intro c243 hm244
      refine cT Z c243 (sR fL3 Z (oA Z Z (oA Z Z (oA Z Z (eN (zO (zB ?_)))))))
      have hS245:=hS235.nilrow 3 1
      cases hm244
      exact ⟨rfl,_,(res3 rfl rfl rfl),φ233,_,(hS245.pick [0] _ (by decide) rfl),none,0,rfl,rfl⟩
     ·intro c243 hm247
      refine cF Z c243 (kN (sR (.fl 0 (.fx 1 (.nil) .stop)) Z (oM Z f239 (bnK hm247 fun x248 h249 hm250=>?_))))
      have hS251:St ⟨w,[],φ⟩ φ233 [.row A231 c232 3 1 (List.flatMap KL.encI y134),B0] W225:=hS235.pick [1,0] _ (by decide) rfl
      refine zU 1 Z Z Z Z (zP Z Z Tryz.call127 (zD Z zZ) Z) hS251 (fun hs=>w_slices_Sort_int_int y134 A231 c232 W225 φ233 hs h249) (.inl Z) ?_
      rintro φ252 L253 v254 W255 le256 hS257 ⟨rfl,rfl,h258⟩
      have hS259:St ⟨w,[],φ⟩ φ252 [.row A231 c232 3 1 (List.flatMap KL.encI x248),B0] W255:=hS257
      refine eN (sR fL5 rfl (zj rfl rfl rfl rfl rfl (Eq.trans (b:=(.slice A231 y134.length c232:Value)) (c:=(.slice A231 x248.length c232:Value)) f239 (by rw [h258])) (zj rfl rfl rfl rfl rfl f238 (OKS.ra rfl rfl rfl rfl rfl rfl (OKS.ra rfl rfl rfl rfl rfl rfl (OKS.ra rfl rfl rfl rfl rfl rfl (eN (zO ?_))))))))
      cases hm250
      exact ⟨rfl,_,(res3 rfl rfl rfl),φ252,_,(hS259.pick [0] _ (by decide) rfl),A231,c232,rfl,rfl⟩
  ·intro c33 hm260
   refine zn (congrArg (fun b=>Value.bool (!b)) (Bool.eq_false_iff.2 c33.out)) (sR fL3 Z (oA Z Z (oA Z Z (oA Z Z (eN (zO (zI (zB ?_))))))))
   have hS261:=hS32.nilrow 3 1
   cases hm260
   exact ⟨rfl,_,(res3 rfl rfl rfl),φ26,_,(hS261.pick [0] _ (by decide) rfl),none,0,rfl,rfl⟩
 ·intro c21 hm263
  refine cT Z c21 (sR fL4 Z (oM Z Z (oA Z Z (oA Z Z (oA Z Z (eN (zO (zI (zB ?_)))))))))
  have hS264:=hS20.nilrow 3 1
  cases hm263
  exact ⟨rfl,_,(res3 rfl rfl rfl),φ9,_,(hS264.pick [0] _ (by decide) rfl),none,0,rfl,rfl⟩
theorem w_slices_Index_int_int (p0:List Int) (pA0:Option Addr) (pc0:Nat) (p1:Int) (w:World) (φ:PHeap) (hS:St0 w φ []) (ha0:Sl φ 1 pA0 pc0 p0.length (List.flatMap KL.encI p0)) {r:Int} (hm:m_slices_Index_int_int p0 p1=some r):Gv Tryz.prog 128 [.slice pA0 p0.length pc0,.int .i64 p1] w (RetS w [] φ (fun φ_ L_ v=>v=.int .i64 r∧L_=[])):=by
 unfold m_slices_Index_int_int at hm
 refine Gv.of Tryz.func128 Z Tryz.ntmps128 Tryz.results128 Z (sR fL1 Z (oA Z Z (eN (zE (sR fL3 Z (oM Z Z (oR Z (fun _=>zV Z Z zA) (oM Z Z (eN (zS ?_))))))))))
 have q:=jn_some hm
 obtain ⟨r3,hX4⟩:=q
 have q:=forR_le hX4
 obtain ⟨hle5,hf6⟩:=q
 replace hle5:=zG hle5
 refine Zx (fun k2 _ σ_ w_=>∃ (φ_:PHeap),σ_ 8=.int .i64 (↑k2:Int)∧σ_ 0=.slice pA0 p0.length pc0∧σ_ 1=.int .i64 p1∧σ_ 7=.int .i64 (↑p0.length:Int)∧PHeap.Le φ φ_∧St ⟨w,[],φ⟩ φ_ [] w_) hf6 ?_ ?_ ?_
 ·exact ⟨φ,Z,Z,Z,Z,(zf _),hS⟩
 ·rintro k2 ⟨⟩ xx9 σ7 W8 hk12 ⟨φ14,fi13,f17,f18,f19,le15,hS16⟩ hx10 hb11
  try dsimp only at hx10
  have c20:Hid ((↑k2:Int) < (↑p0.length:Int)):=zG (lp_lt0 hk12)
  replace hk12:=zG hk12
  have hi21:Hid (w64 ((↑k2:Int) + 1)=(↑(k2 + 1):Int)):=zG (by have h1:=hle5.out;have h2:=c20.out;rw [w64_in] <;> omega)
  refine sR fL1 Z (oR Z (fun _=>zW Z fi13 f19) (eN (zE (cT Z c20 (kN (zE (zS (sR fL2 Z (oM Z fi13 (oA Z Z (eN (sR fL6 Z (oM Z f18 (oM Z f17 (oM Z Z (bnK hx10 fun x22 h23 hm24=>?_))))))))))))))))
  have h25:=ha0.le le15
  have q:=h25.el (fun _=>rfl) (idx_get h23)
  obtain ⟨b26,off27,hA28,hC29⟩:=q
  refine oR Z (fun _=>zu Z Z hA28 Z zA zJ (idx_lt h23)) (oL Z (hS16.ldC (f:=0) hC29 (v:=.int .i64 x22) Z Z zR Z) (oR Z (fun _=>Runs.eql Z Z Z) (eN (ifc hm24 ?_ ?_))))
  ·intro c30 hm31
   refine cT Z c30 (sR fL2 Z (oM Z Z (oA Z Z (eN (zO (zI (zB ?_)))))))
   have q:=esc_spec hm31
   obtain ⟨v32,hm33,e34⟩:=q
   obtain rfl:=jn_inr hm hX4 (hb11 v32 e34)
   refine zB (zI (zB ?_))
   cases hm33
   exact ⟨Z,_,(zq Z),φ14,_,hS16,Z,Z⟩
  ·intro c30 hm35
   refine cF Z c30 (ZU (zh (zH (rR fL2 Z (oR Z (fun _=>zz (zY Z fi13 Z) (congrArg (Value.int .i64) hi21.out)) (oM Z Z (zp ?_)))))))
   obtain rfl:=Option.some.inj hm35
   exact zH ⟨Z,_,Z,⟨φ14,Z,f17,f18,f19,le15,hS16⟩⟩
 ·rintro ⟨⟩ σ36 W37 ⟨φ40,fi39,f43,f44,f45,le41,hS42⟩ hb38
  have hm46:=jn_inl hm hX4 hb38
  try dsimp only at hm46
  have c47:Hid (¬ ((↑(((↑p0.length:Int):Int) - 0).toNat:Int) < (↑p0.length:Int))):=zG (lp_end0)
  refine sR fL1 Z (oR Z (fun _=>zW Z fi39 f45) (eN (zE (cF Z c47 (ZG (ze (ze (zw (zH (sR fL1 Z (oA Z Z (eN (zO ?_)))))))))))))
  cases hm46
  exact ⟨Z,_,(zq Z),φ40,_,hS42,Z,Z⟩
theorem w_slices_Contains_int_int (p0:List Int) (pA0:Option Addr) (pc0:Nat) (p1:Int) (w:World) (φ:PHeap) (hS:St0 w φ []) (ha0:Sl φ 1 pA0 pc0 p0.length (List.flatMap KL.encI p0)) {r:Bool} (hm:m_slices_Contains_int_int p0 p1=some r):Gv Tryz.prog 26 [.slice pA0 p0.length pc0,.int .i64 p1] w (RetS w [] φ (fun φ_ L_ v=>v=.bool r∧L_=[])):=by
 unfold m_slices_Contains_int_int at hm
 refine Gv.of Tryz.func26 Z Tryz.ntmps26 Tryz.results26 Z (sR fL1 Z (oA Z Z (eN (sR (.fl 0 (.fl 1 (.fx 2 (.fl 3 (.fl 4 (.nil))) .stop))) Z (oM Z Z (oM Z Z (bnK hm fun x1 h2 hm3=>zU 0 Z Z Z Z (zP Z Z Tryz.call128 (zD Z (zD Z zZ)) Z) hS (fun hs=>w_slices_Index_int_int p0 pA0 pc0 p1 w φ hs ha0 h2) (.inr Z) ?_)))))))
 rintro φ4 L5 v6 W7 le8 hS9 ⟨rfl,rfl⟩
 have hS10:St ⟨w,[],φ⟩ φ4 [] W7:=hS9
 refine oR Z (fun _=>Runs.geq Z Z Z) (oA Z Z (eN (zO ?_)))
 cases hm3
 exact ⟨Z,_,(zq Z),φ4,_,hS10,Z,Z⟩
theorem w_klisterlaw08_awake (w:World) (φ:PHeap) (hS:St0 w φ []) {r:Bool} (hm:m_klisterlaw08_awake=some r):Gv Tryz.prog 27 [] w (RetS w [] φ (fun φ_ L_ v=>v=.bool r∧L_=[])):=by
  cases hm
  refine (xr27 w).mono ?_
  rintro v w' ⟨rfl,k⟩
  exact ⟨φ,[],hS.grow k,Z,Z⟩
theorem w_klisterlaw08_RelayExact (p0:List Int) (pA0:Option Addr) (pc0:Nat) (p1:Int) (w:World) (φ:PHeap) (hS:St0 w φ []) (ha0:Sl φ 1 pA0 pc0 p0.length (List.flatMap KL.encB8 p0)) {r:Bool} (hm:m_klisterlaw08_RelayExact p0 p1=some r):Gv Tryz.prog 3 [.slice pA0 p0.length pc0,.int .i64 p1] w (RetS w [] φ (fun φ_ L_ v=>v=.bool r∧L_=[])):=by
 unfold m_klisterlaw08_RelayExact at hm
 refine Gv.of Tryz.func3 Z Tryz.ntmps3 Tryz.results3 Z (sR fL1 Z (oA Z Z (eN (sR (.fl 0 (.fx 1 (.fx 2 (.fx 3 (.fx 4 (.nil) .stop) .stop) .stop) .stop)) Z (oM Z Z (bnK hm fun x1 h2 hm3=>zU 0 Z Z Z Z (zP Z Z Tryz.call16 (zD Z zZ) Z) hS (fun hs=>w_klisterkit_Of p0 pA0 pc0 w φ hs ha0 h2) (.inr Z) ?_))))))
 rintro φ4 L5 v6 W7 le8 hS9 ⟨b10,A11,c12,rfl,rfl,h14⟩
 have hS15:St ⟨w,[],φ⟩ φ4 [.blk b10 194 [.slice A11 x1.bytes.length c12,.int .i64 x1.next,.int .u32 x1.state]] W7:=hS9
 have q:=bnd hm3
 obtain ⟨⟨x16,x17⟩,h18,hm19⟩:=q
 try dsimp only at hm19
 refine zU 1 Z Z Z Z (zP Z Z Tryz.call15 (zD Z (zD Z (zD Z zZ))) Z) hS15 (fun hs=>w_klisterlaw08_Made x1 b10 A11 c12 8 4 W7 φ4 hs h14 h18) (.inl Z) ?_
 rintro φ20 L21 v22 W23 le24 hS25 ⟨A26,c27,A28,c29,c30,A31,c32,rfl,rfl,h35,h36⟩
 let B0:Res:=.blk b10 194 [.slice A31 x17.bytes.length c32,.int .i64 x17.next,.int .u32 x17.state]
 let B1:Res:=.row A26 c27 3 1 (List.flatMap KL.encI x16.Rules.Classes)
 have hS37:St ⟨w,[],φ⟩ φ20 [B1,.row A28 c29 44 3 c30,B0] W23:=hS25
 refine ZK (cs:=[.slice none 0 0,.int .i64 0,.int .i64 0,.int .i64 0,.int .i64 0,.int .i64 0,.int .i64 0,.slice none 0 0]) Z Z Z Z Z Tryz.zeroValue28 Z hS37 ?_
 intro W38 b39 hS40
 refine zx (j:=0) (vs:=[.slice A26 x16.Rules.Classes.length c27,.int .i64 x16.Rules.Each,.int .i64 x16.Rules.Laps,.int .i64 x16.Rules.Spare,.int .i64 x16.Rules.Loop,.int .i64 x16.Rules.Unused,.int .i64 x16.Start,.slice A28 x16.Teams.length c29]) Z Z Z Z hS40 Z Z Z Z zy (zC Z) Z Z Z ?_
 intro W42 hS43
 let B2:Res:=.blk b39 28 [.slice A26 x16.Rules.Classes.length c27,.int .i64 x16.Rules.Each,.int .i64 x16.Rules.Laps,.int .i64 x16.Rules.Spare,.int .i64 x16.Rules.Loop,.int .i64 x16.Rules.Unused,.int .i64 x16.Start,.slice A28 x16.Teams.length c29]
 have hS44:St ⟨w,[],φ⟩ φ20 [B2,B1,.row A28 c29 44 3 c30,B0] W42:=hS43
 refine eN (sR (.fl 0 (.fx 1 (fC2_4 (.fx 5 (.fx 6 (.fl 7 (.nil)) .stop) .stop)) .stop)) Z (oL Z (hS44.ldBA (j:=0) Z Z Z ZW zy (vs:=[.slice A26 x16.Rules.Classes.length c27,.int .i64 x16.Rules.Each,.int .i64 x16.Rules.Laps,.int .i64 x16.Rules.Spare,.int .i64 x16.Rules.Loop,.int .i64 x16.Rules.Unused,.int .i64 x16.Start,.slice A28 x16.Teams.length c29]) Z Z) ?_))
 have q:=hS44.freezeR (k:=1) (n:=x16.Rules.Classes.length) rfl (flatMap_len (f:=KL.encI) (sz:=1) (fun _=>rfl) x16.Rules.Classes) (by decide)
 obtain ⟨φ45,le46,hs47,hS48⟩:=q
 have hS49:St ⟨w,[],φ⟩ φ45 [B2,.row A28 c29 44 3 c30,B0] W42:=hS48
 have h54:=h35.le le46
 have q:=hS49.freezeRR (R:=rl44) (k:=1) rfl h54 rfl (by decide)
 obtain ⟨φ50,le51,hs52,hS53⟩:=q
 have hS55:St ⟨w,[],φ⟩ φ50 [B2,B0] W42:=hS53
 have h56:=hs47.le le51
 have q:=bnd hm19
 obtain ⟨⟨x57,x58⟩,h59,hm60⟩:=q
 try dsimp only at hm60
 refine zU 0 Z Z Z Z (zP Z Z Tryz.call17 (zD Z zZ) Z) hS55 (fun hs=>w_relay_Laps x16 A26 c27 A28 c29 W42 φ50 hs h56 hs52 h59) (.inr Z) ?_
 rintro φ61 L62 v63 W64 le65 hS66 ⟨A67,c68,A69,c70,c71,rfl,rfl,h74⟩
 let B3:Res:=.row A67 c68 3 1 (List.flatMap KL.encI x57.Bibs)
 let B4:Res:=.row A69 c70 23 1 c71
 have hS75:St ⟨w,[],φ⟩ φ61 [B3,B4,B2,B0] W64:=hS66
 refine oM Z Z (oR Z (fun _=>ZM Z Z (v:=.agg #[.int .i64 x57.Laps,.slice A67 x57.Bibs.length c68,.slice A69 x57.Times.length c70]) Z) (oR Z (fun _=>ZM Z Z (v:=.int .i64 x58) Z) (ZK (cs:=[.int .i64 0,.slice none 0 0,.slice none 0 0]) Z Z Z Z Z yC Z hS75 ?_)))
 intro W76 b77 hS78
 refine zx (j:=0) (vs:=[.int .i64 x57.Laps,.slice A67 x57.Bibs.length c68,.slice A69 x57.Times.length c70]) Z Z Z Z hS78 Z Z Z Z Zn (zC Z) Z Z Z ?_
 intro W80 hS81
 let B5:Res:=.blk b77 34 [.int .i64 x57.Laps,.slice A67 x57.Bibs.length c68,.slice A69 x57.Times.length c70]
 have hS82:St ⟨w,[],φ⟩ φ61 [B5,B3,B4,B2,B0] W80:=hS81
 refine oA Z Z (eN (sR (.fl 0 (.fx 1 (fC2_6 (.nil)) .stop)) Z (oL Z (hS82.ldBA (j:=3) Z Z Z ZW zy (vs:=[.slice A26 x16.Rules.Classes.length c27,.int .i64 x16.Rules.Each,.int .i64 x16.Rules.Laps,.int .i64 x16.Rules.Spare,.int .i64 x16.Rules.Loop,.int .i64 x16.Rules.Unused,.int .i64 x16.Start,.slice A28 x16.Teams.length c29]) Z Z) ?_)))
 have h83:=h56.le le65
 have h84:=hs52.le le65
 have q:=bnd hm60
 obtain ⟨⟨x85,x86⟩,h87,hm88⟩:=q
 try dsimp only at hm88
 refine zU 0 Z Z Z Z (zP Z Z Tryz.call18 (zD Z zZ) Z) hS82 (fun hs=>w_relay_Times x16 A26 c27 A28 c29 W80 φ61 hs h83 h84 h87) (.inr Z) ?_
 rintro φ89 L90 v91 W92 le93 hS94 ⟨A95,c96,c97,rfl,rfl,h99⟩
 let B6:Res:=.row A95 c96 23 1 c97
 have hS100:St ⟨w,[],φ⟩ φ89 [B6,B5,B3,B4,B2,B0] W92:=hS94
 refine oM Z Z (oR Z (fun _=>ZM Z Z (v:=.slice A95 x85.length c96) Z) (oR Z (fun _=>ZM Z Z (v:=.int .i64 x86) Z) (oA Z Z (oA Z Z (eN (sR (.fl 0 (.fx 1 (fC2_6 (.nil)) .stop)) Z (oL Z (hS100.ldBA (j:=4) Z Z Z ZW zy (vs:=[.slice A26 x16.Rules.Classes.length c27,.int .i64 x16.Rules.Each,.int .i64 x16.Rules.Laps,.int .i64 x16.Rules.Spare,.int .i64 x16.Rules.Loop,.int .i64 x16.Rules.Unused,.int .i64 x16.Start,.slice A28 x16.Teams.length c29]) Z Z) ?_)))))))
 have h101:=h83.le le93
 have h102:=h84.le le93
 have q:=bnd hm88
 obtain ⟨⟨x103,x104⟩,h105,hm106⟩:=q
 try dsimp only at hm106
 refine zU 0 Z Z Z Z (zP Z Z Tryz.call19 (zD Z zZ) Z) hS100 (fun hs=>w_relay_Legs x16 A26 c27 A28 c29 W92 φ89 hs h101 h102 h105) (.inr Z) ?_
 rintro φ107 L108 v109 W110 le111 hS112 ⟨A113,c114,c115,rfl,rfl,h117⟩
 let B7:Res:=.row A113 c114 23 1 c115
 have hS118:St ⟨w,[],φ⟩ φ107 [B7,B6,B5,B3,B4,B2,B0] W110:=hS112
 refine oM Z Z (oR Z (fun _=>ZM Z Z (v:=.slice A113 x103.length c114) Z) (oR Z (fun _=>ZM Z Z (v:=.int .i64 x104) Z) (oA Z Z (oA Z Z (eN (zE (sR (fC0_11 (.fx 12 (fC13_54 (.fx 55 (.fl 56 (.fl 57 (.nil))) .stop)) .stop)) Z (oM Z Z (oR Z (fun _=>ZI Z Z Z) (oM Z Z (ifc hm106 ?_ ?_)))))))))))
 ·intro c119 hm120
  refine zj Z Z Z (zK Z Z (zX (fun h=>h c119.out))) Z Z (zi Z Z Z (zK Z Z (zX (fun h=>h c119.out))) (fun _=>ZI Z Z Z) (oR Z (fun _=>zl Z (zX (fun h=>h c119.out)) Z) (oM Z Z (ifc hm120 ?_ ?_))))
  ·intro c121 hm122
   refine zj Z Z Z (zK Z Z (zX (fun h=>h c121.out))) Z Z (zi Z Z Z (zK Z Z (zX (fun h=>h c121.out))) (fun _=>ZI Z Z Z) (oR Z (fun _=>zl Z (zX (fun h=>h c121.out)) Z) (oM Z Z (ifc hm122 ?_ ?_))))
   ·intro c123 hm124
    refine ZD Z Z Z (zK Z Z (zX (fun h=>h c123.out))) (hS118.ldBA (j:=5) Z Z Z ZW zy (vs:=[.slice A26 x16.Rules.Classes.length c27,.int .i64 x16.Rules.Each,.int .i64 x16.Rules.Laps,.int .i64 x16.Rules.Spare,.int .i64 x16.Rules.Loop,.int .i64 x16.Rules.Unused,.int .i64 x16.Start,.slice A28 x16.Teams.length c29]) Z Z) Z ?_
    have h125:=h101.le le111
    have h126:=h102.le le111
    refine bnK hm124 fun x127 h128 hm129=>zU 0 Z Z Z (zK Z Z (zX (fun h=>h c123.out))) (zP Z Z Tryz.call20 (zD Z zZ) Z) hS118 (fun hs=>w_relay_Check x16 A26 c27 A28 c29 W110 φ107 hs h125 h126 h128) (.inr Z) ?_
    rintro φ130 L131 v132 W133 le134 hS135 ⟨rfl,rfl⟩
    have hS136:St ⟨w,[],φ⟩ φ130 [B7,B6,B5,B3,B4,B2,B0] W133:=hS135
    refine zi Z Z Z (zK Z Z (zX (fun h=>h c123.out))) (fun _=>ZI Z Z Z) (oR Z (fun _=>zl Z (zX (fun h=>h c123.out)) Z) (oM Z Z (ifc hm129 ?_ ?_)))
    ·intro c137 hm138
     refine zi Z Z Z (zK Z Z (zX (fun h=>h c137.out))) (fun _=>zF Z Z zt Z ZT) (ZD Z Z Z (zK Z Z (zX (fun h=>h c137.out))) (hS136.ldB (j:=2) Z Z Z Zi (v:=.slice A69 x57.Times.length c70) Z) Z (zi Z Z Z (zK Z Z (zX (fun h=>h c137.out))) (fun _=>zV Z Z zQ) (zi Z Z Z (zK Z Z (zX (fun h=>h c137.out))) (fun _=>zF Z Z zL Z ZH) (ZD Z Z Z (zK Z Z (zX (fun h=>h c137.out))) (hS136.ldB (j:=5) Z Z Z ZO (v:=.slice A28 x16.Teams.length c29) Z) Z (zi Z Z Z (zK Z Z (zX (fun h=>h c137.out))) (fun _=>zV Z Z zm) (zi Z Z Z (zK Z Z (zX (fun h=>h c137.out))) (fun _=>ZI Z Z Z) (oR Z (fun _=>zl Z (zX (fun h=>h c137.out)) Z) (oM Z Z (ifc hm138 ?_ ?_)))))))))
     ·intro c139 hm140
      refine zj Z Z Z (zK Z Z (zX (fun h=>h c139.out))) Z Z (zi Z Z Z (zK Z Z (zX (fun h=>h c139.out))) (fun _=>zV Z Z zQ) (zi Z Z Z (zK Z Z (zX (fun h=>h c139.out))) (fun _=>zF Z Z zL Z ZH) (ZD Z Z Z (zK Z Z (zX (fun h=>h c139.out))) (hS136.ldB (j:=5) Z Z Z ZO (v:=.slice A28 x16.Teams.length c29) Z) Z (zi Z Z Z (zK Z Z (zX (fun h=>h c139.out))) (fun _=>zV Z Z zm) (zi Z Z Z (zK Z Z (zX (fun h=>h c139.out))) (fun _=>ZI Z Z Z) (oR Z (fun _=>zl Z (zX (fun h=>h c139.out)) Z) (oM Z Z (ifc hm140 ?_ ?_))))))))
      ·intro c141 hm142
       refine zj Z Z Z (zK Z Z (zX (fun h=>h c141.out))) Z Z (zi Z Z Z (zK Z Z (zX (fun h=>h c141.out))) (fun _=>zV Z Z zQ) (zi Z Z Z (zK Z Z (zX (fun h=>h c141.out))) (fun _=>zF Z Z zL Z ZH) (ZD Z Z Z (zK Z Z (zX (fun h=>h c141.out))) (hS136.ldB (j:=5) Z Z Z ZO (v:=.slice A28 x16.Teams.length c29) Z) Z (zi Z Z Z (zK Z Z (zX (fun h=>h c141.out))) (fun _=>zV Z Z zm) (zi Z Z Z (zK Z Z (zX (fun h=>h c141.out))) (fun _=>ZI Z Z Z) (oR Z (fun _=>zl Z (zX (fun h=>h c141.out)) Z) (oM Z Z (ifc hm142 ?_ ?_))))))))
       ·intro c143 hm144
        refine zi Z Z Z (zK Z Z (zX (fun h=>h c143.out))) (fun _=>zF Z Z zt Z zJ) (ZD Z Z Z (zK Z Z (zX (fun h=>h c143.out))) (hS136.ldB (j:=2) Z Z Z zR (v:=.int .i64 x57.Laps) Z) Z (zi Z Z Z (zK Z Z (zX (fun h=>h c143.out))) (fun _=>zF Z Z zL Z ZE) (zi Z Z Z (zK Z Z (zX (fun h=>h c143.out))) (fun _=>zF Z Z zg Z zN) (ZD Z Z Z (zK Z Z (zX (fun h=>h c143.out))) (hS136.ldB (j:=5) Z Z Z zd (v:=.slice A26 x16.Rules.Classes.length c27) Z) Z (zi Z Z Z (zK Z Z (zX (fun h=>h c143.out))) (fun _=>zV Z Z zA) (zi Z Z Z (zK Z Z (zX (fun h=>h c143.out))) (fun _=>zF Z Z zL Z ZE) (zi Z Z Z (zK Z Z (zX (fun h=>h c143.out))) (fun _=>zF Z Z zg Z zJ) (ZD Z Z Z (zK Z Z (zX (fun h=>h c143.out))) (hS136.ldB (j:=5) Z Z Z zR (v:=.int .i64 x16.Rules.Laps) Z) Z (zi Z Z Z (zK Z Z (zX (fun h=>h c143.out))) (fun _=>Runs.mulw Z Z Z) (zi Z Z Z (zK Z Z (zX (fun h=>h c143.out))) (fun _=>ZI Z Z Z) (oR Z (fun _=>zl Z (zX (fun h=>h c143.out)) Z) (oM Z Z (ifc hm144 ?_ ?_)))))))))))))
        ·intro c145 hm146
         refine ZD Z Z Z (zK Z Z (zX (fun h=>h c145.out))) (hS136.ldBA (j:=2) Z Z Z Tryz.isAgg34 Zn (vs:=[.int .i64 x57.Laps,.slice A67 x57.Bibs.length c68,.slice A69 x57.Times.length c70]) Z Z) Z ?_
         have q:=hS136.freezeR (k:=3) (n:=x57.Bibs.length) rfl (flatMap_len (f:=KL.encI) (sz:=1) (fun _=>rfl) x57.Bibs) (by decide)
         obtain ⟨φ147,le148,hs149,hS150⟩:=q
         have hS151:St ⟨w,[],φ⟩ φ147 [B7,B6,B5,B4,B2,B0] W133:=hS150
         have h156:=h74.le le93
         have h157:=h156.le le111
         have h158:=h157.le le134
         have h159:=h158.le le148
         have q:=hS151.freezeRR (R:=rl23) (k:=3) rfl h159 rfl (by decide)
         obtain ⟨φ152,le153,hs154,hS155⟩:=q
         have hS160:St ⟨w,[],φ⟩ φ152 [B7,B6,B5,B2,B0] W133:=hS155
         have h161:=hs149.le le153
         refine bnK hm146 fun x162 h163 hm164=>zU 0 Z Z Z (zK Z Z (zX (fun h=>h c145.out))) (zP Z Z Tryz.call21 (zD Z zZ) Z) hS160 (fun hs=>w_start_CheckRace x57 A67 c68 A69 c70 W133 φ152 hs h161 hs154 h163) (.inr Z) ?_
         rintro φ165 L166 v167 W168 le169 hS170 ⟨rfl,rfl⟩
         have hS171:St ⟨w,[],φ⟩ φ165 [B7,B6,B5,B2,B0] W168:=hS170
         refine zi Z Z Z (zK Z Z (zX (fun h=>h c145.out))) (fun _=>ZI Z Z Z) (oR Z (fun _=>zl Z (zX (fun h=>h c145.out)) Z) (eN (ifc hm164 ?_ ?_)))
         ·intro c172 hm173
          refine zr (zX (fun h=>h c172.out)) (kN (zE (zE (Zj fun σ174 hσ175=>?_))))
          have f176:σ174 1=.int .i64 p1:=(hσ175 1).trans rfl
          have f177:σ174 5=.pointer (some ⟨b39,0,none⟩):=(hσ175 5).trans rfl
          have f178:σ174 6=.pointer (some ⟨b77,0,none⟩):=(hσ175 6).trans rfl
          have f179:σ174 8=.slice A95 x85.length c96:=(hσ175 8).trans rfl
          have f180:σ174 10=.slice A113 x103.length c114:=(hσ175 10).trans rfl
          clear hσ175
          refine rR fL4 Z (oR Z (fun _=>zF Z f177 zL Z ZH) (oL Z (hS171.ldB (j:=3) Z Z Z ZO (v:=.slice A28 x16.Teams.length c29) Z) (oR Z (fun _=>zV Z Z zm) (oM Z Z (eN (zS ?_))))))
          have h186:=h99.le le111
          have h187:=h186.le le134
          have h188:=h187.le le148
          have h189:=h188.le le153
          have h190:=h189.le le169
          have q:=hS171.freezeRR (R:=rl23) (k:=1) rfl h190 rfl (by decide)
          obtain ⟨φ182,le183,hs184,hS185⟩:=q
          have hS191:St ⟨w,[],φ⟩ φ182 [B7,B5,B2,B0] W168:=hS185
          have h197:=h117.le le134
          have h198:=h197.le le148
          have h199:=h198.le le153
          have h200:=h199.le le169
          have h201:=h200.le le183
          have q:=hS191.freezeRR (R:=rl23) (k:=0) rfl h201 rfl (by decide)
          obtain ⟨φ193,le194,hs195,hS196⟩:=q
          have hS202:St ⟨w,[],φ⟩ φ193 [B5,B2,B0] W168:=hS196
          have q:=jn_some hm173
          obtain ⟨r205,hX206⟩:=q
          have q:=forR_le hX206
          obtain ⟨hle207,hf208⟩:=q
          replace hle207:=zG hle207
          refine Zx (fun k204 _ σ_ w_=>∃ (φ_:PHeap),σ_ 112=.int .i64 (↑k204:Int)∧σ_ 1=.int .i64 p1∧σ_ 5=.pointer (some ⟨b39,0,none⟩)∧σ_ 6=.pointer (some ⟨b77,0,none⟩)∧σ_ 8=.slice A95 x85.length c96∧σ_ 10=.slice A113 x103.length c114∧σ_ 110=.slice A28 x16.Teams.length c29∧σ_ 111=.int .i64 (↑x16.Teams.length:Int)∧PHeap.Le φ193 φ_∧St ⟨w,[],φ⟩ φ_ [B5,B2,B0] w_) hf208 ?_ ?_ ?_
          ·exact ⟨φ193,Z,f176,f177,f178,f179,f180,Z,Z,(zf _),hS202⟩
          ·rintro k204 ⟨⟩ xx211 σ209 W210 hk214 ⟨φ216,fi215,f219,f220,f221,f222,f223,f224,f225,le217,hS218⟩ hx212 hb213
           try dsimp only at hx212
           have c226:Hid ((↑k204:Int) < (↑x16.Teams.length:Int)):=zG (lp_lt0 hk214)
           replace hk214:=zG hk214
           have hi227:Hid (w64 ((↑k204:Int) + 1)=(↑(k204 + 1):Int)):=zG (by have h1:=hle207.out;have h2:=c226.out;rw [w64_in] <;> omega)
           refine sR fL1 Z (oR Z (fun _=>zW Z fi215 f225) (eN (zE (cT Z c226 (kN (zE (zS (sR (fC0_2 (.fx 3 (.fl 4 (.fx 5 (.nil) .stop)) .stop)) Z (oM Z fi215 (bnK hx212 fun x228 h229 hm230=>?_))))))))))
           have h231:=h126.le le134
           have h232:=h231.le le148
           have h233:=h232.le le153
           have h234:=h233.le le169
           have h235:=h234.le le183
           have h236:=h235.le le194
           have h237:=h236.le le217
           have q:=h237.el (idx_get h229)
           obtain ⟨b238,off239,vs242,hA240,hC241,hr243⟩:=q
           obtain ⟨pA244,pc245,pA246,pc247,rfl,h248,h249⟩:=hr243
           replace hC241:Cl φ216 b238 (off239 + k204 * 3) [.int .i64 x228.Bib,.slice pA244 x228.Classes.length pc245,.slice pA246 x228.Legs.length pc247]:=hC241
           refine oR Z (fun _=>zu Z f224 hA240 fi215 zm ZB (idx_lt h229)) (oL Z (hS218.ldCA (f:=0) hC241 Z Z yA ZB (us:=[.int .i64 x228.Bib,.slice pA244 x228.Classes.length pc245,.slice pA246 x228.Legs.length pc247]) Z Z) (ZK (cs:=[.int .i64 0,.slice none 0 0,.slice none 0 0]) Z Z Z Z Z Zk Z hS218 ?_))
           intro W250 b251 hS252
           refine oA Z Z (zx (j:=0) (vs:=[.int .i64 x228.Bib,.slice pA244 x228.Classes.length pc245,.slice pA246 x228.Legs.length pc247]) Z Z Z Z hS252 Z Z Z Z ZB (zC Z) Z Z Z ?_)
           intro W254 hS255
           let B8:Res:=.blk b251 44 [.int .i64 x228.Bib,.slice pA244 x228.Classes.length pc245,.slice pA246 x228.Legs.length pc247]
           have hS256:St ⟨w,[],φ⟩ φ216 [B8,B5,B2,B0] W254:=hS255
           refine eN (zE (Zh ZY [3,1,3,1,3,3,3] fL7 (by kernel_rfl) ?_))
           have hS257:=hS256.drew
           generalize hw_W258:({ W254 with drawn:=W254.drawn + 1 }:World)=W258 at hS257 ⊢
           refine oR Z (fun _=>zF Z f220 zL Z zJ) (oL Z (hS257.ldB (j:=2) Z Z Z zR (v:=.int .i64 x16.Start) Z) (oR Z (fun _=>zF Z f220 zL Z zJ) (oL Z (hS257.ldB (j:=2) Z Z Z zR (v:=.int .i64 x16.Start) Z) (oA Z Z (oA Z Z (oA Z Z (eN (sR fL1 Z (oA Z Z (eN (zE (sR fL4 Z (oR Z (fun _=>zF Z Z zk Z ZS) (oL Z (hS257.ldB (j:=0) Z Z Z Zz (v:=.slice pA246 x228.Legs.length pc247) Z) (oR Z (fun _=>zV Z Z ZJ) (oM Z Z (eN (zS ?_))))))))))))))))))
           have q:=jn_some hm230
           obtain ⟨r278,hX279⟩:=q
           have q:=forR_le hX279
           obtain ⟨hle280,hf281⟩:=q
           replace hle280:=zG hle280
           refine Zx (fun k277 (x273,x274,x275,x276) σ_ w_=>∃ (φ_:PHeap),σ_ 124=.int .i64 (↑k277:Int)∧σ_ 1=.int .i64 p1∧σ_ 5=.pointer (some ⟨b39,0,none⟩)∧σ_ 6=.pointer (some ⟨b77,0,none⟩)∧σ_ 8=.slice A95 x85.length c96∧σ_ 10=.slice A113 x103.length c114∧σ_ 12=.int .i64 (↑k204:Int)∧σ_ 13=.pointer (some ⟨b251,0,none⟩)∧σ_ 14=.int .i64 x273∧σ_ 15=.int .i64 x274∧σ_ 16=.int .i64 x275∧σ_ 17=.int .i64 x276∧σ_ 110=.slice A28 x16.Teams.length c29∧σ_ 111=.int .i64 (↑x16.Teams.length:Int)∧σ_ 112=.int .i64 (↑k204:Int)∧σ_ 122=.slice pA246 x228.Legs.length pc247∧σ_ 123=.int .i64 (↑x228.Legs.length:Int)∧PHeap.Le φ216 φ_∧St ⟨w,[],φ⟩ φ_ [B8,B5,B2,B0] w_) hf281 ?_ ?_ ?_
           ·exact ⟨φ216,Z,f219,f220,f221,f222,f223,Z,Z,Z,Z,Z,Z,f224,f225,fi215,Z,Z,(zf _),hS257⟩
           ·rintro k277 ⟨x273,x274,x275,x276⟩ xx284 σ282 W283 hk287 ⟨φ289,fi288,f292,f293,f294,f295,f296,f297,f298,f299,f300,f301,f302,f303,f304,f305,f306,f307,le290,hS291⟩ hx285 hb286
            try dsimp only at hx285
            have c308:Hid ((↑k277:Int) < (↑x228.Legs.length:Int)):=zG (lp_lt0 hk287)
            replace hk287:=zG hk287
            have hi309:Hid (w64 ((↑k277:Int) + 1)=(↑(k277 + 1):Int)):=zG (by have h1:=hle280.out;have h2:=c308.out;rw [w64_in] <;> omega)
            refine sR fL1 Z (oR Z (fun _=>zW Z fi288 f307) (eN (zE (cT Z c308 (kN (zE (zS (sR (.fl 0 (.fl 1 (.fx 2 (.fx 3 (.nil) .stop) .stop))) Z (bnK hx285 fun x310 h311 hm312=>?_)))))))))
            have h313:=h249.le le290
            have q:=h313.el (idx_get h311)
            obtain ⟨b314,off315,vs318,hA316,hC317,hr319⟩:=q
            obtain ⟨pA320,pc321,pA322,pc323,rfl,h324,h325⟩:=hr319
            replace hC317:Cl φ289 b314 (off315 + k277 * 3) [.int .i64 x310.Skier,.slice pA320 x310.Loops.length pc321,.slice pA322 x310.Bouts.length pc323]:=hC317
            refine oR Z (fun _=>zu Z f306 hA316 fi288 ZJ ZF (idx_lt h311)) (oL Z (hS291.ldCA (f:=0) hC317 Z Z yD ZF (us:=[.int .i64 x310.Skier,.slice pA320 x310.Loops.length pc321,.slice pA322 x310.Bouts.length pc323]) Z Z) (ZK (cs:=[.int .i64 0,.slice none 0 0,.slice none 0 0]) Z Z Z Z Z ZR Z hS291 ?_))
            intro W326 b327 hS328
            refine zx (j:=0) (vs:=[.int .i64 x310.Skier,.slice pA320 x310.Loops.length pc321,.slice pA322 x310.Bouts.length pc323]) Z Z Z Z hS328 Z Z Z Z ZF (zC Z) Z Z Z ?_
            intro W330 hS331
            let B9:Res:=.blk b327 47 [.int .i64 x310.Skier,.slice pA320 x310.Loops.length pc321,.slice pA322 x310.Bouts.length pc323]
            have hS332:St ⟨w,[],φ⟩ φ289 [B9,B8,B5,B2,B0] W330:=hS331
            refine eN (zE (sR fL4 Z (oR Z (fun _=>zF Z Z zo Z zN) (oL Z (hS332.ldB (j:=0) Z Z Z zd (v:=.slice pA320 x310.Loops.length pc321) Z) (oR Z (fun _=>zV Z Z zA) (oM Z Z (eN (zS ?_))))))))
            have q:=jn_some hm312
            obtain ⟨r344,hX345⟩:=q
            have q:=forR_le hX345
            obtain ⟨hle346,hf347⟩:=q
            replace hle346:=zG hle346
            refine Zx (fun k343 (x341,x342) σ_ w_=>∃ (φ_:PHeap),σ_ 131=.int .i64 (↑k343:Int)∧σ_ 1=.int .i64 p1∧σ_ 5=.pointer (some ⟨b39,0,none⟩)∧σ_ 6=.pointer (some ⟨b77,0,none⟩)∧σ_ 8=.slice A95 x85.length c96∧σ_ 10=.slice A113 x103.length c114∧σ_ 12=.int .i64 (↑k204:Int)∧σ_ 13=.pointer (some ⟨b251,0,none⟩)∧σ_ 14=.int .i64 x341∧σ_ 15=.int .i64 x342∧σ_ 16=.int .i64 x275∧σ_ 17=.int .i64 x276∧σ_ 19=.pointer (some ⟨b327,0,none⟩)∧σ_ 110=.slice A28 x16.Teams.length c29∧σ_ 111=.int .i64 (↑x16.Teams.length:Int)∧σ_ 112=.int .i64 (↑k204:Int)∧σ_ 122=.slice pA246 x228.Legs.length pc247∧σ_ 123=.int .i64 (↑x228.Legs.length:Int)∧σ_ 124=.int .i64 (↑k277:Int)∧σ_ 129=.slice pA320 x310.Loops.length pc321∧σ_ 130=.int .i64 (↑x310.Loops.length:Int)∧PHeap.Le φ289 φ_∧St ⟨w,[],φ⟩ φ_ [B9,B8,B5,B2,B0] w_) hf347 ?_ ?_ ?_
            ·exact ⟨φ289,Z,f292,f293,f294,f295,f296,f297,f298,f299,f300,f301,f302,Z,f303,f304,f305,f306,f307,fi288,Z,Z,(zf _),hS332⟩
            ·rintro k343 ⟨x341,x342⟩ xx350 σ348 W349 hk353 ⟨φ355,fi354,f358,f359,f360,f361,f362,f363,f364,f365,f366,f367,f368,f369,f370,f371,f372,f373,f374,f375,f376,f377,le356,hS357⟩ hx351 hb352
             try dsimp only at hx351
             have c378:Hid ((↑k343:Int) < (↑x310.Loops.length:Int)):=zG (lp_lt0 hk353)
             replace hk353:=zG hk353
             have hi379:Hid (w64 ((↑k343:Int) + 1)=(↑(k343 + 1):Int)):=zG (by have h1:=hle346.out;have h2:=c378.out;rw [w64_in] <;> omega)
             refine sR fL1 Z (oR Z (fun _=>zW Z fi354 f377) (eN (zE (cT Z c378 (kN (zE (zS (sR fL5 Z (oM Z fi354 (bnK hx351 fun x380 h381 hm382=>?_))))))))))
             have h383:=h324.le le356
             have q:=h383.el (fun _=>rfl) (idx_get h381)
             obtain ⟨b384,off385,hA386,hC387⟩:=q
             refine oR Z (fun _=>zu Z f376 hA386 fi354 zA zJ (idx_lt h381)) (oL Z (hS357.ldC (f:=0) hC387 (v:=.int .i64 x380) Z Z zR Z) (oA Z Z (oA Z Z (eN (zE (sR fL4 Z (oM Z f365 (oM Z Z (oR Z (fun _=>zY Z Z Z) (oA Z Z (eN (sR fL2 Z (oM Z Z (oR Z (fun _=>Zy Z Z Z) (eN (ifc hm382 ?_ ?_))))))))))))))))
             ·intro c388 hm389
              refine cT Z c388 (sR (fC0_5 (.fx 6 (fC7_9 (.fx 10 (.fx 11 (.fl 12 (.nil)) .stop) .stop)) .stop)) Z (oR Z (fun _=>zF Z f369 zo Z Zm) (oL Z (hS357.ldB (j:=0) Z Z Z yG (v:=.slice pA322 x310.Bouts.length pc323) Z) (oM Z Z (oR Z (fun _=>Za Z Z Z) (bnK hm389 fun x390 h391 hm392=>?_))))))
              have h393:=h325.le le356
              have q:=h393.el (idx_get h391)
              obtain ⟨b394,off395,vs398,hA396,hC397,hr399⟩:=q
              obtain ⟨pA400,pc401,rfl,h402⟩:=hr399
              replace hC397:Cl φ355 b394 (off395 + (w64 ((↑k343:Int) - 1)).toNat * 1) [.slice pA400 x390.length pc401]:=hC397
              refine oR Z (fun _=>Zo Z Z hA396 Z Zg Tryz.sizeOf52 (idx_lo h391) (idx_hi h391)) (oL Z (hS357.ldC (f:=0) hC397 (v:=.slice pA400 x390.length pc401) Z Z Tryz.isAgg52 Z) ?_)
              have q:=bnd hm392
              obtain ⟨⟨x403,x404⟩,h405,hm406⟩:=q
              try dsimp only at hm406
              refine zU 0 Z Z Z Z (zP Z Z Tryz.call22 (zD Z zZ) Z) hS357 (fun hs=>w_relay_Shot x390 pA400 pc401 W349 φ355 hs h402 h405) (.inr Z) ?_
              rintro φ407 L408 v409 W410 le411 hS412 ⟨rfl,rfl⟩
              have hS413:St ⟨w,[],φ⟩ φ407 [B9,B8,B5,B2,B0] W410:=hS412
              refine oM Z Z (oR Z (fun _=>ZM Z Z (v:=.agg #[.int .i64 x403.Spares,.int .i64 x403.Loops,.int .i64 x403.Unused]) Z) (oR Z (fun _=>ZM Z Z (v:=.int .i64 x404) Z) (ZK (cs:=[.int .i64 0,.int .i64 0,.int .i64 0]) Z Z Z Z Z Zw Z hS413 ?_)))
              intro W414 b415 hS416
              refine zx (j:=0) (vs:=[.int .i64 x403.Spares,.int .i64 x403.Loops,.int .i64 x403.Unused]) Z Z Z Z hS416 Z Z Z Z Ze (zC Z) Z Z Z ?_
              intro W418 hS419
              have hS420:St ⟨w,[],φ⟩ φ407 [.blk b415 49 [.int .i64 x403.Spares,.int .i64 x403.Loops,.int .i64 x403.Unused],B9,B8,B5,B2,B0] W418:=hS419
              refine oA Z Z (eN (zE (zE (Zj fun σ421 hσ422=>?_))))
              have f423:σ421 1=.int .i64 p1:=(hσ422 1).trans f358
              have f424:σ421 5=.pointer (some ⟨b39,0,none⟩):=(hσ422 5).trans f359
              have f425:σ421 6=.pointer (some ⟨b77,0,none⟩):=(hσ422 6).trans f360
              have f426:σ421 8=.slice A95 x85.length c96:=(hσ422 8).trans f361
              have f427:σ421 10=.slice A113 x103.length c114:=(hσ422 10).trans f362
              have f428:σ421 12=.int .i64 (↑k204:Int):=(hσ422 12).trans f363
              have f429:σ421 13=.pointer (some ⟨b251,0,none⟩):=(hσ422 13).trans f364
              have f430:σ421 14=.int .i64 (w64 (x341 + x380)):=(hσ422 14).trans rfl
              have f431:σ421 15=.int .i64 x342:=(hσ422 15).trans f366
              have f432:σ421 16=.int .i64 x275:=(hσ422 16).trans f367
              have f433:σ421 17=.int .i64 x276:=(hσ422 17).trans f368
              have f434:σ421 19=.pointer (some ⟨b327,0,none⟩):=(hσ422 19).trans f369
              have f435:σ421 20=.int .i64 (↑k343:Int):=(hσ422 20).trans rfl
              have f436:σ421 22=.pointer (some ⟨b415,0,none⟩):=(hσ422 22).trans rfl
              have f437:σ421 23=.int .i64 x404:=(hσ422 23).trans rfl
              have f438:σ421 110=.slice A28 x16.Teams.length c29:=(hσ422 110).trans f370
              have f439:σ421 111=.int .i64 (↑x16.Teams.length:Int):=(hσ422 111).trans f371
              have f440:σ421 112=.int .i64 (↑k204:Int):=(hσ422 112).trans f372
              have f441:σ421 122=.slice pA246 x228.Legs.length pc247:=(hσ422 122).trans f373
              have f442:σ421 123=.int .i64 (↑x228.Legs.length:Int):=(hσ422 123).trans f374
              have f443:σ421 124=.int .i64 (↑k277:Int):=(hσ422 124).trans f375
              have f444:σ421 129=.slice pA320 x310.Loops.length pc321:=(hσ422 129).trans f376
              have f445:σ421 130=.int .i64 (↑x310.Loops.length:Int):=(hσ422 130).trans f377
              have f446:σ421 131=.int .i64 (↑k343:Int):=(hσ422 131).trans fi354
              clear hσ422
              refine Zh ZY [3,3,3,3,1,3,1,3,3,3,1,3,3,3,3,3,3,1,3,3,3,3,1,3,3] fL25 (by kernel_rfl) ?_
              have hS447:=hS420.drew
              generalize hw_W448:({ W418 with drawn:=W418.drawn + 1 }:World)=W448 at hS447 ⊢
              refine oM Z f437 (oR Z (fun _=>ZI Z Z Z) (oM Z Z (ifc hm406 ?_ ?_)))
              ·intro c449 hm450
               refine zi Z Z Z (zK Z Z (zX (fun h=>h c449.out))) (fun _=>zF Z f436 Zl Z zJ) (ZD Z Z Z (zK Z Z (zX (fun h=>h c449.out))) (hS447.ldB (j:=0) Z Z Z zR (v:=.int .i64 x403.Spares) Z) Z (zi Z Z Z (zK Z Z (zX (fun h=>h c449.out))) (fun _=>zF Z f434 zo Z Zm) (ZD Z Z Z (zK Z Z (zX (fun h=>h c449.out))) (hS447.ldB (j:=1) Z Z Z yG (v:=.slice pA322 x310.Bouts.length pc323) Z) Z (zj Z Z Z (zK Z Z (zX (fun h=>h c449.out))) Z f435 (zi Z Z Z (zK Z Z (zX (fun h=>h c449.out))) (fun _=>Za Z Z Z) ?_)))))
               have h451:=h393.le le411
               have q:=h451.el (idx_get h391)
               obtain ⟨b452,off453,vs456,hA454,hC455,hr457⟩:=q
               obtain ⟨pA458,pc459,rfl,h460⟩:=hr457
               replace hC455:Cl φ407 b452 (off453 + (w64 ((↑k343:Int) - 1)).toNat * 1) [.slice pA458 x390.length pc459]:=hC455
               refine zi Z Z Z (zK Z Z (zX (fun h=>h c449.out))) (fun _=>Zo Z Z hA454 Z Zg Tryz.sizeOf52 (idx_lo h391) (idx_hi h391)) (ZD Z Z Z (zK Z Z (zX (fun h=>h c449.out))) (hS447.ldC (f:=0) hC455 (v:=.slice pA458 x390.length pc459) Z Z Tryz.isAgg52 Z) Z (zi Z Z Z (zK Z Z (zX (fun h=>h c449.out))) (fun _=>zV Z Z ZX) (zi Z Z Z (zK Z Z (zX (fun h=>h c449.out))) (fun _=>Za Z Z Z) (zi Z Z Z (zK Z Z (zX (fun h=>h c449.out))) (fun _=>ZI Z Z Z) (oR Z (fun _=>zl Z (zX (fun h=>h c449.out)) Z) (oM Z Z (ifc hm450 ?_ ?_)))))))
               ·intro c461 hm462
                refine zi Z Z Z (zK Z Z (zX (fun h=>h c461.out))) (fun _=>zF Z f436 Zl Z zJ) (ZD Z Z Z (zK Z Z (zX (fun h=>h c461.out))) (hS447.ldB (j:=0) Z Z Z zR (v:=.int .i64 x403.Loops) Z) Z (zi Z Z Z (zK Z Z (zX (fun h=>h c461.out))) (fun _=>zW Z Z Z) (oR Z (fun _=>zl Z (zX (fun h=>h c461.out)) Z) (oM Z Z (ifc hm462 ?_ ?_)))))
                ·intro c463 hm464
                 refine oT Z c463 (oT Z c463 (oT Z c463 (oR Z (fun _=>zM Z (Zb c463.out) Z) (eN (zn Z (sR fL1 Z (oA Z Z (eN (zO (zB (zB (zI (zB ?_)))))))))))))
                 have q:=esc_spec hm464
                 obtain ⟨v465,hm466,e467⟩:=q
                 obtain rfl:=jn_inr hm312 hX345 (hb352 v465 e467)
                 refine zB (zI (zB (zI (zB ?_))))
                 have q:=esc_spec hm466
                 obtain ⟨v468,hm469,e470⟩:=q
                 obtain rfl:=jn_inr hm230 hX279 (hb286 v468 e470)
                 refine zB (zI (zB (zI (zB ?_))))
                 have q:=esc_spec hm469
                 obtain ⟨v471,hm472,e473⟩:=q
                 obtain rfl:=jn_inr hm173 hX206 (hb213 v471 e473)
                 refine zB (zI (zB ?_))
                 have hE:=Option.some.inj hm472;first | subst r | cases hE
                 exact ⟨rfl,_,(zq rfl),φ407,_,(hS447.pick [] _ (by decide) rfl),rfl,rfl⟩
                ·intro c463 hm474
                 refine rU Z (wF Z c463) (fun _=>zF Z f436 Zl Z zJ) (ZD Z Z Z (wF Z c463) (hS447.ldB (j:=0) Z Z Z zR (v:=.int .i64 x403.Loops) Z) Z (rU Z (wF Z c463) (fun _=>Zy Z Z Z) (oR Z (fun _=>zl Z (zX c463.out) Z) (eN (ifc hm474 ?_ ?_)))))
                 ·intro c475 hm476
                  refine cT Z c475 (sR fL1 Z (oA Z Z (eN (zO (zB (zB (zI (zB ?_))))))))
                  have q:=esc_spec hm476
                  obtain ⟨v477,hm478,e479⟩:=q
                  obtain rfl:=jn_inr hm312 hX345 (hb352 v477 e479)
                  refine zB (zI (zB (zI (zB ?_))))
                  have q:=esc_spec hm478
                  obtain ⟨v480,hm481,e482⟩:=q
                  obtain rfl:=jn_inr hm230 hX279 (hb286 v480 e482)
                  refine zB (zI (zB (zI (zB ?_))))
                  have q:=esc_spec hm481
                  obtain ⟨v483,hm484,e485⟩:=q
                  obtain rfl:=jn_inr hm173 hX206 (hb213 v483 e485)
                  refine zB (zI (zB ?_))
                  have hE:=Option.some.inj hm484;first | subst r | cases hE
                  exact ⟨rfl,_,(zq rfl),φ407,_,(hS447.pick [] _ (by decide) rfl),rfl,rfl⟩
                 ·intro c475 hm486
                  refine cF Z c475 (kN (rR fL16 Z (oM Z f430 (oR Z (fun _=>zF Z f436 Zl Z zJ) (oL Z (hS447.ldB (j:=0) Z Z Z zR (v:=.int .i64 x403.Spares) Z) (oR Z (fun _=>zF Z f424 zL Z ZE) (oR Z (fun _=>zF Z Z zg Z zJ) (oL Z (hS447.ldB (j:=4) Z Z Z zR (v:=.int .i64 x16.Rules.Spare) Z) (oR Z (fun _=>Runs.mulw Z Z Z) (oR Z (fun _=>zF Z f436 Zl Z zJ) (oL Z (hS447.ldB (j:=0) Z Z Z zR (v:=.int .i64 x403.Loops) Z) (oR Z (fun _=>zF Z f424 zL Z ZE) (oR Z (fun _=>zF Z Z zg Z zJ) (oL Z (hS447.ldB (j:=4) Z Z Z zR (v:=.int .i64 x16.Rules.Loop) Z) (oR Z (fun _=>Runs.mulw Z Z Z) (oR Z (fun _=>zY Z Z Z) (oR Z (fun _=>zY Z Z Z) (oA Z Z (eN (zE (zE (Zj fun σ487 hσ488=>?_))))))))))))))))))))))
                  have f489:σ487 1=.int .i64 p1:=(hσ488 1).trans f423
                  have f490:σ487 5=.pointer (some ⟨b39,0,none⟩):=(hσ488 5).trans f424
                  have f491:σ487 6=.pointer (some ⟨b77,0,none⟩):=(hσ488 6).trans f425
                  have f492:σ487 8=.slice A95 x85.length c96:=(hσ488 8).trans f426
                  have f493:σ487 10=.slice A113 x103.length c114:=(hσ488 10).trans f427
                  have f494:σ487 12=.int .i64 (↑k204:Int):=(hσ488 12).trans f428
                  have f495:σ487 13=.pointer (some ⟨b251,0,none⟩):=(hσ488 13).trans f429
                  have f496:σ487 14=.int .i64 (w64 ((w64 (x341 + x380)) + (w64 ((w64 (x403.Spares * x16.Rules.Spare)) + (w64 (x403.Loops * x16.Rules.Loop)))))):=(hσ488 14).trans rfl
                  have f497:σ487 15=.int .i64 x342:=(hσ488 15).trans f431
                  have f498:σ487 16=.int .i64 x275:=(hσ488 16).trans f432
                  have f499:σ487 17=.int .i64 x276:=(hσ488 17).trans f433
                  have f500:σ487 19=.pointer (some ⟨b327,0,none⟩):=(hσ488 19).trans f434
                  have f501:σ487 110=.slice A28 x16.Teams.length c29:=(hσ488 110).trans f438
                  have f502:σ487 111=.int .i64 (↑x16.Teams.length:Int):=(hσ488 111).trans f439
                  have f503:σ487 112=.int .i64 (↑k204:Int):=(hσ488 112).trans f440
                  have f504:σ487 122=.slice pA246 x228.Legs.length pc247:=(hσ488 122).trans f441
                  have f505:σ487 123=.int .i64 (↑x228.Legs.length:Int):=(hσ488 123).trans f442
                  have f506:σ487 124=.int .i64 (↑k277:Int):=(hσ488 124).trans f443
                  have f507:σ487 129=.slice pA320 x310.Loops.length pc321:=(hσ488 129).trans f444
                  have f508:σ487 130=.int .i64 (↑x310.Loops.length:Int):=(hσ488 130).trans f445
                  have f509:σ487 131=.int .i64 (↑k343:Int):=(hσ488 131).trans f446
                  clear hσ488
                  refine rR fL20 Z (oM Z f497 (oR Z (fun _=>zF Z f491 zt Z ZT) (oL Z (hS447.ldB (j:=3) Z Z Z Zi (v:=.slice A69 x57.Times.length c70) Z) (oM Z f494 (bnK hm486 fun x510 h511 hm512=>?_)))))
                  have h513:=hs154.le le169
                  have h514:=h513.le le183
                  have h515:=h514.le le194
                  have h516:=h515.le le217
                  have h517:=h516.le le290
                  have h518:=h517.le le356
                  have h519:=h518.le le411
                  have q:=h519.el (idx_get h511)
                  obtain ⟨b520,off521,vs524,hA522,hC523,hr525⟩:=q
                  obtain ⟨pA526,pc527,rfl,h528⟩:=hr525
                  replace hC523:Cl φ407 b520 (off521 + k204 * 1) [.slice pA526 x510.length pc527]:=hC523
                  refine oR Z (fun _=>zu Z Z hA522 Z zQ zN (idx_lt h511)) (oL Z (hS447.ldC (f:=0) hC523 (v:=.slice pA526 x510.length pc527) Z Z zd Z) (oR Z (fun _=>zV Z Z zA) (oR Z (fun _=>Runs.geq Z Z Z) (oM Z Z (ifc hm512 ?_ ?_)))))
                  ·intro c529 hm530
                   refine oT Z c529 (oT Z c529 (oT Z c529 (oT Z c529 (oT Z c529 (oT Z c529 (oT Z c529 (oT Z c529 (oT Z c529 (oT Z c529 (oR Z (fun _=>zM Z (Zb c529.out) Z) (eN (zn Z (sR fL1 Z (oA Z Z (eN (zO (zB (zI (zB ?_)))))))))))))))))))
                   have q:=esc_spec hm530
                   obtain ⟨v531,hm532,e533⟩:=q
                   obtain rfl:=jn_inr hm312 hX345 (hb352 v531 e533)
                   refine zB (zI (zB (zI (zB ?_))))
                   have q:=esc_spec hm532
                   obtain ⟨v534,hm535,e536⟩:=q
                   obtain rfl:=jn_inr hm230 hX279 (hb286 v534 e536)
                   refine zB (zI (zB (zI (zB ?_))))
                   have q:=esc_spec hm535
                   obtain ⟨v537,hm538,e539⟩:=q
                   obtain rfl:=jn_inr hm173 hX206 (hb213 v537 e539)
                   refine zB (zI (zB ?_))
                   have hE:=Option.some.inj hm538;first | subst r | cases hE
                   exact ⟨rfl,_,(zq rfl),φ407,_,(hS447.pick [] _ (by decide) rfl),rfl,rfl⟩
                  ·intro c529 hm540
                   refine rU Z (wF Z c529) (fun _=>zF Z f491 zt Z ZT) (ZD Z Z Z (wF Z c529) (hS447.ldB (j:=3) Z Z Z Zi (v:=.slice A69 x57.Times.length c70) Z) Z (zj Z Z Z (wF Z c529) Z f494 ?_))
                   have q:=h519.el (idx_get h511)
                   obtain ⟨b541,off542,vs545,hA543,hC544,hr546⟩:=q
                   obtain ⟨pA547,pc548,rfl,h549⟩:=hr546
                   replace hC544:Cl φ407 b541 (off542 + k204 * 1) [.slice pA547 x510.length pc548]:=hC544
                   refine rU Z (wF Z c529) (fun _=>zu Z Z hA543 Z zQ zN (idx_lt h511)) (ZD Z Z Z (wF Z c529) (hS447.ldC (f:=0) hC544 (v:=.slice pA547 x510.length pc548) Z Z zd Z) Z (zj Z Z Z (wF Z c529) Z f497 (bnK hm540 fun x550 h551 hm552=>?_)))
                   have q:=h549.el (fun _=>rfl) (idx_get h551)
                   obtain ⟨b553,off554,hA555,hC556⟩:=q
                   refine rU Z (wF Z c529) (fun _=>Zo Z Z hA555 Z zA zJ (idx_lo h551) (idx_hi h551)) (ZD Z Z Z (wF Z c529) (hS447.ldC (f:=0) hC556 (v:=.int .i64 x550) Z Z zR Z) Z (zj Z Z Z (wF Z c529) Z f496 (rU Z (wF Z c529) (fun _=>ZI Z Z Z) (oR Z (fun _=>zl Z (zX c529.out) Z) (eN (ifc hm552 ?_ ?_))))))
                   ·intro c557 hm558
                    refine zr (zX (fun h=>h c557.out)) (kN (rR fL3 Z (oM Z f497 (oR Z (fun _=>zY Z Z Z) (oA Z Z (zp (zh (zH (rR fL2 Z (oR Z (fun _=>zz (zY Z f509 Z) (congrArg (Value.int .i64) hi379.out)) (oM Z Z (zp ?_))))))))))))
                    obtain rfl:=Option.some.inj hm558
                    exact zH ⟨rfl,_,rfl,⟨φ407,rfl,f489,f490,f491,f492,f493,f494,f495,f496,rfl,f498,f499,f500,f501,f502,f503,f504,f505,f506,f507,f508,(le356.trans le411),(hS447.pick [1,2,3,4,5] _ (by decide) rfl)⟩⟩
                   ·intro c557 hm561
                    refine cT Z c557 (sR fL1 Z (oA Z Z (eN (zO (zB (zI (zB ?_)))))))
                    have q:=esc_spec hm561
                    obtain ⟨v562,hm563,e564⟩:=q
                    obtain rfl:=jn_inr hm312 hX345 (hb352 v562 e564)
                    refine zB (zI (zB (zI (zB ?_))))
                    have q:=esc_spec hm563
                    obtain ⟨v565,hm566,e567⟩:=q
                    obtain rfl:=jn_inr hm230 hX279 (hb286 v565 e567)
                    refine zB (zI (zB (zI (zB ?_))))
                    have q:=esc_spec hm566
                    obtain ⟨v568,hm569,e570⟩:=q
                    obtain rfl:=jn_inr hm173 hX206 (hb213 v568 e570)
                    refine zB (zI (zB ?_))
                    have hE:=Option.some.inj hm569;first | subst r | cases hE
                    exact ⟨rfl,_,(zq rfl),φ407,_,(hS447.pick [] _ (by decide) rfl),rfl,rfl⟩
               ·intro c461 hm571
                refine oT Z c461 (oT Z c461 (oT Z c461 (oR Z (fun _=>zM Z (Zb c461.out) Z) (oM Z Z (oN Z (oN Z (oN Z (oR Z (fun _=>zM Z Z Z) (eN (zn Z (sR fL1 Z (oA Z Z (eN (zO (zB (zB (zI (zB ?_))))))))))))))))))
                have q:=esc_spec hm571
                obtain ⟨v572,hm573,e574⟩:=q
                obtain rfl:=jn_inr hm312 hX345 (hb352 v572 e574)
                refine zB (zI (zB (zI (zB ?_))))
                have q:=esc_spec hm573
                obtain ⟨v575,hm576,e577⟩:=q
                obtain rfl:=jn_inr hm230 hX279 (hb286 v575 e577)
                refine zB (zI (zB (zI (zB ?_))))
                have q:=esc_spec hm576
                obtain ⟨v578,hm579,e580⟩:=q
                obtain rfl:=jn_inr hm173 hX206 (hb213 v578 e580)
                refine zB (zI (zB ?_))
                have hE:=Option.some.inj hm579;first | subst r | cases hE
                exact ⟨rfl,_,(zq rfl),φ407,_,(hS447.pick [] _ (by decide) rfl),rfl,rfl⟩
              ·intro c449 hm581
               refine oT Z c449 (oT Z c449 (oT Z c449 (oT Z c449 (oT Z c449 (oT Z c449 (oT Z c449 (oT Z c449 (oT Z c449 (oT Z c449 (oT Z c449 (oR Z (fun _=>zM Z (Zb c449.out) Z) (oM Z Z (oN Z (oN Z (oN Z (oR Z (fun _=>zM Z Z Z) (oM Z Z (oN Z (oN Z (oN Z (oR Z (fun _=>zM Z Z Z) (eN (zn Z (sR fL1 Z (oA Z Z (eN (zO (zB (zB (zI (zB ?_)))))))))))))))))))))))))))))))
               have q:=esc_spec hm581
               obtain ⟨v582,hm583,e584⟩:=q
               obtain rfl:=jn_inr hm312 hX345 (hb352 v582 e584)
               refine zB (zI (zB (zI (zB ?_))))
               have q:=esc_spec hm583
               obtain ⟨v585,hm586,e587⟩:=q
               obtain rfl:=jn_inr hm230 hX279 (hb286 v585 e587)
               refine zB (zI (zB (zI (zB ?_))))
               have q:=esc_spec hm586
               obtain ⟨v588,hm589,e590⟩:=q
               obtain rfl:=jn_inr hm173 hX206 (hb213 v588 e590)
               refine zB (zI (zB ?_))
               have hE:=Option.some.inj hm589;first | subst r | cases hE
               exact ⟨rfl,_,(zq rfl),φ407,_,(hS447.pick [] _ (by decide) rfl),rfl,rfl⟩
             ·intro c388 hm591
              refine cF Z c388 (kN (zE (sR fL20 Z (oM Z f366 (oR Z (fun _=>zF Z f360 zt Z ZT) (oL Z (hS357.ldB (j:=2) Z Z Z Zi (v:=.slice A69 x57.Times.length c70) Z) (oM Z f363 (bnK hm591 fun x592 h593 hm594=>?_))))))))
              have h595:=hs154.le le169
              have h596:=h595.le le183
              have h597:=h596.le le194
              have h598:=h597.le le217
              have h599:=h598.le le290
              have h600:=h599.le le356
              have q:=h600.el (idx_get h593)
              obtain ⟨b601,off602,vs605,hA603,hC604,hr606⟩:=q
              obtain ⟨pA607,pc608,rfl,h609⟩:=hr606
              replace hC604:Cl φ355 b601 (off602 + k204 * 1) [.slice pA607 x592.length pc608]:=hC604
              refine oR Z (fun _=>zu Z Z hA603 Z zQ zN (idx_lt h593)) (oL Z (hS357.ldC (f:=0) hC604 (v:=.slice pA607 x592.length pc608) Z Z zd Z) (oR Z (fun _=>zV Z Z zA) (oR Z (fun _=>Runs.geq Z Z Z) (oM Z Z (ifc hm594 ?_ ?_)))))
              ·intro c610 hm611
               refine oT Z c610 (oT Z c610 (oT Z c610 (oT Z c610 (oT Z c610 (oT Z c610 (oT Z c610 (oT Z c610 (oT Z c610 (oT Z c610 (oR Z (fun _=>zM Z (Zb c610.out) Z) (eN (zn Z (sR fL1 Z (oA Z Z (eN (zO (zB (zI (zB ?_)))))))))))))))))))
               have q:=esc_spec hm611
               obtain ⟨v612,hm613,e614⟩:=q
               obtain rfl:=jn_inr hm312 hX345 (hb352 v612 e614)
               refine zB (zI (zB (zI (zB ?_))))
               have q:=esc_spec hm613
               obtain ⟨v615,hm616,e617⟩:=q
               obtain rfl:=jn_inr hm230 hX279 (hb286 v615 e617)
               refine zB (zI (zB (zI (zB ?_))))
               have q:=esc_spec hm616
               obtain ⟨v618,hm619,e620⟩:=q
               obtain rfl:=jn_inr hm173 hX206 (hb213 v618 e620)
               refine zB (zI (zB ?_))
               have hE:=Option.some.inj hm619;first | subst r | cases hE
               exact ⟨rfl,_,(zq rfl),φ355,_,(hS357.pick [] _ (by decide) rfl),rfl,rfl⟩
              ·intro c610 hm621
               refine rU Z (wF Z c610) (fun _=>zF Z f360 zt Z ZT) (ZD Z Z Z (wF Z c610) (hS357.ldB (j:=2) Z Z Z Zi (v:=.slice A69 x57.Times.length c70) Z) Z (zj Z Z Z (wF Z c610) Z f363 ?_))
               have q:=h600.el (idx_get h593)
               obtain ⟨b622,off623,vs626,hA624,hC625,hr627⟩:=q
               obtain ⟨pA628,pc629,rfl,h630⟩:=hr627
               replace hC625:Cl φ355 b622 (off623 + k204 * 1) [.slice pA628 x592.length pc629]:=hC625
               refine rU Z (wF Z c610) (fun _=>zu Z Z hA624 Z zQ zN (idx_lt h593)) (ZD Z Z Z (wF Z c610) (hS357.ldC (f:=0) hC625 (v:=.slice pA628 x592.length pc629) Z Z zd Z) Z (zj Z Z Z (wF Z c610) Z f366 (bnK hm621 fun x631 h632 hm633=>?_)))
               have q:=h630.el (fun _=>rfl) (idx_get h632)
               obtain ⟨b634,off635,hA636,hC637⟩:=q
               refine rU Z (wF Z c610) (fun _=>Zo Z Z hA636 Z zA zJ (idx_lo h632) (idx_hi h632)) (ZD Z Z Z (wF Z c610) (hS357.ldC (f:=0) hC637 (v:=.int .i64 x631) Z Z zR Z) Z (zj Z Z Z (wF Z c610) Z Z (rU Z (wF Z c610) (fun _=>ZI Z Z Z) (oR Z (fun _=>zl Z (zX c610.out) Z) (eN (ifc hm633 ?_ ?_))))))
               ·intro c638 hm639
                refine zr (zX (fun h=>h c638.out)) (kN (rR fL3 Z (oM Z f366 (oR Z (fun _=>zY Z Z Z) (oA Z Z (zp (zh (zH (rR fL2 Z (oR Z (fun _=>zz (zY Z fi354 Z) (congrArg (Value.int .i64) hi379.out)) (oM Z Z (zp ?_))))))))))))
                obtain rfl:=Option.some.inj hm639
                exact zH ⟨Z,_,Z,⟨φ355,Z,f358,f359,f360,f361,f362,f363,f364,Z,Z,f367,f368,f369,f370,f371,f372,f373,f374,f375,f376,f377,le356,hS357⟩⟩
               ·intro c638 hm642
                refine cT Z c638 (sR fL1 Z (oA Z Z (eN (zO (zB (zI (zB ?_)))))))
                have q:=esc_spec hm642
                obtain ⟨v643,hm644,e645⟩:=q
                obtain rfl:=jn_inr hm312 hX345 (hb352 v643 e645)
                refine zB (zI (zB (zI (zB ?_))))
                have q:=esc_spec hm644
                obtain ⟨v646,hm647,e648⟩:=q
                obtain rfl:=jn_inr hm230 hX279 (hb286 v646 e648)
                refine zB (zI (zB (zI (zB ?_))))
                have q:=esc_spec hm647
                obtain ⟨v649,hm650,e651⟩:=q
                obtain rfl:=jn_inr hm173 hX206 (hb213 v649 e651)
                refine zB (zI (zB ?_))
                have hE:=Option.some.inj hm650;first | subst r | cases hE
                exact ⟨rfl,_,(zq rfl),φ355,_,(hS357.pick [] _ (by decide) rfl),rfl,rfl⟩
            ·rintro ⟨y656,y657⟩ σ652 W653 ⟨φ658,fi655,f661,f662,f663,f664,f665,f666,f667,f668,f669,f670,f671,f672,f673,f674,f675,f676,f677,f678,f679,f680,le659,hS660⟩ hb654
             have hm681:=jn_inl hm312 hX345 hb654
             try dsimp only at hm681
             have c682:Hid (¬ ((↑(((↑x310.Loops.length:Int):Int) - 0).toNat:Int) < (↑x310.Loops.length:Int))):=zG (lp_end0)
             refine sR fL1 Z (oR Z (fun _=>zW Z fi655 f680) (eN (zE (cF Z c682 (ZG (ze (ze (zw (zH (zE (sR fL7 Z (oR Z (fun _=>zF Z f672 zo Z zN) (oL Z (hS660.ldB (j:=0) Z Z Z zd (v:=.slice pA320 x310.Loops.length pc321) Z) (oR Z (fun _=>zV Z Z zA) (oR Z (fun _=>zF Z f662 zL Z ZE) (oR Z (fun _=>zF Z Z zg Z zJ) (oL Z (hS660.ldB (j:=3) Z Z Z zR (v:=.int .i64 x16.Rules.Laps) Z) (oR Z (fun _=>zW Z Z Z) (eN (ifc hm681 ?_ ?_))))))))))))))))))))
             ·intro c683 hm684
              refine cT Z c683 (ZG (ze (zw (zH (rR fL2 Z (oR Z (fun _=>zz (zY Z f678 Z) (congrArg (Value.int .i64) hi309.out)) (oM Z Z (zp ?_))))))))
              obtain rfl:=Option.some.inj hm684
              exact zH ⟨rfl,_,rfl,⟨φ658,rfl,f661,f662,f663,f664,f665,f666,f667,f668,f669,f670,f671,f673,f674,f675,f676,f677,(le290.trans le659),(hS660.pick [1,2,3,4] _ (by decide) rfl)⟩⟩
             ·intro c683 hm689
              refine cF Z c683 (kN (zE (zE (Zj fun σ690 hσ691=>?_))))
              have f692:σ690 1=.int .i64 p1:=(hσ691 1).trans f661
              have f693:σ690 5=.pointer (some ⟨b39,0,none⟩):=(hσ691 5).trans f662
              have f694:σ690 6=.pointer (some ⟨b77,0,none⟩):=(hσ691 6).trans f663
              have f695:σ690 8=.slice A95 x85.length c96:=(hσ691 8).trans f664
              have f696:σ690 10=.slice A113 x103.length c114:=(hσ691 10).trans f665
              have f697:σ690 12=.int .i64 (↑k204:Int):=(hσ691 12).trans f666
              have f698:σ690 13=.pointer (some ⟨b251,0,none⟩):=(hσ691 13).trans f667
              have f699:σ690 14=.int .i64 y656:=(hσ691 14).trans f668
              have f700:σ690 15=.int .i64 y657:=(hσ691 15).trans f669
              have f701:σ690 16=.int .i64 x275:=(hσ691 16).trans f670
              have f702:σ690 17=.int .i64 x276:=(hσ691 17).trans f671
              have f703:σ690 110=.slice A28 x16.Teams.length c29:=(hσ691 110).trans f673
              have f704:σ690 111=.int .i64 (↑x16.Teams.length:Int):=(hσ691 111).trans f674
              have f705:σ690 112=.int .i64 (↑k204:Int):=(hσ691 112).trans f675
              have f706:σ690 122=.slice pA246 x228.Legs.length pc247:=(hσ691 122).trans f676
              have f707:σ690 123=.int .i64 (↑x228.Legs.length:Int):=(hσ691 123).trans f677
              have f708:σ690 124=.int .i64 (↑k277:Int):=(hσ691 124).trans f678
              clear hσ691
              refine rR fL40 Z (oM Z f702 (oM Z f695 (oM Z f697 (bnK hm689 fun x709 h710 hm711=>?_))))
              have h712:=hs184.le le194
              have h713:=h712.le le217
              have h714:=h713.le le290
              have h715:=h714.le le659
              have q:=h715.el (idx_get h710)
              obtain ⟨b716,off717,vs720,hA718,hC719,hr721⟩:=q
              obtain ⟨pA722,pc723,rfl,h724⟩:=hr721
              replace hC719:Cl φ658 b716 (off717 + k204 * 1) [.slice pA722 x709.length pc723]:=hC719
              refine oR Z (fun _=>zu Z Z hA718 Z zQ zN (idx_lt h710)) (oL Z (hS660.ldC (f:=0) hC719 (v:=.slice pA722 x709.length pc723) Z Z zd Z) (oR Z (fun _=>zV Z Z zA) (oR Z (fun _=>Runs.geq Z Z Z) (oM Z Z (ifc hm711 ?_ ?_)))))
              ·intro c725 hm726
               refine oT Z c725 (oT Z c725 (oT Z c725 (oT Z c725 (oT Z c725 (oT Z c725 (oT Z c725 (oR Z (fun _=>zM Z (Zb c725.out) Z) (oM Z Z (oN Z (oN Z (oN Z (oN Z (oN Z (oN Z (oN Z (oN Z (oN Z (oR Z (fun _=>zM Z Z Z) (oM Z Z (oN Z (oN Z (oN Z (oN Z (oN Z (oN Z (oN Z (oN Z (oN Z (oN Z (oN Z (oR Z (fun _=>zM Z Z Z) (eN (zn Z (sR fL1 Z (oA Z Z (eN (zO (zB (zI (zB ?_))))))))))))))))))))))))))))))))))))))))
               have q:=esc_spec hm726
               obtain ⟨v727,hm728,e729⟩:=q
               obtain rfl:=jn_inr hm230 hX279 (hb286 v727 e729)
               refine zB (zI (zB (zI (zB ?_))))
               have q:=esc_spec hm728
               obtain ⟨v730,hm731,e732⟩:=q
               obtain rfl:=jn_inr hm173 hX206 (hb213 v730 e732)
               refine zB (zI (zB ?_))
               have hE:=Option.some.inj hm731;first | subst r | cases hE
               exact ⟨rfl,_,(zq rfl),φ658,_,(hS660.pick [] _ (by decide) rfl),rfl,rfl⟩
              ·intro c725 hm733
               refine zj Z Z Z (wF Z c725) Z f702 (zj Z Z Z (wF Z c725) Z f696 (zj Z Z Z (wF Z c725) Z f697 (bnK hm733 fun x734 h735 hm736=>?_)))
               have h737:=hs195.le le217
               have h738:=h737.le le290
               have h739:=h738.le le659
               have q:=h739.el (idx_get h735)
               obtain ⟨b740,off741,vs744,hA742,hC743,hr745⟩:=q
               obtain ⟨pA746,pc747,rfl,h748⟩:=hr745
               replace hC743:Cl φ658 b740 (off741 + k204 * 1) [.slice pA746 x734.length pc747]:=hC743
               refine rU Z (wF Z c725) (fun _=>zu Z Z hA742 Z zQ zN (idx_lt h735)) (ZD Z Z Z (wF Z c725) (hS660.ldC (f:=0) hC743 (v:=.slice pA746 x734.length pc747) Z Z zd Z) Z (rU Z (wF Z c725) (fun _=>zV Z Z zA) (rU Z (wF Z c725) (fun _=>Runs.geq Z Z Z) (oR Z (fun _=>zl Z (zX c725.out) Z) (oM Z Z (ifc hm736 ?_ ?_))))))
               ·intro c749 hm750
                refine oT Z c749 (oT Z c749 (oT Z c749 (oT Z c749 (oT Z c749 (oT Z c749 (oT Z c749 (oT Z c749 (oT Z c749 (oR Z (fun _=>zM Z (Zb c749.out) Z) (oM Z Z (oN Z (oN Z (oN Z (oN Z (oN Z (oN Z (oN Z (oN Z (oN Z (oN Z (oN Z (oR Z (fun _=>zM Z Z Z) (eN (zn Z (sR fL1 Z (oA Z Z (eN (zO (zB (zI (zB ?_)))))))))))))))))))))))))))))))
                have q:=esc_spec hm750
                obtain ⟨v751,hm752,e753⟩:=q
                obtain rfl:=jn_inr hm230 hX279 (hb286 v751 e753)
                refine zB (zI (zB (zI (zB ?_))))
                have q:=esc_spec hm752
                obtain ⟨v754,hm755,e756⟩:=q
                obtain rfl:=jn_inr hm173 hX206 (hb213 v754 e756)
                refine zB (zI (zB ?_))
                have hE:=Option.some.inj hm755;first | subst r | cases hE
                exact ⟨rfl,_,(zq rfl),φ658,_,(hS660.pick [] _ (by decide) rfl),rfl,rfl⟩
               ·intro c749 hm757
                refine zj Z Z Z (wF Z c749) Z f695 (zj Z Z Z (wF Z c749) Z f697 ?_)
                have q:=h715.el (idx_get h710)
                obtain ⟨b758,off759,vs762,hA760,hC761,hr763⟩:=q
                obtain ⟨pA764,pc765,rfl,h766⟩:=hr763
                replace hC761:Cl φ658 b758 (off759 + k204 * 1) [.slice pA764 x709.length pc765]:=hC761
                refine rU Z (wF Z c749) (fun _=>zu Z Z hA760 Z zQ zN (idx_lt h710)) (ZD Z Z Z (wF Z c749) (hS660.ldC (f:=0) hC761 (v:=.slice pA764 x709.length pc765) Z Z zd Z) Z (zj Z Z Z (wF Z c749) Z f702 (bnK hm757 fun x767 h768 hm769=>?_)))
                have q:=h766.el (fun _=>rfl) (idx_get h768)
                obtain ⟨b770,off771,hA772,hC773⟩:=q
                refine rU Z (wF Z c749) (fun _=>Zo Z Z hA772 Z zA zJ (idx_lo h768) (idx_hi h768)) (ZD Z Z Z (wF Z c749) (hS660.ldC (f:=0) hC773 (v:=.int .i64 x767) Z Z zR Z) Z (zj Z Z Z (wF Z c749) Z f699 (rU Z (wF Z c749) (fun _=>ZI Z Z Z) (oR Z (fun _=>zl Z (zX c749.out) Z) (oM Z Z (ifc hm769 ?_ ?_))))))
                ·intro c774 hm775
                 refine zj Z Z Z (zK Z Z (zX (fun h=>h c774.out))) Z f696 (zj Z Z Z (zK Z Z (zX (fun h=>h c774.out))) Z f697 ?_)
                 have q:=h739.el (idx_get h735)
                 obtain ⟨b776,off777,vs780,hA778,hC779,hr781⟩:=q
                 obtain ⟨pA782,pc783,rfl,h784⟩:=hr781
                 replace hC779:Cl φ658 b776 (off777 + k204 * 1) [.slice pA782 x734.length pc783]:=hC779
                 refine zi Z Z Z (zK Z Z (zX (fun h=>h c774.out))) (fun _=>zu Z Z hA778 Z zQ zN (idx_lt h735)) (ZD Z Z Z (zK Z Z (zX (fun h=>h c774.out))) (hS660.ldC (f:=0) hC779 (v:=.slice pA782 x734.length pc783) Z Z zd Z) Z (zj Z Z Z (zK Z Z (zX (fun h=>h c774.out))) Z f702 (bnK hm775 fun x785 h786 hm787=>?_)))
                 have q:=h784.el (fun _=>rfl) (idx_get h786)
                 obtain ⟨b788,off789,hA790,hC791⟩:=q
                 refine zi Z Z Z (zK Z Z (zX (fun h=>h c774.out))) (fun _=>Zo Z Z hA790 Z zA zJ (idx_lo h786) (idx_hi h786)) (ZD Z Z Z (zK Z Z (zX (fun h=>h c774.out))) (hS660.ldC (f:=0) hC791 (v:=.int .i64 x785) Z Z zR Z) Z (zj Z Z Z (zK Z Z (zX (fun h=>h c774.out))) Z f699 (zj Z Z Z (zK Z Z (zX (fun h=>h c774.out))) Z f701 (zi Z Z Z (zK Z Z (zX (fun h=>h c774.out))) (fun _=>Za Z Z Z) (zi Z Z Z (zK Z Z (zX (fun h=>h c774.out))) (fun _=>ZI Z Z Z) (oR Z (fun _=>zl Z (zX (fun h=>h c774.out)) Z) (eN (ifc hm787 ?_ ?_))))))))
                 ·intro c792 hm793
                  refine zr (zX (fun h=>h c792.out)) (kN (sR fL2 Z (oM Z f699 (oA Z Z (eN (rR fL3 Z (oM Z f702 (oR Z (fun _=>zY Z Z Z) (oA Z Z (zp (zh (zH (Zj fun σ794 hσ795=>?_)))))))))))))
                  have f796:σ794 1=.int .i64 p1:=(hσ795 1).trans f692
                  have f797:σ794 5=.pointer (some ⟨b39,0,none⟩):=(hσ795 5).trans f693
                  have f798:σ794 6=.pointer (some ⟨b77,0,none⟩):=(hσ795 6).trans f694
                  have f799:σ794 8=.slice A95 x85.length c96:=(hσ795 8).trans f695
                  have f800:σ794 10=.slice A113 x103.length c114:=(hσ795 10).trans f696
                  have f801:σ794 12=.int .i64 (↑k204:Int):=(hσ795 12).trans f697
                  have f802:σ794 13=.pointer (some ⟨b251,0,none⟩):=(hσ795 13).trans f698
                  have f803:σ794 14=.int .i64 y656:=(hσ795 14).trans f699
                  have f804:σ794 15=.int .i64 y657:=(hσ795 15).trans f700
                  have f805:σ794 16=.int .i64 y656:=(hσ795 16).trans rfl
                  have f806:σ794 17=.int .i64 (w64 (x276 + 1)):=(hσ795 17).trans rfl
                  have f807:σ794 110=.slice A28 x16.Teams.length c29:=(hσ795 110).trans f703
                  have f808:σ794 111=.int .i64 (↑x16.Teams.length:Int):=(hσ795 111).trans f704
                  have f809:σ794 112=.int .i64 (↑k204:Int):=(hσ795 112).trans f705
                  have f810:σ794 122=.slice pA246 x228.Legs.length pc247:=(hσ795 122).trans f706
                  have f811:σ794 123=.int .i64 (↑x228.Legs.length:Int):=(hσ795 123).trans f707
                  have f812:σ794 124=.int .i64 (↑k277:Int):=(hσ795 124).trans f708
                  clear hσ795
                  refine rR fL2 Z (oR Z (fun _=>zz (zY Z f812 Z) (congrArg (Value.int .i64) hi309.out)) (oM Z Z (zp ?_)))
                  obtain rfl:=Option.some.inj hm793
                  exact zH ⟨rfl,_,rfl,⟨φ658,rfl,f796,f797,f798,f799,f800,f801,f802,f803,f804,f805,f806,f807,f808,f809,f810,f811,(le290.trans le659),(hS660.pick [1,2,3,4] _ (by decide) rfl)⟩⟩
                 ·intro c792 hm817
                  refine cT Z c792 (sR fL1 Z (oA Z Z (eN (zO (zB (zI (zB ?_)))))))
                  have q:=esc_spec hm817
                  obtain ⟨v818,hm819,e820⟩:=q
                  obtain rfl:=jn_inr hm230 hX279 (hb286 v818 e820)
                  refine zB (zI (zB (zI (zB ?_))))
                  have q:=esc_spec hm819
                  obtain ⟨v821,hm822,e823⟩:=q
                  obtain rfl:=jn_inr hm173 hX206 (hb213 v821 e823)
                  refine zB (zI (zB ?_))
                  have hE:=Option.some.inj hm822;first | subst r | cases hE
                  exact ⟨rfl,_,(zq rfl),φ658,_,(hS660.pick [] _ (by decide) rfl),rfl,rfl⟩
                ·intro c774 hm824
                 refine oT Z c774 (oT Z c774 (oT Z c774 (oT Z c774 (oT Z c774 (oT Z c774 (oT Z c774 (oT Z c774 (oT Z c774 (oT Z c774 (oT Z c774 (oR Z (fun _=>zM Z (Zb c774.out) Z) (eN (zn Z (sR fL1 Z (oA Z Z (eN (zO (zB (zI (zB ?_))))))))))))))))))))
                 have q:=esc_spec hm824
                 obtain ⟨v825,hm826,e827⟩:=q
                 obtain rfl:=jn_inr hm230 hX279 (hb286 v825 e827)
                 refine zB (zI (zB (zI (zB ?_))))
                 have q:=esc_spec hm826
                 obtain ⟨v828,hm829,e830⟩:=q
                 obtain rfl:=jn_inr hm173 hX206 (hb213 v828 e830)
                 refine zB (zI (zB ?_))
                 have hE:=Option.some.inj hm829;first | subst r | cases hE
                 exact ⟨rfl,_,(zq rfl),φ658,_,(hS660.pick [] _ (by decide) rfl),rfl,rfl⟩
           ·rintro ⟨y835,y836,y837,y838⟩ σ831 W832 ⟨φ839,fi834,f842,f843,f844,f845,f846,f847,f848,f849,f850,f851,f852,f853,f854,f855,f856,f857,le840,hS841⟩ hb833
            have hm858:=jn_inl hm230 hX279 hb833
            try dsimp only at hm858
            have c859:Hid (¬ ((↑(((↑x228.Legs.length:Int):Int) - 0).toNat:Int) < (↑x228.Legs.length:Int))):=zG (lp_end0)
            refine sR fL1 rfl (zi rfl rfl rfl rfl (fun _=>zW rfl fi834 f857) (eN (zE (cF Z c859 (ZG (ze (ze (zw (zH (zE (Zh ZY [3,3,1,3,3,1,3,3,3,3,3,3,3,1,3,3,3,3,3,3,3,3,1,3,3,3,3,3,1,3,3,1,3,1,3,3] fL36 (by kernel_rfl) ?_)))))))))))
            have hS860:=hS841.drew
            generalize hw_W861:({ W832 with drawn:=W832.drawn + 1 }:World)=W861 at hS860 ⊢
            refine oM Z f850 (oR Z (fun _=>zF Z f844 zt Z ZT) (oL Z (hS860.ldB (j:=1) Z Z Z Zi (v:=.slice A69 x57.Times.length c70) Z) (oM Z f847 (bnK hm858 fun x862 h863 hm864=>?_))))
            have h865:=hs154.le le169
            have h866:=h865.le le183
            have h867:=h866.le le194
            have h868:=h867.le le217
            have h869:=h868.le le840
            have q:=h869.el (idx_get h863)
            obtain ⟨b870,off871,vs874,hA872,hC873,hr875⟩:=q
            obtain ⟨pA876,pc877,rfl,h878⟩:=hr875
            replace hC873:Cl φ839 b870 (off871 + k204 * 1) [.slice pA876 x862.length pc877]:=hC873
            refine oR Z (fun _=>zu Z Z hA872 Z zQ zN (idx_lt h863)) (oL Z (hS860.ldC (f:=0) hC873 (v:=.slice pA876 x862.length pc877) Z Z zd Z) (oR Z (fun _=>zV Z Z zA) (oR Z (fun _=>ZI Z Z Z) (oM Z Z (ifc hm864 ?_ ?_)))))
            ·intro c879 hm880
             refine zj Z Z Z (zK Z Z (zX (fun h=>h c879.out))) Z f852 (zj Z Z Z (zK Z Z (zX (fun h=>h c879.out))) Z f845 (zj Z Z Z (zK Z Z (zX (fun h=>h c879.out))) Z f847 (bnK hm880 fun x881 h882 hm883=>?_)))
             have h884:=hs184.le le194
             have h885:=h884.le le217
             have h886:=h885.le le840
             have q:=h886.el (idx_get h882)
             obtain ⟨b887,off888,vs891,hA889,hC890,hr892⟩:=q
             obtain ⟨pA893,pc894,rfl,h895⟩:=hr892
             replace hC890:Cl φ839 b887 (off888 + k204 * 1) [.slice pA893 x881.length pc894]:=hC890
             refine zi Z Z Z (zK Z Z (zX (fun h=>h c879.out))) (fun _=>zu Z Z hA889 Z zQ zN (idx_lt h882)) (ZD Z Z Z (zK Z Z (zX (fun h=>h c879.out))) (hS860.ldC (f:=0) hC890 (v:=.slice pA893 x881.length pc894) Z Z zd Z) Z (zi Z Z Z (zK Z Z (zX (fun h=>h c879.out))) (fun _=>zV Z Z zA) (zi Z Z Z (zK Z Z (zX (fun h=>h c879.out))) (fun _=>ZI Z Z Z) (oR Z (fun _=>zl Z (zX (fun h=>h c879.out)) Z) (oM Z Z (ifc hm883 ?_ ?_))))))
             ·intro c896 hm897
              refine zj Z Z Z (zK Z Z (zX (fun h=>h c896.out))) Z f852 (zj Z Z Z (zK Z Z (zX (fun h=>h c896.out))) Z f846 (zj Z Z Z (zK Z Z (zX (fun h=>h c896.out))) Z f847 (bnK hm897 fun x898 h899 hm900=>?_)))
              have h901:=hs195.le le217
              have h902:=h901.le le840
              have q:=h902.el (idx_get h899)
              obtain ⟨b903,off904,vs907,hA905,hC906,hr908⟩:=q
              obtain ⟨pA909,pc910,rfl,h911⟩:=hr908
              replace hC906:Cl φ839 b903 (off904 + k204 * 1) [.slice pA909 x898.length pc910]:=hC906
              refine zi Z Z Z (zK Z Z (zX (fun h=>h c896.out))) (fun _=>zu Z Z hA905 Z zQ zN (idx_lt h899)) (ZD Z Z Z (zK Z Z (zX (fun h=>h c896.out))) (hS860.ldC (f:=0) hC906 (v:=.slice pA909 x898.length pc910) Z Z zd Z) Z (zi Z Z Z (zK Z Z (zX (fun h=>h c896.out))) (fun _=>zV Z Z zA) (zi Z Z Z (zK Z Z (zX (fun h=>h c896.out))) (fun _=>ZI Z Z Z) (oR Z (fun _=>zl Z (zX (fun h=>h c896.out)) Z) (oM Z Z (ifc hm900 ?_ ?_))))))
              ·intro c912 hm913
               refine zi Z Z Z (zK Z Z (zX (fun h=>h c912.out))) (fun _=>zF Z f844 zt Z zN) (ZD Z Z Z (zK Z Z (zX (fun h=>h c912.out))) (hS860.ldB (j:=1) Z Z Z zd (v:=.slice A67 x57.Bibs.length c68) Z) Z (zj Z Z Z (zK Z Z (zX (fun h=>h c912.out))) Z f847 (bnK hm913 fun x914 h915 hm916=>?_)))
               have h917:=h161.le le169
               have h918:=h917.le le183
               have h919:=h918.le le194
               have h920:=h919.le le217
               have h921:=h920.le le840
               have q:=h921.el (fun _=>rfl) (idx_get h915)
               obtain ⟨b922,off923,hA924,hC925⟩:=q
               refine zi Z Z Z (zK Z Z (zX (fun h=>h c912.out))) (fun _=>zu Z Z hA924 Z zA zJ (idx_lt h915)) (ZD Z Z Z (zK Z Z (zX (fun h=>h c912.out))) (hS860.ldC (f:=0) hC925 (v:=.int .i64 x914) Z Z zR Z) Z (zi Z Z Z (zK Z Z (zX (fun h=>h c912.out))) (fun _=>zF Z f848 zk Z zJ) (ZD Z Z Z (zK Z Z (zX (fun h=>h c912.out))) (hS860.ldB (j:=0) Z Z Z zR (v:=.int .i64 x228.Bib) Z) Z (zi Z Z Z (zK Z Z (zX (fun h=>h c912.out))) (fun _=>ZI Z Z Z) (oR Z (fun _=>zl Z (zX (fun h=>h c912.out)) Z) (eN (ifc hm916 ?_ ?_)))))))
               ·intro c926 hm927
                refine zr (zX (fun h=>h c926.out)) (ZU (zh (zH (rR fL2 Z (oR Z (fun _=>zz (zY Z f855 Z) (congrArg (Value.int .i64) hi227.out)) (oM Z Z (zp ?_)))))))
                obtain rfl:=Option.some.inj hm927
                exact zH ⟨rfl,_,rfl,⟨φ839,rfl,f842,f843,f844,f845,f846,f853,f854,(le217.trans le840),(hS860.pick [1,2,3] _ (by decide) rfl)⟩⟩
               ·intro c926 hm928
                refine cT Z c926 (sR fL1 Z (oA Z Z (eN (zO (zI (zB ?_))))))
                have q:=esc_spec hm928
                obtain ⟨v929,hm930,e931⟩:=q
                obtain rfl:=jn_inr hm173 hX206 (hb213 v929 e931)
                refine zB (zI (zB ?_))
                have hE:=Option.some.inj hm930;first | subst r | cases hE
                exact ⟨rfl,_,(zq rfl),φ839,_,(hS860.pick [] _ (by decide) rfl),rfl,rfl⟩
              ·intro c912 hm932
               refine oT Z c912 (oT Z c912 (oT Z c912 (oT Z c912 (oT Z c912 (oT Z c912 (oT Z c912 (oT Z c912 (oR Z (fun _=>zM Z (Zb c912.out) Z) (eN (zn Z (sR fL1 Z (oA Z Z (eN (zO (zI (zB ?_))))))))))))))))
               have q:=esc_spec hm932
               obtain ⟨v933,hm934,e935⟩:=q
               obtain rfl:=jn_inr hm173 hX206 (hb213 v933 e935)
               refine zB (zI (zB ?_))
               have hE:=Option.some.inj hm934;first | subst r | cases hE
               exact ⟨rfl,_,(zq rfl),φ839,_,(hS860.pick [] _ (by decide) rfl),rfl,rfl⟩
             ·intro c896 hm936
              refine oT Z c896 (oT Z c896 (oT Z c896 (oT Z c896 (oT Z c896 (oT Z c896 (oT Z c896 (oR Z (fun _=>zM Z (Zb c896.out) Z) (oM Z Z (oN Z (oN Z (oN Z (oN Z (oN Z (oN Z (oN Z (oN Z (oR Z (fun _=>zM Z Z Z) (eN (zn Z (sR fL1 Z (oA Z Z (eN (zO (zI (zB ?_)))))))))))))))))))))))))
              have q:=esc_spec hm936
              obtain ⟨v937,hm938,e939⟩:=q
              obtain rfl:=jn_inr hm173 hX206 (hb213 v937 e939)
              refine zB (zI (zB ?_))
              have hE:=Option.some.inj hm938;first | subst r | cases hE
              exact ⟨rfl,_,(zq rfl),φ839,_,(hS860.pick [] _ (by decide) rfl),rfl,rfl⟩
            ·intro c879 hm940
             refine oT Z c879 (oT Z c879 (oT Z c879 (oT Z c879 (oT Z c879 (oT Z c879 (oT Z c879 (oR Z (fun _=>zM Z (Zb c879.out) Z) (oM Z Z (oN Z (oN Z (oN Z (oN Z (oN Z (oN Z (oN Z (oR Z (fun _=>zM Z Z Z) (oM Z Z (oN Z (oN Z (oN Z (oN Z (oN Z (oN Z (oN Z (oN Z (oR Z (fun _=>zM Z Z Z) (eN (zn Z (sR fL1 Z (oA Z Z (eN (zO (zI (zB ?_))))))))))))))))))))))))))))))))))
             have q:=esc_spec hm940
             obtain ⟨v941,hm942,e943⟩:=q
             obtain rfl:=jn_inr hm173 hX206 (hb213 v941 e943)
             refine zB (zI (zB ?_))
             have hE:=Option.some.inj hm942;first | subst r | cases hE
             exact ⟨rfl,_,(zq rfl),φ839,_,(hS860.pick [] _ (by decide) rfl),rfl,rfl⟩
          ·rintro ⟨⟩ σ944 W945 ⟨φ948,fi947,f951,f952,f953,f954,f955,f956,f957,le949,hS950⟩ hb946
           have hm958:=jn_inl hm173 hX206 hb946
           try dsimp only at hm958
           have c959:Hid (¬ ((↑(((↑x16.Teams.length:Int):Int) - 0).toNat:Int) < (↑x16.Teams.length:Int))):=zG (lp_end0)
           refine sR fL1 Z (oR Z (fun _=>zW Z fi947 f957) (eN (zE (cF Z c959 (ZG (ze (ze (zw (zH (sR (fC0_4 (.fx 5 (.fl 6 (.nil)) .stop)) Z (oM Z f951 (oR Z (fun _=>zF Z f952 zL Z ZE) (oR Z (fun _=>zF Z Z zg Z zN) (oL Z (hS950.ldB (j:=1) Z Z Z zd (v:=.slice A26 x16.Rules.Classes.length c27) Z) (oR Z (fun _=>zV Z Z zA) (bnK hm958 fun x960 h961 hm962=>zU 0 Z Z Z Z (zP Z Z Tryz.call23 (zD Z (zD Z zZ)) Z) hS950 (fun hs=>w_klisterkit_Fold p1 (↑x16.Rules.Classes.length:Int) W945 φ948 hs h961) (.inr Z) ?_))))))))))))))))
           rintro φ963 L964 v965 W966 le967 hS968 ⟨rfl,rfl⟩
           have hS969:St ⟨w,[],φ⟩ φ963 [B5,B2,B0] W966:=hS968
           refine oA Z Z (eN (sR (.fl 0 (.fl 1 (.fx 2 (fC3_7 (.nil)) .stop))) Z (oL Z (hS969.ldBA (j:=1) Z Z f952 ZW zy (vs:=[.slice A26 x16.Rules.Classes.length c27,.int .i64 x16.Rules.Each,.int .i64 x16.Rules.Laps,.int .i64 x16.Rules.Spare,.int .i64 x16.Rules.Loop,.int .i64 x16.Rules.Unused,.int .i64 x16.Start,.slice A28 x16.Teams.length c29]) Z Z) (oM Z Z ?_))))
           have h970:=h125.le le134
           have h971:=h970.le le148
           have h972:=h971.le le153
           have h973:=h972.le le169
           have h974:=h973.le le183
           have h975:=h974.le le194
           have h976:=h975.le le949
           have h977:=h976.le le967
           have h978:=h126.le le134
           have h979:=h978.le le148
           have h980:=h979.le le153
           have h981:=h980.le le169
           have h982:=h981.le le183
           have h983:=h982.le le194
           have h984:=h983.le le949
           have h985:=h984.le le967
           have q:=bnd hm962
           obtain ⟨⟨x986,x987⟩,h988,hm989⟩:=q
           try dsimp only at hm989
           refine zU 0 Z Z Z Z (zP Z Z Tryz.call24 (zD Z (zD Z zZ)) Z) hS969 (fun hs=>w_relay_Places x16 A26 c27 A28 c29 x960 W966 φ963 hs h977 h985 h988) (.inr Z) ?_
           rintro φ990 L991 v992 W993 le994 hS995 ⟨A996,c997,rfl,rfl⟩
           let B10:Res:=.row A996 c997 3 1 (List.flatMap KL.encI x986)
           have hS999:St ⟨w,[],φ⟩ φ990 [B10,B5,B2,B0] W993:=hS995
           refine oM Z Z (oR Z (fun _=>ZM Z Z (v:=.slice A996 x986.length c997) Z) (oR Z (fun _=>ZM Z Z (v:=.int .i64 x987) Z) (oA Z Z (oA Z Z (eN (sR (.fl 0 (.fl 1 (.fx 2 (fC3_9 (.nil)) .stop))) Z (oL Z (hS999.ldBA (j:=2) Z Z f952 ZW zy (vs:=[.slice A26 x16.Rules.Classes.length c27,.int .i64 x16.Rules.Each,.int .i64 x16.Rules.Laps,.int .i64 x16.Rules.Spare,.int .i64 x16.Rules.Loop,.int .i64 x16.Rules.Unused,.int .i64 x16.Start,.slice A28 x16.Teams.length c29]) Z Z) (oM Z Z ?_))))))))
           have h1000:=h977.le le994
           have h1001:=h985.le le994
           have q:=bnd hm989
           obtain ⟨⟨x1002,x1003,x1004⟩,h1005,hm1006⟩:=q
           try dsimp only at hm1006
           refine zU 0 Z Z Z Z (zP Z Z Tryz.call25 (zD Z (zD Z zZ)) Z) hS999 (fun hs=>w_relay_Fastest x16 A26 c27 A28 c29 x960 W993 φ990 hs h1000 h1001 h1005) (.inr Z) ?_
           rintro φ1007 L1008 v1009 W1010 le1011 hS1012 ⟨A1013,c1014,rfl,rfl⟩
           have hS1016:St ⟨w,[],φ⟩ φ1007 [.row A1013 c1014 3 1 (List.flatMap KL.encI x1002),B10,B5,B2,B0] W1010:=hS1012
           refine oM Z Z (oR Z (fun _=>ZM Z Z (v:=.slice A1013 x1002.length c1014) Z) (oR Z (fun _=>ZM Z Z (v:=.int .i64 x1003) Z) (oR Z (fun _=>ZM Z Z (v:=.int .i64 x1004) Z) (oA Z Z (oA Z Z (oA Z Z (eN (zE (bnK hm1006 fun b1017 hx1019 hm1020=>CK.cut (fun σ_ w_=>∃ (φ_:PHeap),σ_ 5=.pointer (some ⟨b39,0,none⟩)∧σ_ 8=.slice A95 x85.length c96∧σ_ 9=.int .i64 x1004∧σ_ 10=.slice A113 x103.length c114∧σ_ 24=.int .i64 x960∧σ_ 25=.slice A996 x986.length c997∧σ_ 26=.slice A1013 x1002.length c1014∧σ_ 27=.int .i64 x1003∧σ_ 338=.bool b1017∧PHeap.Le φ1007 φ_∧St ⟨w,[],φ⟩ φ_ [B5,B2,B0,B10,.row A1013 c1014 3 1 (List.flatMap KL.encI x1002)] w_) ?_ ?_)))))))))
           ·refine rR fL18 Z (oM Z Z (oR Z (fun _=>ZI Z Z Z) (oM Z Z ?_)))
            by_cases c1021:x987=0
            ·have hm1022:=hx1019;rw [if_pos c1021] at hm1022;replace c1021:=zG c1021
             refine zj Z Z Z (zK Z Z (zX (fun h=>h c1021.out))) Z Z (zi Z Z Z (zK Z Z (zX (fun h=>h c1021.out))) (fun _=>zV Z Z zA) (zi Z Z Z (zK Z Z (zX (fun h=>h c1021.out))) (fun _=>zF Z f952 zL Z ZH) (ZD Z Z Z (zK Z Z (zX (fun h=>h c1021.out))) (hS1016.ldB (j:=3) Z Z Z ZO (v:=.slice A28 x16.Teams.length c29) Z) Z (zi Z Z Z (zK Z Z (zX (fun h=>h c1021.out))) (fun _=>zV Z Z zm) (zi Z Z Z (zK Z Z (zX (fun h=>h c1021.out))) (fun _=>ZI Z Z Z) (oR Z (fun _=>zl Z (zX (fun h=>h c1021.out)) Z) (oM Z Z (ifc hm1022 ?_ ?_))))))))
             ·intro c1023 hm1024
              refine zj Z Z Z (zK Z Z (zX (fun h=>h c1023.out))) Z Z (zi Z Z Z (zK Z Z (zX (fun h=>h c1023.out))) (fun _=>ZI Z Z Z) (zj Z Z Z (zK Z Z (zX (fun h=>h c1023.out))) Z Z (ifc hm1024 ?_ ?_)))
              ·intro c1025 hm1026
               refine ZQ Z Z Z (ZA Z Z (zX (fun h=>h c1025.out)) Z) (ZQ Z Z Z (ZA Z Z (zX (fun h=>h c1025.out)) Z) (zi Z Z Z (zK Z Z (zX (fun h=>h c1023.out))) (fun _=>zl Z (zX (fun h=>h c1025.out)) Z) (oR Z (fun _=>zl Z (zX (fun h=>h c1023.out)) Z) (zp ?_))))
               cases hm1026
               exact zH ⟨rfl,⟨φ1007,f952,f954,rfl,f955,rfl,rfl,rfl,rfl,rfl,(zf _),(hS1016.pick [2,3,4,1,0] _ (by decide) rfl)⟩⟩
              ·intro c1025 hm1028
               refine zj Z Z Z (wT Z c1025) Z Z (rU Z (wT Z c1025) (fun _=>ZI Z Z Z) (zi Z Z Z (zK Z Z (zX (fun h=>h c1023.out))) (fun _=>zM Z (Zb c1025.out) Z) (oR Z (fun _=>zl Z (zX (fun h=>h c1023.out)) Z) (zp ?_))))
               cases hm1028
               exact zH ⟨rfl,⟨φ1007,f952,f954,rfl,f955,rfl,rfl,rfl,rfl,rfl,(zf _),(hS1016.pick [2,3,4,1,0] _ (by decide) rfl)⟩⟩
             ·intro c1023 hm1030
              refine oT Z c1023 (oT Z c1023 (oT Z c1023 (ZQ Z Z Z (wantedU Z Z Z) (ZQ Z Z Z (wantedU Z Z Z) (oT Z c1023 (oR Z (fun _=>zM Z (Zb c1023.out) Z) (zp ?_)))))))
              cases hm1030
              exact zH ⟨rfl,⟨φ1007,f952,f954,rfl,f955,rfl,rfl,rfl,rfl,rfl,(zf _),(hS1016.pick [2,3,4,1,0] _ (by decide) rfl)⟩⟩
            ·have hm1032:=hx1019;rw [if_neg c1021] at hm1032;replace c1021:=zG c1021
             refine oT Z c1021 (oT Z c1021 (oT Z c1021 (oT Z c1021 (oT Z c1021 (oT Z c1021 (oR Z (fun _=>zM Z (Zb c1021.out) Z) (oM Z Z (oN Z (oN Z (oN Z (ZQ Z Z Z (wantedU Z Z Z) (ZQ Z Z Z (wantedU Z Z Z) (oN Z (oR Z (fun _=>zM Z Z Z) (zp ?_)))))))))))))))
             cases hm1032
             exact zH ⟨rfl,⟨φ1007,f952,f954,rfl,f955,rfl,rfl,rfl,rfl,rfl,(zf _),(hS1016.pick [2,3,4,1,0] _ (by decide) rfl)⟩⟩
           ·rintro σ1034 W1035 ⟨φ1036,f1039,f1040,f1041,f1042,f1043,f1044,f1045,f1046,f1047,le1037,hS1038⟩
            refine ifc hm1020 ?_ ?_
            ·intro c1048 hm1049
             refine zn (f1047.trans (congrArg Value.bool c1048.out)) (sR fL1 Z (oA Z Z (eN (zO (zB ?_)))))
             have hE:=Option.some.inj hm1049;first | subst r | cases hE
             exact ⟨rfl,_,(zq rfl),φ1036,_,(hS1038.pick [] _ (by decide) rfl),rfl,rfl⟩
            ·intro c1048 hm1050
             refine zr (f1047.trans (congrArg Value.bool (Bool.eq_false_iff.2 c1048.out))) (kN (zE (sR fL3 Z (oM Z f1040 (oR Z (fun _=>zV Z Z zQ) (oM Z Z (eN (zS ?_))))))))
             have q:=hS1038.freezeR (k:=4) (n:=x1002.length) rfl (flatMap_len (f:=KL.encI) (sz:=1) (fun _=>rfl) x1002) (by decide)
             obtain ⟨φ1052,le1053,hs1054,hS1055⟩:=q
             have hS1056:St ⟨w,[],φ⟩ φ1052 [B5,B2,B0,B10] W1035:=hS1055
             have q:=jn_some hm1050
             obtain ⟨r1060,hX1061⟩:=q
             have q:=forR_le hX1061
             obtain ⟨hle1062,hf1063⟩:=q
             replace hle1062:=zG hle1062
             refine Zx (fun k1059 _ σ_ w_=>∃ (φ_:PHeap),σ_ 341=.int .i64 (↑k1059:Int)∧σ_ 5=.pointer (some ⟨b39,0,none⟩)∧σ_ 8=.slice A95 x85.length c96∧σ_ 9=.int .i64 x1004∧σ_ 10=.slice A113 x103.length c114∧σ_ 24=.int .i64 x960∧σ_ 25=.slice A996 x986.length c997∧σ_ 26=.slice A1013 x1002.length c1014∧σ_ 27=.int .i64 x1003∧σ_ 339=.slice A95 x85.length c96∧σ_ 340=.int .i64 (↑x85.length:Int)∧PHeap.Le φ1052 φ_∧St ⟨w,[],φ⟩ φ_ [B5,B2,B0,B10] w_) hf1063 ?_ ?_ ?_
             ·exact ⟨φ1052,Z,f1039,f1040,f1041,f1042,f1043,f1044,f1045,f1046,Z,Z,(zf _),hS1056⟩
             ·rintro k1059 ⟨⟩ xx1066 σ1064 W1065 hk1069 ⟨φ1071,fi1070,f1074,f1075,f1076,f1077,f1078,f1079,f1080,f1081,f1082,f1083,le1072,hS1073⟩ hx1067 hb1068
              try dsimp only at hx1067
              have c1084:Hid ((↑k1059:Int) < (↑x85.length:Int)):=zG (lp_lt0 hk1069)
              replace hk1069:=zG hk1069
              have hi1085:Hid (w64 ((↑k1059:Int) + 1)=(↑(k1059 + 1):Int)):=zG (by have h1:=hle1062.out;have h2:=c1084.out;rw [w64_in] <;> omega)
              refine sR fL1 Z (oR Z (fun _=>zW Z fi1070 f1083) (eN (zE (cT Z c1084 (kN (zE (zS (sR fL5 Z (oM Z fi1070 (bnK hx1067 fun x1086 h1087 hm1088=>?_))))))))))
              have h1089:=hs184.le le194
              have h1090:=h1089.le le949
              have h1091:=h1090.le le967
              have h1092:=h1091.le le994
              have h1093:=h1092.le le1011
              have h1094:=h1093.le le1037
              have h1095:=h1094.le le1053
              have h1096:=h1095.le le1072
              have q:=h1096.el (idx_get h1087)
              obtain ⟨b1097,off1098,vs1101,hA1099,hC1100,hr1102⟩:=q
              obtain ⟨pA1103,pc1104,rfl,h1105⟩:=hr1102
              replace hC1100:Cl φ1071 b1097 (off1098 + k1059 * 1) [.slice pA1103 x1086.length pc1104]:=hC1100
              refine oR Z (fun _=>zu Z f1082 hA1099 fi1070 zQ zN (idx_lt h1087)) (oL Z (hS1073.ldC (f:=0) hC1100 (v:=.slice pA1103 x1086.length pc1104) Z Z zd Z) (oA Z Z (oA Z Z (eN (sR fL1 Z (oA Z Z (eN (zE (sR fL4 Z (oM Z Z (oR Z (fun _=>zV Z Z zA) (oM Z f1078 (oR Z (fun _=>Zy Z Z Z) (eN (ifc hm1088 ?_ ?_)))))))))))))))
              ·intro c1106 hm1107
               refine cT Z c1106 (sR fL1 Z (oA Z Z (eN (zE (sR fL3 Z (oM Z f1075 (oR Z (fun _=>zV Z Z zQ) (oM Z Z (eN (zS (bnK hm1107 fun y1119 hf1116 hm1115=>?_)))))))))))
               have q:=forR'_le hf1116
               obtain ⟨hle1117,hf1118⟩:=q
               replace hle1117:=zG hle1117
               refine CK.forN' (fun k1114 x1113 σ_ w_=>∃ (φ_:PHeap),σ_ 352=.int .i64 (↑k1114:Int)∧σ_ 5=.pointer (some ⟨b39,0,none⟩)∧σ_ 8=.slice A95 x85.length c96∧σ_ 9=.int .i64 x1004∧σ_ 10=.slice A113 x103.length c114∧σ_ 24=.int .i64 x960∧σ_ 25=.slice A996 x986.length c997∧σ_ 26=.slice A1013 x1002.length c1014∧σ_ 27=.int .i64 x1003∧σ_ 28=.int .i64 (↑k1059:Int)∧σ_ 29=.slice pA1103 x1086.length pc1104∧σ_ 30=.int .i64 x1113∧σ_ 339=.slice A95 x85.length c96∧σ_ 340=.int .i64 (↑x85.length:Int)∧σ_ 341=.int .i64 (↑k1059:Int)∧σ_ 350=.slice A95 x85.length c96∧σ_ 351=.int .i64 (↑x85.length:Int)∧PHeap.Le φ1071 φ_∧St ⟨w,[],φ⟩ φ_ [B5,B2,B0,B10] w_) hf1118 ?_ ?_ ?_
               ·exact ⟨φ1071,Z,f1074,f1075,f1076,f1077,f1078,f1079,f1080,f1081,Z,Z,Z,f1082,f1083,fi1070,Z,Z,(zf _),hS1073⟩
               ·rintro k1114 x1113 xx1122 σ1120 W1121 hk1125 ⟨φ1127,fi1126,f1130,f1131,f1132,f1133,f1134,f1135,f1136,f1137,f1138,f1139,f1140,f1141,f1142,f1143,f1144,f1145,le1128,hS1129⟩ hx1123
                have c1146:Hid ((↑k1114:Int) < (↑x85.length:Int)):=zG (lp_lt0 hk1125)
                replace hk1125:=zG hk1125
                have hi1147:Hid (w64 ((↑k1114:Int) + 1)=(↑(k1114 + 1):Int)):=zG (by have h1:=hle1117.out;have h2:=c1146.out;rw [w64_in] <;> omega)
                refine sR fL1 Z (oR Z (fun _=>zW Z fi1126 f1145) (eN (zE (cT Z c1146 (kN (zE (zS (sR fL3 Z (bnK hx1123 fun x1148 h1149 hm1150=>?_)))))))))
                have h1151:=h1096.le le1128
                have q:=h1151.el (idx_get h1149)
                obtain ⟨b1152,off1153,vs1156,hA1154,hC1155,hr1157⟩:=q
                obtain ⟨pA1158,pc1159,rfl,h1160⟩:=hr1157
                replace hC1155:Cl φ1127 b1152 (off1153 + k1114 * 1) [.slice pA1158 x1148.length pc1159]:=hC1155
                refine zi rfl rfl rfl rfl (fun _=>zu rfl f1144 hA1154 fi1126 zQ zN (idx_lt h1149)) (ZD rfl rfl rfl rfl (hS1129.ldC (f:=0) hC1155 (v:=.slice pA1158 x1148.length pc1159) rfl rfl zd rfl) rfl (OKS.ra rfl rfl rfl rfl rfl rfl (eN (zE (Zh ZY [3,3,3,3,3,3,3,3,1,3,3,3,1,3,3] fL15 (by kernel_rfl) ?_)))))
                have hS1161:=hS1129.drew
                generalize hw_W1162:({ W1121 with drawn:=W1121.drawn + 1 }:World)=W1162 at hS1161 ⊢
                refine oM Z Z (oR Z (fun _=>zV Z Z zA) (oM Z f1134 (oR Z (fun _=>Zy Z Z Z) (oM Z Z (ifc hm1150 ?_ ?_)))))
                ·intro c1163 hm1164
                 refine zj Z Z Z (wT Z c1163) Z Z (zj Z Z Z (wT Z c1163) Z f1134 (bnK hm1164 fun x1165 h1166 hm1167=>?_))
                 have q:=h1160.el (fun _=>rfl) (idx_get h1166)
                 obtain ⟨b1168,off1169,hA1170,hC1171⟩:=q
                 refine rU Z (wT Z c1163) (fun _=>Zo Z Z hA1170 Z zA zJ (idx_lo h1166) (idx_hi h1166)) (ZD Z Z Z (wT Z c1163) (hS1161.ldC (f:=0) hC1171 (v:=.int .i64 x1165) Z Z zR Z) Z (zj Z Z Z (wT Z c1163) Z f1139 (zj Z Z Z (wT Z c1163) Z f1134 (bnK hm1167 fun x1172 h1173 hm1174=>?_))))
                 have h1175:=h1105.le le1128
                 have q:=h1175.el (fun _=>rfl) (idx_get h1173)
                 obtain ⟨b1176,off1177,hA1178,hC1179⟩:=q
                 refine rU Z (wT Z c1163) (fun _=>Zo Z Z hA1178 Z zA zJ (idx_lo h1173) (idx_hi h1173)) (ZD Z Z Z (wT Z c1163) (hS1161.ldC (f:=0) hC1179 (v:=.int .i64 x1172) Z Z zR Z) Z (rU Z (wT Z c1163) (fun _=>zW Z Z Z) (oR Z (fun _=>zM Z (Zb c1163.out) Z) (eN (ifc hm1174 ?_ ?_)))))
                 ·intro c1180 hm1181
                  refine cT Z c1180 (rR fL3 Z (oM Z f1140 (oR Z (fun _=>zY Z Z Z) (oA Z Z (zp (zh (zH (rR fL2 Z (oR Z (fun _=>zz (zY Z fi1126 Z) (congrArg (Value.int .i64) hi1147.out)) (oM Z Z (zp ?_)))))))))))
                  cases hm1181
                  exact zH ⟨Z,⟨φ1127,Z,f1130,f1131,f1132,f1133,f1134,f1135,f1136,f1137,f1138,f1139,Z,f1141,f1142,f1143,f1144,f1145,le1128,hS1161⟩⟩
                 ·intro c1180 hm1183
                  refine cF Z c1180 (ZU (zh (zH (rR fL2 Z (oR Z (fun _=>zz (zY Z fi1126 Z) (congrArg (Value.int .i64) hi1147.out)) (oM Z Z (zp ?_)))))))
                  cases hm1183
                  exact zH ⟨Z,⟨φ1127,Z,f1130,f1131,f1132,f1133,f1134,f1135,f1136,f1137,f1138,f1139,f1140,f1141,f1142,f1143,f1144,f1145,le1128,hS1161⟩⟩
                ·intro c1163 hm1185
                 refine oF Z c1163 (oF Z c1163 (oF Z c1163 (oF Z c1163 (oF Z c1163 (oF Z c1163 (oF Z c1163 (oF Z c1163 (oF Z c1163 (oR Z (fun _=>zl Z (zX c1163.out) Z) (eN (zr Z (ZU (zh (zH (rR fL2 Z (oR Z (fun _=>zz (zY Z fi1126 Z) (congrArg (Value.int .i64) hi1147.out)) (oM Z Z (zp ?_))))))))))))))))))
                 cases hm1185
                 exact zH ⟨Z,⟨φ1127,Z,f1130,f1131,f1132,f1133,f1134,f1135,f1136,f1137,f1138,f1139,f1140,f1141,f1142,f1143,f1144,f1145,le1128,hS1161⟩⟩
               ·rintro σ1187 W1188 ⟨φ1192,fi1190,f1195,f1196,f1197,f1198,f1199,f1200,f1201,f1202,f1203,f1204,f1205,f1206,f1207,f1208,f1209,f1210,le1193,hS1194⟩
                have c1211:Hid (¬ ((↑(((↑x85.length:Int):Int) - 0).toNat:Int) < (↑x85.length:Int))):=zG (lp_end0)
                refine sR fL1 rfl (zi rfl rfl rfl rfl (fun _=>zW rfl fi1190 f1210) (eN (zE (cF Z c1211 (ZG (ze (ze (zw (zH (zE (Zh ZY [3,3,3,3,3,3,1,3,3,1,3,3,3,3,3,3,3,1,3,3,1,3,3,3,3,1,3,3,3,1,2,3,3] (fC0_29 (.fx 30 (.fl 31 (.fl 32 (.nil))) .stop)) (by kernel_rfl) ?_)))))))))))
                have hS1212:=hS1194.drew
                generalize hw_W1213:({ W1188 with drawn:=W1188.drawn + 1 }:World)=W1213 at hS1212 ⊢
                refine oM Z f1197 (oR Z (fun _=>ZI Z Z Z) (oM Z Z (ifc hm1115 ?_ ?_)))
                ·intro c1214 hm1215
                 refine zj Z Z Z (zK Z Z (zX (fun h=>h c1214.out))) Z f1198 (zj Z Z Z (zK Z Z (zX (fun h=>h c1214.out))) Z f1203 (bnK hm1215 fun x1216 h1217 hm1218=>?_))
                 have h1219:=hs195.le le949
                 have h1220:=h1219.le le967
                 have h1221:=h1220.le le994
                 have h1222:=h1221.le le1011
                 have h1223:=h1222.le le1037
                 have h1224:=h1223.le le1053
                 have h1225:=h1224.le le1072
                 have h1226:=h1225.le le1193
                 have q:=h1226.el (idx_get h1217)
                 obtain ⟨b1227,off1228,vs1231,hA1229,hC1230,hr1232⟩:=q
                 obtain ⟨pA1233,pc1234,rfl,h1235⟩:=hr1232
                 replace hC1230:Cl φ1192 b1227 (off1228 + k1059 * 1) [.slice pA1233 x1216.length pc1234]:=hC1230
                 refine zi Z Z Z (zK Z Z (zX (fun h=>h c1214.out))) (fun _=>zu Z Z hA1229 Z zQ zN (idx_lt h1217)) (ZD Z Z Z (zK Z Z (zX (fun h=>h c1214.out))) (hS1212.ldC (f:=0) hC1230 (v:=.slice pA1233 x1216.length pc1234) Z Z zd Z) Z (zj Z Z Z (zK Z Z (zX (fun h=>h c1214.out))) Z f1199 (bnK hm1218 fun x1236 h1237 hm1238=>?_)))
                 have q:=h1235.el (fun _=>rfl) (idx_get h1237)
                 obtain ⟨b1239,off1240,hA1241,hC1242⟩:=q
                 refine zi Z Z Z (zK Z Z (zX (fun h=>h c1214.out))) (fun _=>Zo Z Z hA1241 Z zA zJ (idx_lo h1237) (idx_hi h1237)) (ZD Z Z Z (zK Z Z (zX (fun h=>h c1214.out))) (hS1212.ldC (f:=0) hC1242 (v:=.int .i64 x1236) Z Z zR Z) Z (zj Z Z Z (zK Z Z (zX (fun h=>h c1214.out))) Z f1202 (zi Z Z Z (zK Z Z (zX (fun h=>h c1214.out))) (fun _=>zW Z Z Z) (oR Z (fun _=>zl Z (zX (fun h=>h c1214.out)) Z) (oM Z Z (ifc hm1238 ?_ ?_))))))
                 ·intro c1243 hm1244
                  refine oT Z c1243 (oT Z c1243 (oT Z c1243 (oT Z c1243 (oT Z c1243 (oT Z c1243 (oT Z c1243 (oT Z c1243 (oT Z c1243 (oT Z c1243 (oT Z c1243 (oT Z c1243 (oT Z c1243 (oT Z c1243 (oT Z c1243 (oT Z c1243 (Zq Z Z Z (ZA Z Z (Zb c1243.out) Z) (oT Z c1243 (oR Z (fun _=>zM Z (Zb c1243.out) Z) (eN (zn Z (sR fL1 Z (oA Z Z (eN (zO (zB (zI (zB ?_)))))))))))))))))))))))))))
                  have q:=esc_spec hm1244
                  obtain ⟨v1245,hm1246,e1247⟩:=q
                  obtain rfl:=jn_inr hm1050 hX1061 (hb1068 v1245 e1247)
                  refine zB (zI (zB ?_))
                  have hE:=Option.some.inj hm1246;first | subst r | cases hE
                  exact ⟨rfl,_,(zq rfl),φ1192,_,(hS1212.pick [] _ (by decide) rfl),rfl,rfl⟩
                 ·intro c1243 hm1248
                  refine zj Z Z Z (wF Z c1243) Z f1198 (zj Z Z Z (wF Z c1243) Z f1203 ?_)
                  have q:=h1226.el (idx_get h1217)
                  obtain ⟨b1249,off1250,vs1253,hA1251,hC1252,hr1254⟩:=q
                  obtain ⟨pA1255,pc1256,rfl,h1257⟩:=hr1254
                  replace hC1252:Cl φ1192 b1249 (off1250 + k1059 * 1) [.slice pA1255 x1216.length pc1256]:=hC1252
                  refine rU Z (wF Z c1243) (fun _=>zu Z Z hA1251 Z zQ zN (idx_lt h1217)) (ZD Z Z Z (wF Z c1243) (hS1212.ldC (f:=0) hC1252 (v:=.slice pA1255 x1216.length pc1256) Z Z zd Z) Z (zj Z Z Z (wF Z c1243) Z f1199 ?_))
                  have q:=h1257.el (fun _=>rfl) (idx_get h1237)
                  obtain ⟨b1258,off1259,hA1260,hC1261⟩:=q
                  refine rU Z (wF Z c1243) (fun _=>Zo Z Z hA1260 Z zA zJ (idx_lo h1237) (idx_hi h1237)) (ZD Z Z Z (wF Z c1243) (hS1212.ldC (f:=0) hC1261 (v:=.int .i64 x1236) Z Z zR Z) Z (zj Z Z Z (wF Z c1243) Z f1202 (rU Z (wF Z c1243) (fun _=>Runs.eql Z Z Z) (zj Z Z Z (wF Z c1243) Z f1201 (rU Z (wF Z c1243) (fun _=>zF Z f1195 zL Z ZH) (ZD Z Z Z (wF Z c1243) (hS1212.ldB (j:=1) Z Z Z ZO (v:=.slice A28 x16.Teams.length c29) Z) Z (zj Z Z Z (wF Z c1243) Z f1203 (bnK hm1248 fun x1262 h1263 hm1264=>?_))))))))
                  have h1265:=h1001.le le1011
                  have h1266:=h1265.le le1037
                  have h1267:=h1266.le le1053
                  have h1268:=h1267.le le1072
                  have h1269:=h1268.le le1193
                  have q:=h1269.el (idx_get h1263)
                  obtain ⟨b1270,off1271,vs1274,hA1272,hC1273,hr1275⟩:=q
                  obtain ⟨pA1276,pc1277,pA1278,pc1279,rfl,h1280,h1281⟩:=hr1275
                  replace hC1273:Cl φ1192 b1270 (off1271 + k1059 * 3) [.int .i64 x1262.Bib,.slice pA1276 x1262.Classes.length pc1277,.slice pA1278 x1262.Legs.length pc1279]:=hC1273
                  refine rU Z (wF Z c1243) (fun _=>zu Z Z hA1272 Z zm ZB (idx_lt h1263)) (rU Z (wF Z c1243) (fun _=>zF Z Z zk Z zJ) (ZD Z Z Z (wF Z c1243) (hS1212.ldC (f:=0) hC1273 (v:=.int .i64 x1262.Bib) Z Z zR Z) Z ?_))
                  have h1282:=hs1054.le le1072
                  have h1283:=h1282.le le1193
                  refine bnK hm1264 fun x1284 h1285 hm1286=>zU 0 Z Z Z (wF Z c1243) (zP Z Z Tryz.call26 (zD Z (zD Z zZ)) Z) hS1212 (fun hs=>w_slices_Contains_int_int x1002 A1013 c1014 x1262.Bib W1213 φ1192 hs h1283 h1285) (.inr Z) ?_
                  rintro φ1287 L1288 v1289 W1290 le1291 hS1292 ⟨rfl,rfl⟩
                  have hS1293:St ⟨w,[],φ⟩ φ1287 [B5,B2,B0,B10] W1290:=hS1292
                  refine rU Z (wF Z c1243) (fun _=>Runs.neB Z Z Z Tryz.runUnderlying4) (oR Z (fun _=>zl Z (zX c1243.out) Z) (eN (ifc hm1286 ?_ ?_)))
                  ·intro c1294 hm1295
                   refine zr (congrArg (fun b=>Value.bool (!b)) c1294.out) (kN (sR fL6 Z (oM Z f1200 (oM Z f1203 (bnK hm1295 fun _ h1296 hm1297=>?_)))))
                   obtain ⟨b1298,hA1299⟩:=hS1293.rowSome (j:=3) rfl (by rw [flatMap_len (f:=KL.encI) (sz:=1) (fun _=>rfl) x986];have hz:=chk_lt h1296;omega)
                   refine oR Z (fun _=>zu Z Z hA1299 Z zA zJ (chk_lt h1296)) ?_
                   have hg1300:=gd_at (xs:=x986) (chk_lt h1296)
                   refine ZD rfl rfl rfl rfl (hS1293.ldR (j:=3) rfl hA1299 rfl rfl zR (flatMap_cell (sz:=1) (fun _=>rfl) _ _ 0 _ hg1300 (by first | omega | rfl | simp) rfl)) rfl (zj rfl rfl rfl rfl rfl f1205 (zi rfl rfl rfl rfl (fun _=>ZI rfl rfl rfl) (eN (ifc hm1297 ?_ ?_))))
                   ·intro c1301 hm1302
                    refine zr (zX (fun h=>h c1301.out)) (ZU (zh (zH (rR fL2 Z (oR Z (fun _=>zz (zY Z f1208 Z) (congrArg (Value.int .i64) hi1085.out)) (oM Z Z (zp ?_)))))))
                    obtain rfl:=Option.some.inj hm1302
                    exact zH ⟨Z,_,Z,⟨φ1287,Z,f1195,f1196,f1197,f1198,f1199,f1200,f1201,f1202,f1206,f1207,((le1072.trans le1193).trans le1291),hS1293⟩⟩
                   ·intro c1301 hm1303
                    refine cT Z c1301 (sR fL1 Z (oA Z Z (eN (zO (zI (zB ?_))))))
                    have q:=esc_spec hm1303
                    obtain ⟨v1304,hm1305,e1306⟩:=q
                    obtain rfl:=jn_inr hm1050 hX1061 (hb1068 v1304 e1306)
                    refine zB (zI (zB ?_))
                    have hE:=Option.some.inj hm1305;first | subst r | cases hE
                    exact ⟨rfl,_,(zq rfl),φ1287,_,(hS1293.pick [] _ (by decide) rfl),rfl,rfl⟩
                  ·intro c1294 hm1307
                   refine zn (congrArg (fun b=>Value.bool (!b)) (Bool.eq_false_iff.2 c1294.out)) (sR fL1 Z (oA Z Z (eN (zO (zB (zI (zB ?_)))))))
                   have q:=esc_spec hm1307
                   obtain ⟨v1308,hm1309,e1310⟩:=q
                   obtain rfl:=jn_inr hm1050 hX1061 (hb1068 v1308 e1310)
                   refine zB (zI (zB ?_))
                   have hE:=Option.some.inj hm1309;first | subst r | cases hE
                   exact ⟨rfl,_,(zq rfl),φ1287,_,(hS1293.pick [] _ (by decide) rfl),rfl,rfl⟩
                ·intro c1214 hm1311
                 refine oT Z c1214 (oT Z c1214 (oT Z c1214 (oT Z c1214 (oT Z c1214 (oT Z c1214 (oT Z c1214 (oT Z c1214 (oT Z c1214 (oR Z (fun _=>zM Z (Zb c1214.out) Z) (oM Z Z (oN Z (oN Z (oN Z (oN Z (oN Z (oN Z (oN Z (oN Z (oN Z (oN Z (oN Z (oN Z (oN Z (oN Z (oN Z (oN Z (Zq Z Z Z (ZA Z Z Z Z) (oN Z (oR Z (fun _=>zM Z Z Z) (eN (zn Z (sR fL1 Z (oA Z Z (eN (zO (zB (zI (zB ?_))))))))))))))))))))))))))))))))))))))
                 have q:=esc_spec hm1311
                 obtain ⟨v1312,hm1313,e1314⟩:=q
                 obtain rfl:=jn_inr hm1050 hX1061 (hb1068 v1312 e1314)
                 refine zB (zI (zB ?_))
                 have hE:=Option.some.inj hm1313;first | subst r | cases hE
                 exact ⟨rfl,_,(zq rfl),φ1192,_,(hS1212.pick [] _ (by decide) rfl),rfl,rfl⟩
              ·intro c1106 hm1315
               refine cF Z c1106 (kN (sR fL6 Z (oM Z f1079 (oM Z Z (bnK hm1315 fun _ h1316 hm1317=>?_)))))
               obtain ⟨b1318,hA1319⟩:=hS1073.rowSome (j:=3) rfl (by rw [flatMap_len (f:=KL.encI) (sz:=1) (fun _=>rfl) x986];have hz:=chk_lt h1316;omega)
               refine oR Z (fun _=>zu Z Z hA1319 Z zA zJ (chk_lt h1316)) ?_
               have hg1320:=gd_at (xs:=x986) (chk_lt h1316)
               refine ZD rfl rfl rfl rfl (hS1073.ldR (j:=3) rfl hA1319 rfl rfl zR (flatMap_cell (sz:=1) (fun _=>rfl) _ _ 0 _ hg1320 (by first | omega | rfl | simp) rfl)) rfl (zj rfl rfl rfl rfl rfl rfl (zi rfl rfl rfl rfl (fun _=>ZI rfl rfl rfl) (eN (ifc hm1317 ?_ ?_))))
               ·intro c1321 hm1322
                refine zr (zX (fun h=>h c1321.out)) (ZU (zh (zH (rR fL2 Z (oR Z (fun _=>zz (zY Z fi1070 Z) (congrArg (Value.int .i64) hi1085.out)) (oM Z Z (zp ?_)))))))
                obtain rfl:=Option.some.inj hm1322
                exact zH ⟨Z,_,Z,⟨φ1071,Z,f1074,f1075,f1076,f1077,f1078,f1079,f1080,f1081,f1082,f1083,le1072,hS1073⟩⟩
               ·intro c1321 hm1323
                refine cT Z c1321 (sR fL1 Z (oA Z Z (eN (zO (zI (zB ?_))))))
                have q:=esc_spec hm1323
                obtain ⟨v1324,hm1325,e1326⟩:=q
                obtain rfl:=jn_inr hm1050 hX1061 (hb1068 v1324 e1326)
                refine zB (zI (zB ?_))
                have hE:=Option.some.inj hm1325;first | subst r | cases hE
                exact ⟨rfl,_,(zq rfl),φ1071,_,(hS1073.pick [] _ (by decide) rfl),rfl,rfl⟩
             ·rintro ⟨⟩ σ1327 W1328 ⟨φ1331,fi1330,f1334,f1335,f1336,f1337,f1338,f1339,f1340,f1341,f1342,f1343,le1332,hS1333⟩ hb1329
              have hm1344:=jn_inl hm1050 hX1061 hb1329
              try dsimp only at hm1344
              have c1345:Hid (¬ ((↑(((↑x85.length:Int):Int) - 0).toNat:Int) < (↑x85.length:Int))):=zG (lp_end0)
              refine sR fL1 Z (oR Z (fun _=>zW Z fi1330 f1343) (eN (zE (cF Z c1345 (ZG (ze (ze (zw (zH (sR (.fx 0 (.fl 1 (.nil)) .stop) Z (bnK hm1344 fun x1346 h1347 hm1348=>zU 0 Z Z Z Z (zP Z Z Tryz.call27 zZ Z) hS1333 (fun hs=>w_klisterlaw08_awake W1328 φ1331 hs h1347) (.inr Z) ?_)))))))))))
              rintro φ1349 L1350 v1351 W1352 le1353 hS1354 ⟨rfl,rfl⟩
              have hS1355:St ⟨w,[],φ⟩ φ1349 [B5,B2,B0,B10] W1352:=hS1354
              refine oA Z Z (eN (zO ?_))
              have hE:=Option.some.inj hm1348;first | subst r | cases hE
              exact ⟨rfl,_,(zq rfl),φ1349,_,(hS1355.pick [] _ (by decide) rfl),rfl,rfl⟩
         ·intro c172 hm1356
          refine cT Z c172 (zE (Zj fun σ1357 hσ1358=>?_))
          have f1359:σ1357 4=.bool false:=(hσ1358 4).trans rfl
          clear hσ1358
          refine rR fL1 Z (oA Z Z (eN (zO (zB ?_))))
          have hE:=Option.some.inj hm1356;first | subst r | cases hE
          exact ⟨rfl,_,(zq rfl),φ165,_,(hS171.pick [] _ (by decide) rfl),rfl,rfl⟩
        ·intro c145 hm1360
         refine oT Z c145 (Zq Z Z Z (ZA Z Z (Zb c145.out) Z) (oT Z c145 (oR Z (fun _=>zM Z (Zb c145.out) Z) (eN (zn Z (zE (Zj fun σ1361 hσ1362=>?_)))))))
         have f1363:σ1361 4=.bool false:=(hσ1362 4).trans rfl
         clear hσ1362
         refine rR fL1 Z (oA Z Z (eN (zO (zB ?_))))
         have hE:=Option.some.inj hm1360;first | subst r | cases hE
         exact ⟨rfl,_,(zq rfl),φ130,_,(hS136.pick [] _ (by decide) rfl),rfl,rfl⟩
       ·intro c143 hm1364
        refine oT Z c143 (oT Z c143 (oT Z c143 (oT Z c143 (oT Z c143 (oT Z c143 (oT Z c143 (oT Z c143 (oT Z c143 (oT Z c143 (oT Z c143 (oR Z (fun _=>zM Z (Zb c143.out) Z) (oM Z Z (oN Z (Zq Z Z Z (ZA Z Z Z Z) (oN Z (oR Z (fun _=>zM Z Z Z) (eN (zn Z (zE (Zj fun σ1365 hσ1366=>?_))))))))))))))))))))
        have f1367:σ1365 4=.bool false:=(hσ1366 4).trans rfl
        clear hσ1366
        refine rR fL1 Z (oA Z Z (eN (zO (zB ?_))))
        have hE:=Option.some.inj hm1364;first | subst r | cases hE
        exact ⟨rfl,_,(zq rfl),φ130,_,(hS136.pick [] _ (by decide) rfl),rfl,rfl⟩
      ·intro c141 hm1368
       refine oT Z c141 (oT Z c141 (oT Z c141 (oT Z c141 (oT Z c141 (oT Z c141 (oR Z (fun _=>zM Z (Zb c141.out) Z) (oM Z Z (oN Z (oN Z (oN Z (oN Z (oN Z (oN Z (oN Z (oN Z (oN Z (oN Z (oN Z (oR Z (fun _=>zM Z Z Z) (oM Z Z (oN Z (Zq Z Z Z (ZA Z Z Z Z) (oN Z (oR Z (fun _=>zM Z Z Z) (eN (zn Z (zE (Zj fun σ1369 hσ1370=>?_))))))))))))))))))))))))))))
       have f1371:σ1369 4=.bool false:=(hσ1370 4).trans rfl
       clear hσ1370
       refine rR fL1 Z (oA Z Z (eN (zO (zB ?_))))
       have hE:=Option.some.inj hm1368;first | subst r | cases hE
       exact ⟨rfl,_,(zq rfl),φ130,_,(hS136.pick [] _ (by decide) rfl),rfl,rfl⟩
     ·intro c139 hm1372
      refine oT Z c139 (oT Z c139 (oT Z c139 (oT Z c139 (oT Z c139 (oT Z c139 (oR Z (fun _=>zM Z (Zb c139.out) Z) (oM Z Z (oN Z (oN Z (oN Z (oN Z (oN Z (oN Z (oR Z (fun _=>zM Z Z Z) (oM Z Z (oN Z (oN Z (oN Z (oN Z (oN Z (oN Z (oN Z (oN Z (oN Z (oN Z (oN Z (oR Z (fun _=>zM Z Z Z) (oM Z Z (oN Z (Zq Z Z Z (ZA Z Z Z Z) (oN Z (oR Z (fun _=>zM Z Z Z) (eN (zn Z (zE (Zj fun σ1373 hσ1374=>?_))))))))))))))))))))))))))))))))))))
      have f1375:σ1373 4=.bool false:=(hσ1374 4).trans rfl
      clear hσ1374
      refine rR fL1 Z (oA Z Z (eN (zO (zB ?_))))
      have hE:=Option.some.inj hm1372;first | subst r | cases hE
      exact ⟨rfl,_,(zq rfl),φ130,_,(hS136.pick [] _ (by decide) rfl),rfl,rfl⟩
    ·intro c137 hm1376
     refine oT Z c137 (oT Z c137 (oT Z c137 (oT Z c137 (oT Z c137 (oT Z c137 (oT Z c137 (oR Z (fun _=>zM Z (Zb c137.out) Z) (oM Z Z (oN Z (oN Z (oN Z (oN Z (oN Z (oN Z (oR Z (fun _=>zM Z Z Z) (oM Z Z (oN Z (oN Z (oN Z (oN Z (oN Z (oN Z (oR Z (fun _=>zM Z Z Z) (oM Z Z (oN Z (oN Z (oN Z (oN Z (oN Z (oN Z (oN Z (oN Z (oN Z (oN Z (oN Z (oR Z (fun _=>zM Z Z Z) (oM Z Z (oN Z (Zq Z Z Z (ZA Z Z Z Z) (oN Z (oR Z (fun _=>zM Z Z Z) (eN (zn Z (zE (Zj fun σ1377 hσ1378=>?_)))))))))))))))))))))))))))))))))))))))))))))
     have f1379:σ1377 4=.bool false:=(hσ1378 4).trans rfl
     clear hσ1378
     refine rR fL1 Z (oA Z Z (eN (zO (zB ?_))))
     have hE:=Option.some.inj hm1376;first | subst r | cases hE
     exact ⟨rfl,_,(zq rfl),φ130,_,(hS136.pick [] _ (by decide) rfl),rfl,rfl⟩
   ·intro c123 hm1380
    refine oT Z c123 (Zq Z Z Z (ZA Z Z (Zb c123.out) Z) (oT Z c123 (oR Z (fun _=>zM Z (Zb c123.out) Z) (oM Z Z (oN Z (oN Z (oN Z (oN Z (oN Z (oN Z (oN Z (oR Z (fun _=>zM Z Z Z) (oM Z Z (oN Z (oN Z (oN Z (oN Z (oN Z (oN Z (oR Z (fun _=>zM Z Z Z) (oM Z Z (oN Z (oN Z (oN Z (oN Z (oN Z (oN Z (oR Z (fun _=>zM Z Z Z) (oM Z Z (oN Z (oN Z (oN Z (oN Z (oN Z (oN Z (oN Z (oN Z (oN Z (oN Z (oN Z (oR Z (fun _=>zM Z Z Z) (oM Z Z (oN Z (Zq Z Z Z (ZA Z Z Z Z) (oN Z (oR Z (fun _=>zM Z Z Z) (eN (zn Z (zE (Zj fun σ1381 hσ1382=>?_))))))))))))))))))))))))))))))))))))))))))))))))))
    have f1383:σ1381 4=.bool false:=(hσ1382 4).trans rfl
    clear hσ1382
    refine rR fL1 Z (oA Z Z (eN (zO (zB ?_))))
    have hE:=Option.some.inj hm1380;first | subst r | cases hE
    exact ⟨rfl,_,(zq rfl),φ107,_,(hS118.pick [] _ (by decide) rfl),rfl,rfl⟩
  ·intro c121 hm1384
   refine oT Z c121 (oT Z c121 (oR Z (fun _=>zM Z (Zb c121.out) Z) (oM Z Z (oN Z (Zq Z Z Z (ZA Z Z Z Z) (oN Z (oR Z (fun _=>zM Z Z Z) (oM Z Z (oN Z (oN Z (oN Z (oN Z (oN Z (oN Z (oN Z (oR Z (fun _=>zM Z Z Z) (oM Z Z (oN Z (oN Z (oN Z (oN Z (oN Z (oN Z (oR Z (fun _=>zM Z Z Z) (oM Z Z (oN Z (oN Z (oN Z (oN Z (oN Z (oN Z (oR Z (fun _=>zM Z Z Z) (oM Z Z (oN Z (oN Z (oN Z (oN Z (oN Z (oN Z (oN Z (oN Z (oN Z (oN Z (oN Z (oR Z (fun _=>zM Z Z Z) (oM Z Z (oN Z (Zq Z Z Z (ZA Z Z Z Z) (oN Z (oR Z (fun _=>zM Z Z Z) (eN (zn Z (zE (Zj fun σ1385 hσ1386=>?_))))))))))))))))))))))))))))))))))))))))))))))))))))))
   have f1387:σ1385 4=.bool false:=(hσ1386 4).trans rfl
   clear hσ1386
   refine rR fL1 Z (oA Z Z (eN (zO (zB ?_))))
   have hE:=Option.some.inj hm1384;first | subst r | cases hE
   exact ⟨rfl,_,(zq rfl),φ107,_,(hS118.pick [] _ (by decide) rfl),rfl,rfl⟩
 ·intro c119 hm1388
  refine oT Z c119 (oT Z c119 (oR Z (fun _=>zM Z (Zb c119.out) Z) (oM Z Z (oN Z (oN Z (oR Z (fun _=>zM Z Z Z) (oM Z Z (oN Z (Zq Z Z Z (ZA Z Z Z Z) (oN Z (oR Z (fun _=>zM Z Z Z) (oM Z Z (oN Z (oN Z (oN Z (oN Z (oN Z (oN Z (oN Z (oR Z (fun _=>zM Z Z Z) (oM Z Z (oN Z (oN Z (oN Z (oN Z (oN Z (oN Z (oR Z (fun _=>zM Z Z Z) (oM Z Z (oN Z (oN Z (oN Z (oN Z (oN Z (oN Z (oR Z (fun _=>zM Z Z Z) (oM Z Z (oN Z (oN Z (oN Z (oN Z (oN Z (oN Z (oN Z (oN Z (oN Z (oN Z (oN Z (oR Z (fun _=>zM Z Z Z) (oM Z Z (oN Z (Zq Z Z Z (ZA Z Z Z Z) (oN Z (oR Z (fun _=>zM Z Z Z) (eN (zn Z (zE (Zj fun σ1389 hσ1390=>?_))))))))))))))))))))))))))))))))))))))))))))))))))))))))))
  have f1391:σ1389 4=.bool false:=(hσ1390 4).trans rfl
  clear hσ1390
  refine rR fL1 Z (oA Z Z (eN (zO (zB ?_))))
  have hE:=Option.some.inj hm1388;first | subst r | cases hE
  exact ⟨rfl,_,(zq rfl),φ107,_,(hS118.pick [] _ (by decide) rfl),rfl,rfl⟩
end Go.Proofs.YtjfffcjjlnmneaaGreat
