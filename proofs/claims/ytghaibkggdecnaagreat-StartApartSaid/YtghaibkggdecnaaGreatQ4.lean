import Derived.Test.YtghaibkggdecnaaGreatQ0
import Derived.Test.YtghaibkggdecnaaGreatQ3
import Derived.Test.YtghaibkggdecnaaGreatProg
import Derived.Lib.Overlaps
import Derived.Lib.AppendZerosOnto
import Derived.Test.YtghaibkggdecnaaGreatQ2
set_option linter.all false
open Option renaming bind_some->nA,getD_some->nZ
open List renaming nodup_iff_pairwise_ne->nB,pairwise_iff_getElem->nD,replicate->nE,range->nH,set->nI,length_eq_zero_iff->nJ,all_eq_true->nK,getElem_map->nL,take_append_drop->nM,range_succ->nO,length_map->nP,mem_range->nQ,length_append->nS,getD_eq_getElem?_getD->nT,nodup_append->nV,getElem?_eq_getElem->nW,mem_map->nY,map_append->nc,pairwise_lt_range->nf,length_filter_le->ng,mergeSort_perm->nh,all_map->ni,filter_append->nj,countP_append->nk,pairwise_map->np,append_assoc->nq,length_range->nr
open Nat renaming zero_add->nG,le_div_iff_mul_le->nN,le_refl->nR,mul_comm->nl
open Int renaming tmod_eq_emod_of_nonneg->nU,eq_ofNat_of_zero_le->na
open Bool renaming and_eq_true->nX
namespace Go.Proofs.YtghaibkggdecnaaGreat
open Go.KL
noncomputable section
structure wAB where
 bytes:List Int
 next:Int
 state:Int
deriving DecidableEq,Inhabited,Repr
structure wAA where
 Bib:Int
 Nation:Int
 Rank:Int
deriving DecidableEq,Inhabited,Repr
structure wAE where
 of:(wAA->Option Int)
 lo:Int
 hi:Int
def wBB (p0:List Int):Option (wAB) :=
 some (⟨p0,0,17⟩:wAB)
def wAL (p0:wAB) (p1:Int):Option (Int × wAB) :=
 if p1 <= 1 then
  some (0,p0)
 else
  if (↑p0.bytes.length:Int)=0 then
   some (0,p0)
  else
   (rem p0.next (↑p0.bytes.length:Int)).bind fun x10 =>
   (idx p0.bytes x10).bind fun x13 =>
   (quo p0.next (↑p0.bytes.length:Int)).bind fun x20 =>
   (rem (wCz ((wCz ((wCz ((wCz (p0.state * 45)) + (wCz x13))) + (wCz (77 * (wCz x20))))) + 1)) 65519).bind fun x32 =>
   if (wCz x20)=0 then
    if p1 <= 256 then
     (rem (w64 (wCz x13)) p1).bind fun x42 =>
     some (x42,(⟨p0.bytes,w64 (p0.next + 1),x32⟩:wAB))
    else
     (rem (w64 (wCz ((wCz (x32 * 256)) + (wCz x13)))) p1).bind fun x46 =>
     some (x46,(⟨p0.bytes,w64 (p0.next + 1),x32⟩:wAB))
   else
    (rem (w64 (wCz ((wCz (x32 * 256)) + (wCz x13)))) p1).bind fun x50 =>
    some (x50,(⟨p0.bytes,w64 (p0.next + 1),x32⟩:wAB))
def wAF (p0:wAB) (p1:Int) (p2:Int):Option (Int × wAB) :=
 (wAL p0 (w64 ((w64 (p2 - p1)) + 1))).bind fun (x2,x3) =>
 some (w64 (p1 + x2),x3)
def wAH (p0:wAB) (p1:Int):Option ((List Int) × wAB) :=
 (wBd 0 (max 0 p1) (fun k19 l15 =>
  (app 8 l15 [(↑k19:Int)]).bind fun x47 =>
  some x47) []).bind fun y24 =>
 iter (fun (l95,x98,x99,l100,x101) =>
  if 0 < x101 then
   (wAL (⟨l95,x98,x99⟩:wAB) (w64 (x101 + 1))).bind fun (x120,x121) =>
   (chk x120 l100.length).bind fun _ =>
   (chk x101 l100.length).bind fun _ =>
   (chk x120 (nI l100 x101.toNat (gd l100 x120.toNat)).length).bind fun _ =>
   some (.inl (x121.bytes,x121.next,x121.state,(nI (nI l100 x101.toNat (gd l100 x120.toNat)) x120.toNat (gd l100 x101.toNat)),w64 (x101 - 1)))
  else
   esc (some (l100,(⟨l95,x98,x99⟩:wAB)))) big (p0.bytes,p0.next,p0.state,y24,w64 ((↑y24.length:Int) - 1))
def wAk (p0:wAB) (p1:Int):Option ((List wAA) × wAB) :=
 (wAF p0 1 6).bind fun (x2,x3) =>
 (wAH x3 60).bind fun (x16,x17) =>
 (wAF x17 1 p1).bind fun (x33,x34) =>
 (wBd 0 x33 (fun k85 (l76,x79,x80,l81) =>
  (chk (↑k85:Int) x16.length).bind fun _ =>
  (wAF (⟨l76,x79,x80⟩:wAB) 1 9).bind fun (x184,x185) =>
  (wAL x185 x2).bind fun (x198,x199) =>
  (wAF x199 1 3).bind fun (x212,x213) =>
  (app 24 l81 [(⟨w64 ((w64 (10 * (↑k85:Int))) + x184),x198,w64 ((w64 (3 * (gd x16 k85))) + x212)⟩:wAA)]).bind fun x231 =>
  some (x213.bytes,x213.next,x213.state,x231)) (x34.bytes,x34.next,x34.state,[])).bind fun (y90,y91,y92,y93) =>
 some (y93,(⟨y90,y91,y92⟩:wAB))
def wBV (p0:Int) (p1:Int) (p2:Int):Option (Bool) :=
 if p1 <= p0 then
  some (decide (p0 <= p2))
 else
  some false
def wAJ (p0:wAA):Option (Int) :=
 some p0.Bib
def wAK (p0:wAA):Option (Int) :=
 some p0.Rank
def wAP (p0:wAA):Option (Int) :=
 some p0.Nation
def wBk :Option (Unit) :=
 some ()
def wAR (p0:wAE) (p1:List wAA):Option ((List Int)) :=
 (wBd 0 (↑p1.length:Int) (fun k22 l18 =>
  (idx p1 (↑k22:Int)).bind fun x46 =>
  (p0.of x46).bind fun x61 =>
  (app 8 l18 [x61]).bind fun x77 =>
  some x77) []).bind fun y27 =>
 some y27
def wAQ (p0:Int) (p1:wAE):Option (Bool) :=
 (wBV p0 p1.lo p1.hi).bind fun x1 =>
 some x1
def wAf (p0:List Int) (p1:(Int->Option Bool)):Option (Bool) :=
 jn (wGH 0 (↑p0.length:Int) (fun k2 _ =>
  (idx p0 (↑k2:Int)).bind fun x22 =>
  (p1 x22).bind fun x30 =>
  if x30=true then
   some (.inl ())
  else
   esc (some false)) ()) fun _ =>
 some true
def wBN (p0:List Int):Option (Bool) :=
 jn (wGH 0 (↑p0.length:Int) (fun k20 l17 =>
  (idx p0 (↑k20:Int)).bind fun x41 =>
  if (wBh l17 x41 false)=true then
   esc (some true)
  else
   some (.inl (mput l17 x41 true))) ([]:List (Int × Bool))) fun y68 =>
 some false
def wAm (p0:List wAA):Option (Int) :=
 (wBV (↑p0.length:Int) 1 60).bind fun x1 =>
 if x1=true then
  (wBk).bind fun _ =>
  (wAR (⟨wAJ,1,999⟩:wAE) p0).bind fun x39 =>
  (wAf x39 (fun x=>wAQ x (⟨wAJ,1,999⟩:wAE))).bind fun x65 =>
  if x65=true then
   (wAR (⟨wAK,1,9999⟩:wAE) p0).bind fun x89 =>
   (wAf x89 (fun x=>wAQ x (⟨wAK,1,9999⟩:wAE))).bind fun x115 =>
   if x115=true then
    (wAR (⟨wAP,0,30⟩:wAE) p0).bind fun x139 =>
    (wAf x139 (fun x=>wAQ x (⟨wAP,0,30⟩:wAE))).bind fun x165 =>
    if x165=true then
     (wAR (⟨wAJ,1,999⟩:wAE) p0).bind fun x195 =>
     (wBN x195).bind fun x213 =>
     if x213=true then
      some 5
     else
      (wAR (⟨wAK,1,9999⟩:wAE) p0).bind fun x237 =>
      (wBN x237).bind fun x255 =>
      if x255=true then
       some 5
      else
       some 0
    else
     some 3
   else
    some 3
  else
   some 3
 else
  some 2
def wAi (p0:List wAA):Option ((Arr Int 31)) :=
 (wBd 0 (↑p0.length:Int) (fun k17 a16 =>
  (idx p0 (↑k17:Int)).bind fun x39 =>
  (chk x39.Nation 31).bind fun _ =>
  some (a16.set x39.Nation.toNat (w64 ((a16.get x39.Nation.toNat) + 1)))) (Arr.fill 31 0)).bind fun y22 =>
 some y22
def wAu (p0:List Int):Option (Int) :=
 if (↑p0.length:Int) < 1 then
  none
 else
  (idx p0 0).bind fun x4 =>
  (wBd 1 (↑p0.length:Int) (fun k17 x16 =>
   (idx p0 (1 + ↑k17:Int)).bind fun x37 =>
   some (max x16 x37)) x4).bind fun y22 =>
  some y22
def wAN (p0:Arr Int 31):Option ((List Int) × Int) :=
 (wAu p0.l).bind fun x12 =>
 (wBd 0 31 (fun k43 l39 =>
  (idx (p0.l:List Int) (↑k43:Int)).bind fun x66 =>
  if x66=x12 then
   (app 8 l39 [(↑k43:Int)]).bind fun x76 =>
   some x76
  else
   some l39) []).bind fun y48 =>
 some (y48,x12)
def wBU (p0:Int):Option (Bool) :=
 some (decide (¬ (p0=p0)))
def wBJ (p0:Int) (p1:Int):Option (Int) :=
 (wBU p0).bind fun x1 =>
 (wBU p1).bind fun x11 =>
 if x1=true then
  if x11=true then
   some 0
  else
   some (-1)
 else
  if x11=true then
   some 1
  else
   if p0 < p1 then
    some (-1)
   else
    if p1 < p0 then
     some 1
    else
     some 0
def wAU (p0:Int) (p1:Int) (p2:List wAA):Option (Int) :=
 (idx p2 p0).bind fun x3 =>
 (idx p2 p1).bind fun x10 =>
 (wBJ x3.Rank x10.Rank).bind fun x17 =>
 some x17
noncomputable def wBG (p0:List Int) (p1:((Int × Int)->Option Int)):Option (List Int):=wKH p1 p0
def wAy (p0:List wAA):Option ((List Int)) :=
 (mkz 8 (↑p0.length:Int) (0:Int)).bind fun x10 =>
 (wBd 0 (↑p0.length:Int) (fun k24 l23 =>
  (chk (↑k24:Int) l23.length).bind fun _ =>
  some (nI l23 k24 (↑k24:Int))) x10).bind fun y29 =>
 (wBG y29 (fun x=>wAU x.1 x.2 p0)).bind fun x70 =>
 some x70
def wAV (p0:Int) (p1:List wAA) (p2:Int):Option (Bool) :=
 (idx p1 p0).bind fun x3 =>
 some (decide (x3.Nation=p2))
def wAM (p0:List Int) (p1:(Int->Option Bool)):Option (Int) :=
 jn (wGH 0 (↑p0.length:Int) (fun k2 _ =>
  (idx p0 (↑k2:Int)).bind fun x22 =>
  (p1 x22).bind fun x30 =>
  if x30=true then
   esc (some (↑k2:Int))
  else
   some (.inl ())) ()) fun _ =>
 some (-1)
def wAj (p0:List Int) (p1:Int) (p2:Int):Option (List Int):=delO p0 p1 p2
def wBP (p0:List wAA):Option ((List Int) × Int × Int) :=
 (wAm p0).bind fun x11 =>
 if x11=0 then
  (wAi p0).bind fun x25 =>
  (wAN x25).bind fun (x43,x44) =>
  if 1 < x44 then
   (quo (w64 ((↑p0.length:Int) - (↑x43.length:Int))) (w64 (x44 - 1))).bind fun x61 =>
   (wAy p0).bind fun x66 =>
   (wBd 0 (↑p0.length:Int) (fun k130 (l119,a122,l123,l126) =>
    (wBd 0 31 (fun k174 x173 =>
     ((idx (a122.l:List Int) (↑k174:Int)).bind fun x207 =>
     if 0 < x207 then
      if (wEz l119 (↑k174:Int))=true then
       if x61 <= (w64 ((↑k130:Int) - (wBh l119 (↑k174:Int) 0))) then
        if x173 < 0 then
         some (↑k174:Int)
        else
         (chk x173 31).bind fun _ =>
         if (a122.get x173.toNat) < x207 then
          some (↑k174:Int)
         else
          some x173
       else
        some x173
      else
       if x173 < 0 then
        some (↑k174:Int)
       else
        (chk x173 31).bind fun _ =>
        if (a122.get x173.toNat) < x207 then
         some (↑k174:Int)
        else
         some x173
     else
      some x173).bind fun x203 =>
     some x203) (-1)).bind fun y179 =>
    (wAM l123 (fun x=>wAV x p0 y179)).bind fun x317 =>
    (chk x317 l123.length).bind fun _ =>
    (app 8 l126 [(gd l123 x317.toNat)]).bind fun x341 =>
    (wAj l123 x317 (w64 (x317 + 1))).bind fun x349 =>
    (chk y179 31).bind fun _ =>
    some ((mput l119 y179 (↑k130:Int)),(a122.set y179.toNat (w64 ((a122.get y179.toNat) - 1))),x349,x341)) (([]:List (Int × Int)),x25,x66,[])).bind fun (y135,y136,y137,y138) =>
   some (y138,x61,0)
  else
   (wAy p0).bind fun x423 =>
   (wBd 0 (↑p0.length:Int) (fun k487 (l476,a479,l480,l483) =>
    (wBd 0 31 (fun k531 x530 =>
     ((idx (a479.l:List Int) (↑k531:Int)).bind fun x564 =>
     if 0 < x564 then
      if (wEz l476 (↑k531:Int))=true then
       if (↑p0.length:Int) <= (w64 ((↑k487:Int) - (wBh l476 (↑k531:Int) 0))) then
        if x530 < 0 then
         some (↑k531:Int)
        else
         (chk x530 31).bind fun _ =>
         if (a479.get x530.toNat) < x564 then
          some (↑k531:Int)
         else
          some x530
       else
        some x530
      else
       if x530 < 0 then
        some (↑k531:Int)
       else
        (chk x530 31).bind fun _ =>
        if (a479.get x530.toNat) < x564 then
         some (↑k531:Int)
        else
         some x530
     else
      some x530).bind fun x560 =>
     some x560) (-1)).bind fun y536 =>
    (wAM l480 (fun x=>wAV x p0 y536)).bind fun x674 =>
    (chk x674 l480.length).bind fun _ =>
    (app 8 l483 [(gd l480 x674.toNat)]).bind fun x698 =>
    (wAj l480 x674 (w64 (x674 + 1))).bind fun x706 =>
    (chk y536 31).bind fun _ =>
    some ((mput l476 y536 (↑k487:Int)),(a479.set y536.toNat (w64 ((a479.get y536.toNat) - 1))),x706,x698)) (([]:List (Int × Int)),x25,x423,[])).bind fun (y492,y493,y494,y495) =>
   some (y495,(↑p0.length:Int),0)
 else
  some ([],0,x11)
def wAl (p0:Int) (p1:List wAA):Option (Bool) :=
 (wBV p0 0 (w64 ((↑p1.length:Int) - 1))).bind fun x1 =>
 some x1
def wBK (p0:List wAA) (p1:List Int):Option (Int) :=
 (wAm p0).bind fun x11 =>
 if x11=0 then
  if (↑p1.length:Int)=(↑p0.length:Int) then
   (wAf p1 (fun x=>wAl x p0)).bind fun x30 =>
   if x30=true then
    (wBN p1).bind fun x43 =>
    if x43=true then
     some 5
    else
     some 0
   else
    some 1
  else
   some 2
 else
  some x11
def wAn (p0:List wAA) (p1:List Int):Option (Int × Int) :=
 (wBK p0 p1).bind fun x1 =>
 if x1=0 then
  (wBd 0 (↑p1.length:Int) (fun k36 (l32,x35) =>
   (idx p1 (↑k36:Int)).bind fun x61 =>
   (idx p0 x61).bind fun x70 =>
   if (wEz l32 x70.Nation)=true then
    some ((mput l32 x70.Nation (↑k36:Int)),min x35 (w64 ((↑k36:Int) - (wBh l32 x70.Nation 0))))
   else
    some ((mput l32 x70.Nation (↑k36:Int)),x35)) (([]:List (Int × Int)),(↑p0.length:Int))).bind fun (y41,y42) =>
  some (y42,0)
 else
  some (0,x1)
def wBW (p0:List wAA):Option ((List Int) × Int) :=
 (wAm p0).bind fun x1 =>
 if x1=0 then
  (wAi p0).bind fun x14 =>
  (wAN x14).bind fun (x24,x25) =>
  if x25 < 2 then
   some ([],6)
  else
   some (x24,0)
 else
  some ([],x1)
def wAa (p0:List Int) (p1:Int):Option (Bool) :=
 (mkz 1 p1 false).bind fun x1 =>
 jn (wGH 0 (↑p0.length:Int) (fun k15 l14 =>
  (idx p0 (↑k15:Int)).bind fun x38 =>
  if x38 < 0 then
   esc (some false)
  else
   if p1 <= x38 then
    esc (some false)
   else
    (chk x38 l14.length).bind fun _ =>
    if (gd l14 x38.toNat)=true then
     esc (some false)
    else
     some (.inl (nI l14 x38.toNat true))) x1) fun y76 =>
 some (decide ((↑p0.length:Int)=p1))
def wAb (p0:List wAA) (p1:List Int):Option (Int × Int) :=
 (wAm p0).bind fun x1 =>
 if x1=0 then
  if (↑p1.length:Int)=0 then
   some (0,2)
  else
   jn (wGH 1 (↑p1.length:Int) (fun k17 _ =>
    (idx p1 (1 + ↑k17:Int)).bind fun x38 =>
    (idx p1 (w64 ((1 + ↑k17:Int) - 1))).bind fun x47 =>
    if x38 <= x47 then
     esc (some (0,4))
    else
     some (.inl ())) ()) fun _ =>
   (wAi p0).bind fun x73 =>
   jn (wGH 0 (↑p1.length:Int) (fun k97 x96 =>
    (idx p1 (↑k97:Int)).bind fun x120 =>
    (wBV x120 0 30).bind fun x131 =>
    if x131=true then
     (chk x120 31).bind fun _ =>
     if (x73.get x120.toNat) < 2 then
      esc (some (0,6))
     else
      some (.inl (min x96 (x73.get x120.toNat)))
    else
     esc (some (0,6))) 60) fun y162 =>
   (quo (w64 ((↑p0.length:Int) - (↑p1.length:Int))) (w64 (y162 - 1))).bind fun x174 =>
   some (x174,0)
 else
  some (0,x1)
def wAe (p0:wAB) (p1:Int):Option (Bool × wAB) :=
 (wAL p0 p1).bind fun (x2,x3) =>
 some (decide (x2=0),x3)
def wAv:Option Bool:=some true
def wAo (p0:List Int) (p1:List Int):Option (Bool) :=
 (wBB p0).bind fun x1 =>
 (wBB p1).bind fun x17 =>
 (wAk x1 30).bind fun (x33,x34) =>
 (wBP x33).bind fun (x56,x57,x58) =>
 (wAn x33 x56).bind fun (x78,x79) =>
 (wBW x33).bind fun (x90,x91) =>
 if x58=0 then
  if x79=0 then
   (wAa x56 (↑x33.length:Int)).bind fun x121 =>
   if x121=true then
    if x78=x57 then
     if x57 < 1 then
      some false
     else
      if x91=0 then
       (wAb x33 x90).bind fun (x148,x149) =>
       if x149=0 then
        if x148=x57 then
         jn (wGH 0 5 (fun k185 (l180,x183,x184) =>
          (wAH (⟨l180,x183,x184⟩:wAB) (↑x33.length:Int)).bind fun (x215,x216) =>
          (wAn x33 x215).bind fun (x242,x243) =>
          if x243=0 then
           if x57 < x242 then
            esc (some false)
           else
            (wBd 0 6 (fun k298 (l289,x292,x293,l294) =>
             (wAe (⟨l289,x292,x293⟩:wAB) 2).bind fun (x329,x330) =>
             if x329=true then
              (app 8 l294 [(↑k298:Int)]).bind fun x350 =>
              some (x330.bytes,x330.next,x330.state,x350)
             else
              some (x330.bytes,x330.next,x330.state,l294)) (x216.bytes,x216.next,x216.state,[])).bind fun (y303,y304,y305,y306) =>
            (wAb x33 y306).bind fun (x409,x410) =>
            if x410=0 then
             if x409 < x57 then
              esc (some false)
             else
              some (.inl (y303,y304,y305))
            else
             if x410=6 then
              some (.inl (y303,y304,y305))
             else
              if x410=2 then
               some (.inl (y303,y304,y305))
              else
               esc (some false)
          else
           esc (some false)) (x17.bytes,x17.next,x17.state)) fun (y467,y468,y469) =>
         (wAv).bind fun x481 =>
         some x481
        else
         some false
       else
        some false
      else
       if x91=6 then
        if x57=(↑x33.length:Int) then
         jn (wGH 0 5 (fun k520 (l515,x518,x519) =>
          (wAH (⟨l515,x518,x519⟩:wAB) (↑x33.length:Int)).bind fun (x548,x549) =>
          (wAn x33 x548).bind fun (x576,x577) =>
          if x577=0 then
           if x57 < x576 then
            esc (some false)
           else
            (wBd 0 6 (fun k632 (l623,x626,x627,l628) =>
             (wAe (⟨l623,x626,x627⟩:wAB) 2).bind fun (x663,x664) =>
             if x663=true then
              (app 8 l628 [(↑k632:Int)]).bind fun x684 =>
              some (x664.bytes,x664.next,x664.state,x684)
             else
              some (x664.bytes,x664.next,x664.state,l628)) (x549.bytes,x549.next,x549.state,[])).bind fun (y637,y638,y639,y640) =>
            (wAb x33 y640).bind fun (x743,x744) =>
            if x744=0 then
             if x743 < x57 then
              esc (some false)
             else
              some (.inl (y637,y638,y639))
            else
             if x744=6 then
              some (.inl (y637,y638,y639))
             else
              if x744=2 then
               some (.inl (y637,y638,y639))
              else
               esc (some false)
          else
           esc (some false)) (x17.bytes,x17.next,x17.state)) fun (y801,y802,y803) =>
         (wAv).bind fun x815 =>
         some x815
        else
         some false
       else
        some false
    else
     some false
   else
    some false
  else
   some false
 else
  some false
end
end Go.Proofs.YtghaibkggdecnaaGreat
namespace Go.Proofs
open Go.RowKit Go.Lib
set_option maxHeartbeats 4000000 in
set_option maxRecDepth 100000 in
theorem delCalls94 (b c n i j:Nat) (cs:List Value) (w:World) (hcs:cs.length=n * 1) (h1:∀ v ∈ cs,v.oneCell'=true)
  (hcell:∀ k v,cs[k]?=some v->w.cell? ⟨b,k,none⟩=some v) (hfz:∀ k,k < n * 1->w.frozen? ⟨b,k,none⟩=false) (hn:n <= c) (_:c <= 9223372036854775807) (hij:i < j) (hj:j <= n) :
  Calls Tryz.prog 94 #[.slice (some ⟨b,0,none⟩) n c,.int .i64 i,.int .i64 j] w fun e w'=>e=.returned (.slice (some ⟨b,0,none⟩) (n - (j - i)) c) /\
   w'=(w.drew.setCells b (i * 1) (cs.drop (j * 1))).setCells b ((n - (j - i)) * 1) (nE ((j - i) * 1) (.int .i64 0)):=by
 obtain ⟨news,hnews⟩:∃ news,news=cs.drop (j * 1):=⟨_,rfl⟩
 have hlen:news.length=(n - j) * 1:=by rw [hnews,List.length_drop,hcs];omega
 obtain ⟨A,hA,hsrc⟩:∃ A:Addr,(if c=j then some (⟨b,0,none⟩:Addr) else some ⟨b,j * 1,none⟩)=some A/\Hid (∀ t u,news[t]?=some u->w.drew.cell? (A.add t)=some u):=by
  by_cases h:c=j
  ·refine ⟨⟨b,0,none⟩,by simp [h],fun t u hu=>?_⟩
   have h0:news.length=0:=by rw [hlen];omega
   rw [nJ.1 h0] at hu
   simp at hu
  ·refine ⟨⟨b,j * 1,none⟩,by simp [h],fun t u hu=>?_⟩
   rw [hnews,List.getElem?_drop] at hu
   rw [Addr.add_lit]
   exact hcell _ _ hu
 have s1:Hid (news.length=(n - j) * 1):=hlen
 have s2:Hid (∀ u ∈ news,u.oneCell'=true):=by
  intro u hu
  rw [hnews] at hu
  exact h1 u (List.mem_of_mem_drop hu)
 have hsome:∀ k,k < n * 1->(w.cell? ⟨b,k,none⟩).isSome=true:=fun k hk=>by
  rw [hcell k _ (nW (by omega))];rfl
 have s3:Hid (∀ t,t < news.length->(w.drew.cell? ⟨b,0 + i * 1 + t,none⟩).isSome=true/\w.drew.frozen? ⟨b,0 + i * 1 + t,none⟩=false):=by
  intro t ht
  rw [hlen] at ht
  exact ⟨hsome _ (by omega),hfz _ (by omega)⟩
 obtain ⟨W1,hW1⟩:∃ W1,W1=w.drew.setCells b (i * 1) news:=⟨_,rfl⟩
 have hcl:∀ ty,(Builtin.clear_ #[31] ty #[.slice (some ⟨b,(i + (n - j)) * 1,none⟩) (n - (i + (n - j))) (c - (i + (n - j)))]).run Tryz.prog W1=.ok (.tuple #[]) (W1.setCells b ((i + (n - j)) * 1) (nE ((n - (i + (n - j))) * 1) (.int .i64 0))) :=
  fun ty=>Go.KL.run_clear_sliceK W1 _ _ ty _ (.int .i64 0) 1 Tryz.underlying31 Tryz.zeroValue3 rfl (by omega) rfl b _ _ _ (by omega) (fun t ht=>by
   rw [hW1]
   exact Go.KL.isSome_setCells' b news (i * 1) w.drew (fun q hq=>hsome _ (by rw [hlen] at hq;omega)) _ (hsome ((i + (n - j)) * 1 + t) (by omega))) (fun t ht=>by rw [hW1,World.frozen?_setCells];exact hfz ((i + (n - j)) * 1 + t) (by omega))
 have hW:Hid (W1=w.drew.setCells b (0 + i * 1) news):=by rw [nG];exact hW1
 have hic:i <= c:=by omega
 have hjc:j <= c:=by omega
 have ty30:=Tryz.typeInfo3
 have mixed:Tryz.prog.follows .mixedOrders=true:=rfl
 have hnews':Hid (news=cs.drop (j * 1)):=hnews
 try simp only [Nat.mul_one] at hcl
 clear hW1 hsome hlen hnews
 go_enter Tryz.func94,Tryz.ntmps94
 go_wp2_with fail
 go_region_law_o (refine step_append_room rfl (.tmp 22) (.tmp 25) 31 rfl 3 _ 1 Tryz.underlying31 Tryz.type3 rfl b 0 i c (by simp [Act.eval,Act.put]) A (n - j) (c - j) news (by simp [Act.eval,Act.put] <;> first | assumption | simpa using hA) s1.out hsrc.out s2.out (by omega) s3.out ?_;rw [<- hW.out])
 go_wp2
 all_goals
  go_ret
  have e1:n - (j - i)=i + (n - j):=by omega
  have e2:n - (i + (n - j))=j - i:=by omega
  have hw:=hW.out
  rw [nG,hnews'.out] at hw
  refine ⟨by rw [e1];rfl,?_⟩
  first
  | (rw [e1,hw,e2];done)
  | (simp only [Nat.mul_one] at hw ⊢;rw [e1,hw,e2])
end Go.Proofs
namespace Go.Proofs.YtghaibkggdecnaaGreat
open Go.KL
theorem wMy (x a b:Int):wBV x a b=some (decide (a <= x) && decide (x <= b)):=by
 unfold wBV
 by_cases h:a <= x <;> simp [h]
theorem wGf {K V:Type} [DecidableEq K] {m:List (K × V)} {x y:K} {v:V}:wEg (mput m x v) y=if y=x then some v else wEg m y:=by
 induction m with
 | nil=>simp only [mput,wEg]
 | cons p m ih =>
  obtain ⟨a,u⟩:=p
  rw [mput]
  by_cases h:x=a
  ·subst h
   rw [if_pos rfl,wEg,wEg]
   split <;> rfl
  ·rw [if_neg h,wEg,wEg,ih]
   by_cases h2:y=a
   ·rw [if_pos h2,if_neg (fun e:y=x=>h (e.symm.trans h2)),if_pos h2]
   ·rw [if_neg h2,if_neg h2]
theorem wGg {l:List Int} (hl:l.length <= 1000):wBN l=some (!decide l.Nodup):=by
 unfold wBN
 rw [wCi (by omega)]
 have key:∀ (m k:Nat) (t:List (Int × Bool)),k + m=l.length->(∀ n,wBh t n false=decide (n ∈ l.take k))->(l.take k).Nodup ->
   jn (forN (fun k20 l17 =>
  (idx l (↑k20:Int)).bind fun x41 =>
  if (wBh l17 x41 false)=true then
   esc (some true)
  else
   some (.inl (mput l17 x41 true))) m k t) (fun _=>some false)=some (!decide l.Nodup):=by
  intro m
  induction m with
  | zero =>
   intro k t hk _ hn
   rw [List.take_of_length_le (by omega)] at hn
   simp [forN,hn]
  | succ m ih =>
   intro k t hk ht hn
   have hlt:k < l.length:=by omega
   rw [forN,wCQ hlt,nA,ht]
   by_cases c:gd l k ∈ l.take k
   ·have:¬ l.Nodup:=fun h=>by
     rw [<- nM k l,wIR hlt] at h
     exact (nV.1 h).2.2 _ c _ (by simp) rfl
    simp [c,this]
   ·rw [if_neg (by simpa using c)]
    simp only
    refine ih (k + 1) _ (by omega) (fun n=>?_) ?_
    ·unfold wBh at ht ⊢
     rw [wGf,wGb hlt]
     by_cases e:n=gd l k
     ·rw [if_pos e];simp [e]
     ·rw [if_neg e,ht];simp [e]
    ·rw [wGb hlt,nV]
     exact ⟨hn,by simp,fun a ha b hb e=>by simp at hb;subst hb;subst e;exact c ha⟩
 exact key l.length 0 [] (by omega) (fun n=>by simp [wBh,wEg]) (by simp)
theorem wDP {S:Type} {body:Nat->S->Option S} {n:Nat} {s0:S} (I:Nat->S->Prop) (hn:n <= 1000) (h0:I 0 s0) (h:∀ i s,i < n->I i s->∃ s',body i s=some s'/\I (i + 1) s'):∃ s,wBd 0 (n:Int) body s0=some s/\I n s:=by
 rw [wCj (by omega)]
 have:=wDO (body:=body) I n 0 s0 h0 fun i s _ h2 h3=>h i s (by omega) h3
 rwa [nG] at this
theorem wHY {α:Type} [Inhabited α] {l:List α} {a:α} (h:a ∈ l):∃ i,i < l.length/\gd l i=a:=by
 obtain ⟨i,hi,e⟩:=List.getElem_of_mem h
 exact ⟨i,hi,by rw [wEY hi,e]⟩
theorem wJl (a b:Int):wBJ a b=some (if a < b then -1 else if b < a then 1 else 0):=by
 unfold wBJ wBU
 simp only [not_true_eq_false,decide_false,nA,Bool.false_eq_true,if_false]
 split
 ·rfl
 ·split <;> rfl
end Go.Proofs.YtghaibkggdecnaaGreat
namespace Go.Proofs.YtghaibkggdecnaaGreat
open Go.KL
theorem wGh {f:wAA->Option Int} {p:wAA->Int} (hf:∀ s,f s=some (p s)) (a b:Int) {l:List wAA} (hl:l.length <= 1000):wAR (⟨f,a,b⟩:wAE) l=some (l.map p):=by
 unfold wAR
 rw [wMu (bytes:=8) (f:=p) (fun s _ r=>by simp only [hf,nA,wLk]) (by omega) (by omega)]
 rfl
theorem wIS {f:wAA->Option Int} {a b:Int} {l:List Int} (hl:l.length <= 1000):wAf l (fun x=>wAQ x (⟨f,a,b⟩:wAE))=some (l.all fun x=>decide (a <= x) && decide (x <= b)):=by
 unfold wAf
 rw [wIx (p:=fun x=>decide (a <= x) && decide (x <= b)) (z:=false) (fun x _=>by
  unfold wAQ
  simp only [wMy,nA]
  split <;> rfl) (by omega)]
 cases l.all fun x=>decide (a <= x) && decide (x <= b) <;> rfl
structure wCE (f:List wAA):Prop where
 l1:1 <= f.length
 l2:f.length <= 60
 bib:∀ s ∈ f,1 <= s.Bib/\s.Bib <= 999
 rank:∀ s ∈ f,1 <= s.Rank/\s.Rank <= 9999
 nat:∀ s ∈ f,0 <= s.Nation/\s.Nation <= 30
 bibs:(f.map (·.Bib)).Nodup
 ranks:(f.map (·.Rank)).Nodup
def okB (s:wAA):Bool:=decide (1 <= s.Bib) && decide (s.Bib <= 999)
def okR (s:wAA):Bool:=decide (1 <= s.Rank) && decide (s.Rank <= 9999)
def okN (s:wAA):Bool:=decide (0 <= s.Nation) && decide (s.Nation <= 30)
def okF (s:wAA):Bool:=okB s && (okN s && okR s)
def wOg (f:List wAA):Int:=if 1 <= f.length/\f.length <= 60 then (if f.all okF=true then (if (f.map (·.Bib)).Nodup/\(f.map (·.Rank)).Nodup then 0 else 5) else 3) else 2
theorem wHZ {f:List wAA}:wOg f=0 ↔ wCE f:=by
 unfold wOg
 constructor
 ·intro h
  by_cases h1:1 <= f.length/\f.length <= 60
  ·rw [if_pos h1] at h
   by_cases h2:f.all okF=true
   ·rw [if_pos h2] at h
    by_cases h3:(f.map (·.Bib)).Nodup/\(f.map (·.Rank)).Nodup
    ·have:=fun s hs=>nK.1 h2 s hs
     simp only [okF,okB,okN,okR,nX,decide_eq_true_iff] at this
     exact ⟨h1.1,h1.2,fun s hs=>(this s hs).1,fun s hs=>(this s hs).2.2,fun s hs=>(this s hs).2.1,h3.1,h3.2⟩
    ·rw [if_neg h3] at h;omega
   ·rw [if_neg h2] at h;omega
  ·rw [if_neg h1] at h;omega
 ·intro G
  rw [if_pos ⟨G.l1,G.l2⟩,if_pos (nK.2 fun s hs=>by
   have h1:=G.bib s hs
   have h2:=G.nat s hs
   have h3:=G.rank s hs
   simp only [okF,okB,okN,okR,nX,decide_eq_true_iff]
   exact ⟨h1,h2,h3⟩),if_pos ⟨G.bibs,G.ranks⟩]
theorem wJD {f:List wAA} (hl:f.length <= 1000):wAm f=some (wOg f):=by
 unfold wAm wOg
 rw [wMy,nA]
 by_cases h1:1 <= f.length/\f.length <= 60
 case neg=>rw [if_neg h1,if_neg (by simp;omega)]
 rw [if_pos h1,if_pos (by simp;omega)]
 unfold wBk
 rw [nA]
 have hall:f.all okF=(f.all okB && (f.all okN && f.all okR)):=by
  rw [Bool.eq_iff_iff]
  simp only [nX,nK,okF]
  constructor
  ·exact fun h=>⟨fun s hs=>(h s hs).1,fun s hs=>(h s hs).2.1,fun s hs=>(h s hs).2.2⟩
  ·exact fun h s hs=>⟨h.1 s hs,h.2.1 s hs,h.2.2 s hs⟩
 have mB:(f.map (·.Bib)).all (fun x=>decide (1 <= x) && decide (x <= 999))=f.all okB:=by rw [ni];rfl
 have mR:(f.map (·.Rank)).all (fun x=>decide (1 <= x) && decide (x <= 9999))=f.all okR:=by rw [ni];rfl
 have mN:(f.map (·.Nation)).all (fun x=>decide (0 <= x) && decide (x <= 30))=f.all okN:=by rw [ni];rfl
 rw [wGh (f:=wAJ) (p:=(·.Bib)) (fun _=>rfl) _ _ hl,nA,wIS (by simpa using hl),nA,mB]
 rw [wGh (f:=wAK) (p:=(·.Rank)) (fun _=>rfl) _ _ hl,nA,wIS (by simpa using hl),nA,mR]
 rw [wGh (f:=wAP) (p:=(·.Nation)) (fun _=>rfl) _ _ hl,nA,wIS (by simpa using hl),nA,mN]
 rw [nA,wGg (by simpa using hl),nA,nA,wGg (by simpa using hl),nA,hall]
 cases f.all okB with
 | false=>rfl
 | true =>
  cases f.all okR with
  | false=>cases f.all okN <;> rfl
  | true =>
   cases f.all okN with
   | false=>rfl
   | true =>
    simp only [if_true,Bool.true_and]
    by_cases hb:(f.map (·.Bib)).Nodup
    ·by_cases hr:(f.map (·.Rank)).Nodup
     ·simp [hb,hr]
     ·simp [hb,hr]
    ·simp [hb]
theorem wEs {f:List wAA} (G:wCE f):wAm f=some 0:=by
 rw [wJD (by have:=G.l2;omega),wHZ.2 G]
def rk (f:List wAA) (i:Int):Int:=(gd f i.toNat).Rank
theorem wGi {f:List wAA} {a b:Int} (ha:0 <= a/\a < f.length) (hb:0 <= b/\b < f.length):wAU a b f=some (if rk f a < rk f b then -1 else if rk f b < rk f a then 1 else 0):=by
 unfold wAU
 have e:∀ {i:Int},0 <= i->i < f.length->idx f i=some (gd f i.toNat):=fun h1 h2=>by
  unfold idx
  rw [if_pos h1,wCW (by omega)]
 rw [e ha.1 ha.2,nA,e hb.1 hb.2,nA,wJl,wLk]
 rfl
theorem wNc {f:List wAA} (G:wCE f) {a b:Int} (ha:0 <= a/\a < f.length) (hb:0 <= b/\b < f.length) (e:rk f a=rk f b):a=b:=by
 unfold rk at e
 have pw:=nD.1 G.ranks
 have hi:a.toNat < (f.map (·.Rank)).length:=by simp;omega
 have hj:b.toNat < (f.map (·.Rank)).length:=by simp;omega
 have e':(f.map (·.Rank))[a.toNat]=(f.map (·.Rank))[b.toNat]:=by
  rw [nL,nL,<- wEY (by omega),<- wEY (by omega)]
  exact e
 rcases Int.lt_trichotomy a b with c | c | c
 ·exact absurd e' (pw _ _ hi hj (by omega))
 ·exact c
 ·exact absurd e'.symm (pw _ _ hj hi (by omega))
def wCF (n:Nat):List Int:=(nH n).map fun (k:Nat)=>(k:Int)
theorem wGj (n:Nat):(wCF n).Pairwise (· < ·):=by
 unfold wCF
 rw [np]
 exact nf.imp fun h=>by omega
theorem wBq {n:Nat}:∀ i ∈ wCF n,0 <= i/\i < n:=by
 intro i hi
 obtain ⟨k,hk,e⟩:=nY.1 hi
 have:=nQ.1 hk
 omega
structure Rk (f:List wAA) (r:List Int):Prop where
 perm:r.Perm (wCF f.length)
 ord:r.Pairwise fun a b=>rk f a < rk f b
theorem wLr {f:List wAA} (G:wCE f):∃ r,wAy f=some r/\Rk f r:=by
 unfold wAy
 have h1:=G.l1
 have h2:=G.l2
 rw [mkz,if_pos (by omega),nA]
 have e:=wLj (body:=fun (k24:Nat) (l23:List Int) =>
  (chk (↑k24:Int) l23.length).bind fun _ =>
  some (nI l23 k24 (↑k24:Int))) (n:=f.length) (s0:=nE (f.length:Int).toNat 0) (fun k=>wCF k ++ nE (f.length - k) 0) (by simp [wCF]) (by omega) (fun i hi=>by
   have hl:(wCF i ++ nE (f.length - i) (0:Int)).length=f.length:=by simp [wCF];omega
   rw [wDC (by omega) (by omega),nA]
   congr 1
   have hn:(wCF i).length=i:=by simp [wCF]
   rw [List.set_append_right _ _ (by omega),hn,Nat.sub_self,show f.length - i=(f.length - (i + 1)) + 1 by omega,List.replicate_succ,List.set_cons_zero]
   have:wCF (i + 1)=wCF i ++ [(i:Int)]:=by unfold wCF;rw [nO,nc];rfl
   rw [this,nq]
   rfl)
 rw [e,nA]
 simp only [Nat.sub_self,List.replicate_zero,List.append_nil]
 have C:Cmp (fun x:Int × Int=>wAU x.1 x.2 f) (wCF f.length):=by
  have lt:∀ x ∈ wCF f.length,∀ y ∈ wCF f.length,ltB (fun x:Int × Int=>wAU x.1 x.2 f) x y=decide (rk f x < rk f y):=fun x hx y hy=>by
   unfold ltB
   simp only
   rw [wGi (wBq x hx) (wBq y hy)]
   by_cases c:rk f x < rk f y
   ·simp [c]
   ·by_cases c2:rk f y < rk f x <;> simp [c,c2]
  refine ⟨by simp [wCF];omega,fun x hx y hy=>by simp only;rw [wGi (wBq x hx) (wBq y hy)];rfl,fun x hx=>by rw [lt x hx x hx];simp,fun x hx y hy z hz a b=>?_,fun x hx y hy z hz a b=>?_,fun x hx y hy a b=>?_⟩
  ·rw [lt x hx y hy] at a;rw [lt y hy z hz] at b;rw [lt x hx z hz]
   simp at a b ⊢;omega
  ·rw [lt x hx y hy] at a;rw [lt y hy z hz] at b;rw [lt x hx z hz]
   simp at a b ⊢;omega
  ·rw [lt x hx y hy] at a;rw [lt y hy x hx] at b
   simp at a b
   exact wNc G (wBq x hx) (wBq y hy) (by omega)
 unfold wBG
 rw [wMa C,nA]
 refine ⟨_,rfl,nh _ _,?_⟩
 have hp:=nh (wCF f.length) fun x y=>!ltB (fun x:Int × Int=>wAU x.1 x.2 f) y x
 have lt:∀ x ∈ wCF f.length,∀ y ∈ wCF f.length,ltB (fun x:Int × Int=>wAU x.1 x.2 f) x y=decide (rk f x < rk f y):=fun x hx y hy=>by
  unfold ltB
  simp only
  rw [wGi (wBq x hx) (wBq y hy)]
  by_cases c:rk f x < rk f y
  ·simp [c]
  ·by_cases c2:rk f y < rk f x <;> simp [c,c2]
 rw [wDu (le':=fun x y=>decide (rk f x <= rk f y)) (wCF f.length) (fun x hx y hy=>by
  rw [lt y hy x hx,<- decide_not]
  exact decide_eq_decide.2 (by omega))] at hp ⊢
 have so:=List.pairwise_mergeSort (le:=fun x y:Int=>decide (rk f x <= rk f y)) (fun a b c h1 h2=>by simp at h1 h2 ⊢;omega) (fun a b=>by simp;omega) (wCF f.length)
 have nd:((wCF f.length).mergeSort fun x y=>decide (rk f x <= rk f y)).Pairwise (· ≠ ·):=nB.1 (hp.nodup_iff.2 (nB.2 ((wGj _).imp fun h=>by omega)))
 refine (so.and nd).imp_of_mem fun {a b} ha hb h=>?_
 have h1:rk f a <= rk f b:=by simpa using h.1
 have h2:rk f a ≠ rk f b:=fun e=>h.2 (wNc G (wBq a (hp.mem_iff.1 ha)) (wBq b (hp.mem_iff.1 hb)) e)
 omega
end Go.Proofs.YtghaibkggdecnaaGreat
namespace Go.Proofs.YtghaibkggdecnaaGreat
open Go.KL
def col (f:List wAA) (i:Nat):Nat:=(gd f i).Nation.toNat
def man (f:List wAA) (x:Nat):Nat:=cnt (col f) f.length x
theorem wEt {p:Nat->Nat} {x:Nat}:∀ {t:Nat},cnt p t x <= t
 | 0=>nR _
 | t + 1=>by
  have:=wEt (p:=p) (x:=x) (t:=t)
  simp only [cnt]
  split <;> omega
theorem wLs (a:Arr Int 31) {i j:Nat} (hi:i < 31) (v:Int):(a.set i v).get j=if j=i then v else a.get j:=by
 unfold Arr.set Arr.get
 simp only [nT]
 by_cases e:j=i
 ·rw [if_pos e,e,List.getElem?_set_self (by rw [a.h];exact hi)]
  rfl
 ·rw [if_neg e,List.getElem?_set_ne (Ne.symm e)]
theorem wMz {x:Nat} (hx:x < 31):(Arr.fill 31 (0:Int)).get x=0:=by
 unfold Arr.fill Arr.get
 simp only [nT]
 rw [List.getElem?_replicate,if_pos hx]
 rfl
theorem wJE {f:List wAA} (G:wCE f) {i:Nat} (hi:i < f.length):col f i < 31:=by
 have:=G.nat _ (wBY hi)
 unfold col
 omega
theorem wNd {f:List wAA} (G:wCE f) {i:Nat} (hi:i < f.length):((col f i:Nat):Int)=(gd f i).Nation:=by
 have:=G.nat _ (wBY hi)
 unfold col
 omega
theorem wGB {f:List wAA} (G:wCE f):∃ a,wAi f=some a/\∀ x,x < 31->a.get x=((man f x:Nat):Int):=by
 have h2:=G.l2
 obtain ⟨a,e,h⟩:=wDP (n:=f.length) (s0:=Arr.fill 31 0) (body:=fun (k17:Nat) (a16:Arr Int 31) =>
  (idx f (↑k17:Int)).bind fun x39 =>
  (chk x39.Nation 31).bind fun _ =>
  some (a16.set x39.Nation.toNat (w64 ((a16.get x39.Nation.toNat) + 1)))) (fun k a=>∀ x,x < 31->a.get x=((cnt (col f) k x:Nat):Int)) (by omega) (fun x hx=>by rw [wMz hx];rfl) (fun k a hk I=>by
   have hn:=G.nat _ (wBY hk)
   have hc:=wJE G hk
   rw [wCQ hk,nA,wDC (by omega) (by omega),nA]
   refine ⟨_,rfl,fun x hx=>?_⟩
   rw [show (gd f k).Nation.toNat=col f k from rfl,wLs a hc]
   have hl:=wEt (p:=col f) (x:=col f k) (t:=k)
   by_cases e:x=col f k
   ·rw [if_pos e,I _ hc,wAY (by omega) (by omega),e]
    simp only [cnt,if_true]
    omega
   ·rw [if_neg e,I x hx]
    simp only [cnt,if_neg (Ne.symm e),Nat.add_zero])
 unfold wAi
 rw [e]
 exact ⟨a,rfl,h⟩
theorem wPw {l:List Int} (h:1 <= l.length) (h2:l.length <= 1000):∃ M,wAu l=some M/\M ∈ l/\∀ x ∈ l,x <= M:=by
 unfold wAu
 rw [if_neg (by omega),show (0:Int)=((0:Nat):Int) from rfl,wCQ (by omega),nA,wBd,if_pos (by omega)]
 obtain ⟨M,e,h⟩:=wDO (body:=fun (k17:Nat) (x16:Int) =>
   (idx l (1 + ↑k17:Int)).bind fun x37 =>
   some (max x16 x37)) (fun k M=>M ∈ l/\∀ i,i < k + 1->gd l i <= M) ((↑l.length:Int) - 1).toNat 0 (gd l 0) ⟨wBY (by omega),fun i hi=>by
    rw [show i=0 by omega];omega⟩ (fun k M _ hk ⟨i1,i2⟩=>by
    have hk':1 + k < l.length:=by omega
    refine ⟨max M (gd l (1 + k)),?_,?_,fun i hi=>?_⟩
    ·rw [show (1 + (k:Int))=((1 + k:Nat):Int) by omega,wCQ hk',nA]
    ·have:=wBY hk'
     rcases Int.le_total M (gd l (1 + k)) with c | c
     ·rw [Int.max_eq_right c];exact this
     ·rw [Int.max_eq_left c];exact i1
    ·by_cases e:i=1 + k
     ·rw [e];omega
     ·have:=i2 i (by omega)
      omega)
 rw [e]
 refine ⟨M,rfl,h.1,fun x hx=>?_⟩
 obtain ⟨i,hi,ei⟩:=wHY hx
 rw [<- ei]
 exact h.2 i (by omega)
theorem wLt {S:Type} {body:Nat->S->Option S} {s0:S} (I:Nat->S->Prop) (h0:I 0 s0) (h:∀ i s,i < 31->I i s->∃ s',body i s=some s'/\I (i + 1) s'):∃ s,wBd 0 31 body s0=some s/\I 31 s:=wDP (n:=31) I (by omega) h0 h
theorem wJF {q:Nat->Bool}:∀ {C:Nat},((nH C).filter q).length=sm (fun x=>if q x=true then 1 else 0) C
 | 0=>rfl
 | C + 1=>by
  rw [nO,nj,nS,wJF (C:=C)]
  simp only [sm]
  by_cases e:q C=true
  ·simp [e]
  ·simp [e]
def wFe (a:Arr Int 31) (M:Int) (k:Nat):List Int:=((nH k).filter fun x=>decide (a.get x=M)).map fun (x:Nat)=>(x:Int)
theorem wLu (a:Arr Int 31) {k:Nat} (h:k < 31):idx a.l (k:Int)=some (a.get k):=by
 rw [wEy]
 exact a.at_ h
theorem wOh {a:Arr Int 31} {x:Int} (h:x ∈ a.l):∃ k,k < 31/\a.get k=x:=by
 obtain ⟨k,hk,e⟩:=wHY h
 have:=a.h
 exact ⟨k,by omega,e⟩
theorem wIT (a:Arr Int 31):∃ M,wAN a=some (wFe a M 31,M)/\(∃ x,x < 31/\a.get x=M)/\∀ x,x < 31->a.get x <= M:=by
 have hl:=a.h
 obtain ⟨M,e1,e2,e3⟩:=wPw (l:=a.l) (by omega) (by omega)
 unfold wAN
 rw [e1,nA]
 obtain ⟨s,e,hs⟩:=wLt (s0:=([]:List Int)) (body:=fun (k43:Nat) (l39:List Int) =>
  (idx (a.l:List Int) (↑k43:Int)).bind fun x66 =>
  if x66=M then
   (app 8 l39 [(↑k43:Int)]).bind fun x76 =>
   some x76
  else
   some l39) (fun k l=>l=wFe a M k) rfl (fun k l hk I=>by
   subst I
   have hlen:(wFe a M k).length <= 31:=by
    unfold wFe
    rw [nP]
    have:=ng (fun x=>decide (a.get x=M)) (nH k)
    rw [nr] at this
    omega
   have e:wFe a M (k + 1)=if a.get k=M then wFe a M k ++ [(k:Int)] else wFe a M k:=by
    unfold wFe
    rw [nO,nj,nc]
    by_cases e:a.get k=M
    ·simp [e]
    ·simp [e]
   rw [wLu a hk,nA,e]
   by_cases c:a.get k=M
   ·rw [if_pos c,if_pos c,wIy (by simp;omega)]
    exact ⟨_,rfl,rfl⟩
   ·rw [if_neg c,if_neg c]
    exact ⟨_,rfl,rfl⟩)
 rw [e,nA,hs]
 refine ⟨M,rfl,wOh e2,fun x hx=>e3 _ ?_⟩
 exact List.mem_of_getElem? (a.at_ hx)
theorem wNA {a:Arr Int 31} {M:Int} {k:Nat}:(wFe a M k).length=sm (fun x=>if a.get x=M then 1 else 0) k:=by
 unfold wFe
 rw [nP,wJF]
 exact wBp fun x _=>by simp
theorem wOi {a:Arr Int 31} {M:Int} {k:Nat}:(wFe a M k).Pairwise (· < ·):=by
 unfold wFe
 rw [np]
 exact (nf.filter _).imp fun h=>by omega
theorem wJG {a:Arr Int 31} {M:Int} {k:Nat} {y:Int}:y ∈ wFe a M k ↔ ∃ x:Nat,x < k/\a.get x=M/\y=x:=by
 unfold wFe
 constructor
 ·intro h
  obtain ⟨x,hx,e⟩:=nY.1 h
  have:=List.mem_filter.1 hx
  exact ⟨x,nQ.1 this.1,by simpa using this.2,e.symm⟩
 ·rintro ⟨x,hx,e,rfl⟩
  exact nY.2 ⟨x,List.mem_filter.2 ⟨nQ.2 hx,by simpa using e⟩,rfl⟩
theorem wGk {α:Type} [Inhabited α] (g:α->Nat) (l:List α) (x:Nat):cnt (fun r=>g (gd l r)) l.length x=l.countP (fun i=>decide (g i=x)):=by
 have key:∀ k,k <= l.length->cnt (fun r=>g (gd l r)) k x=(l.take k).countP (fun i=>decide (g i=x)):=by
  intro k
  induction k with
  | zero=>intro _;simp [cnt]
  | succ k ih =>
   intro hk
   rw [wGb (by omega),nk]
   simp only [cnt]
   rw [ih (by omega)]
   by_cases e:g (gd l k)=x
   ·simp [e]
   ·simp [e]
 rw [key _ (nR _),List.take_length]
theorem wOj {n k:Nat} (h:k < n):gd (wCF n) k=(k:Int):=by
 rw [wEY (by simpa [wCF] using h)]
 simp [wCF]
theorem wNe {f:List wAA} {o:List Int} (h:o.Perm (wCF f.length)) (x:Nat):man f x=o.countP (fun i=>decide (col f i.toNat=x)):=by
 rw [h.countP_eq]
 have:=wGk (fun i:Int=>col f i.toNat) (wCF f.length) x
 rw [<- this,show (wCF f.length).length=f.length by simp [wCF]]
 exact wEL fun r hr=>by rw [wOj hr];rfl
def pn (f:List wAA) (o:List Int) (r:Nat):Nat:=col f (gd o r).toNat
theorem wPx {f:List wAA} (G:wCE f) {o:List Int} (h:o.Perm (wCF f.length)):∀ r,r < f.length->pn f o r < 31:=by
 intro r hr
 have hl:o.length=f.length:=by rw [h.length_eq];simp [wCF]
 have:=wBq _ (h.mem_iff.1 (wBY (l:=o) (k:=r) (by omega)))
 exact wJE G (by omega)
theorem wNf {f:List wAA} {o:List Int} (h:o.Perm (wCF f.length)) (x:Nat):cnt (pn f o) f.length x=man f x:=by
 have hl:o.length=f.length:=by rw [h.length_eq];simp [wCF]
 rw [wNe h,<- wGk (fun i:Int=>col f i.toNat) o x,hl]
 rfl
theorem wDv {f:List wAA} (G:wCE f):sm (man f) 31=f.length:=wHX fun _ hr=>wJE G hr
end Go.Proofs.YtghaibkggdecnaaGreat
namespace Go.Proofs.YtghaibkggdecnaaGreat
open Go.KL
def Elg (a:Arr Int 31) (l:List (Int × Int)) (t d:Int) (k:Nat):Prop:=0 < a.get k/\(wEz l (k:Int)=true->d <= w64 (t - wBh l (k:Int) 0))
def bRd (a:Arr Int 31) (l:List (Int × Int)) (t d:Int) (k174:Nat) (x173:Int):Option Int :=
  ((idx (a.l:List Int) (↑k174:Int)).bind fun x207 =>
          if 0 < x207 then
            if (wEz l (↑k174:Int))=true then
              if d <= (w64 (t - (wBh l (↑k174:Int) 0))) then
                if x173 < 0 then
                  some (↑k174:Int)
                else
                  (chk x173 31).bind fun _ =>
                  if (a.get x173.toNat) < x207 then
                    some (↑k174:Int)
                  else
                    some x173
              else
                some x173
            else
              if x173 < 0 then
                some (↑k174:Int)
              else
                (chk x173 31).bind fun _ =>
                if (a.get x173.toNat) < x207 then
                  some (↑k174:Int)
                else
                  some x173
          else
            some x173).bind fun x203 =>
          some x203
def BI (a:Arr Int 31) (l:List (Int × Int)) (t d:Int) (k:Nat) (s:Int):Prop :=
 (s=-1/\∀ x,x < k->¬ Elg a l t d x) \/ ∃ b:Nat,b < k/\s=b/\Elg a l t d b/\∀ x,x < k->Elg a l t d x->a.get x <= a.get b
theorem wPy (a:Arr Int 31) (l:List (Int × Int)) (t d:Int) {k:Nat} (hk:k < 31) {s:Int} (I:BI a l t d k s):∃ s',bRd a l t d k s=some s'/\BI a l t d (k + 1) s':=by
 have no:¬ Elg a l t d k->BI a l t d (k + 1) s:=fun c=>by
  rcases I with ⟨i1,i2⟩ | ⟨b,b1,b2,b3,b4⟩
  ·refine .inl ⟨i1,fun x hx=>?_⟩
   by_cases e:x=k
   ·rw [e];exact c
   ·exact i2 x (by omega)
  ·refine .inr ⟨b,by omega,b2,b3,fun x hx ex=>?_⟩
   by_cases e:x=k
   ·rw [e] at ex;exact absurd ex c
   ·exact b4 x (by omega) ex
 have yes:Elg a l t d k->∃ s',(if s < 0 then some (k:Int) else (chk s 31).bind fun _=>if a.get s.toNat < a.get k then some (k:Int) else some s)=some s'/\BI a l t d (k + 1) s':=fun c=>by
  rcases I with ⟨i1,i2⟩ | ⟨b,b1,b2,b3,b4⟩
  ·rw [if_pos (by omega)]
   refine ⟨_,rfl,.inr ⟨k,by omega,rfl,c,fun x hx ex=>?_⟩⟩
   by_cases e:x=k
   ·rw [e];omega
   ·exact absurd ex (i2 x (by omega))
  ·rw [if_neg (by omega),wDC (by omega) (by omega),nA,show s.toNat=b by omega]
   by_cases h:a.get b < a.get k
   ·rw [if_pos h]
    refine ⟨_,rfl,.inr ⟨k,by omega,rfl,c,fun x hx ex=>?_⟩⟩
    by_cases e:x=k
    ·rw [e];omega
    ·have:=b4 x (by omega) ex
     omega
   ·rw [if_neg h]
    refine ⟨_,rfl,.inr ⟨b,by omega,b2,b3,fun x hx ex=>?_⟩⟩
    by_cases e:x=k
    ·rw [e];omega
    ·exact b4 x (by omega) ex
 unfold bRd
 rw [wLu a hk,nA]
 by_cases h1:0 < a.get k
 ·rw [if_pos h1]
  by_cases h2:wEz l (k:Int)=true
  ·rw [if_pos h2]
   by_cases h3:d <= w64 (t - wBh l (k:Int) 0)
   ·rw [if_pos h3]
    obtain ⟨s',e,h⟩:=yes ⟨h1,fun _=>h3⟩
    rw [e]
    exact ⟨s',rfl,h⟩
   ·rw [if_neg h3]
    exact ⟨s,rfl,no fun c=>h3 (c.2 h2)⟩
  ·rw [if_neg h2]
   obtain ⟨s',e,h⟩:=yes ⟨h1,fun c=>absurd c h2⟩
   rw [e]
   exact ⟨s',rfl,h⟩
 ·rw [if_neg h1]
  exact ⟨s,rfl,no fun c=>h1 c.1⟩
theorem wOk (a:Arr Int 31) (l:List (Int × Int)) (t d:Int):∃ s,wBd 0 31 (bRd a l t d) (-1)=some s/\BI a l t d 31 s :=
 wLt (BI a l t d) (.inl ⟨rfl,fun x hx=>by omega⟩) fun i s hi I=>wPy a l t d hi I
def gRd (p0:List wAA) (d:Int) (k130:Nat):List (Int × Int) × Arr Int 31 × List Int × List Int->Option (List (Int × Int) × Arr Int 31 × List Int × List Int)
  | (l119,a122,l123,l126) =>
        (wBd 0 31 (bRd a122 l119 (↑k130:Int) d) (-1)).bind fun y179 =>
        (wAM l123 (fun x=>wAV x p0 y179)).bind fun x317 =>
        (chk x317 l123.length).bind fun _ =>
        (app 8 l126 [(gd l123 x317.toNat)]).bind fun x341 =>
        (wAj l123 x317 (w64 (x317 + 1))).bind fun x349 =>
        (chk y179 31).bind fun _ =>
        some ((mput l119 y179 (↑k130:Int)),(a122.set y179.toNat (w64 ((a122.get y179.toNat) - 1))),x349,x341)
theorem wGl (p0:List wAA):wBP p0=(wAm p0).bind fun x11 =>
 if x11=0 then
  (wAi p0).bind fun x25 =>
  (wAN x25).bind fun (x43,x44) =>
  if 1 < x44 then
   (quo (w64 ((↑p0.length:Int) - (↑x43.length:Int))) (w64 (x44 - 1))).bind fun x61 =>
   (wAy p0).bind fun x66 =>
   (wBd 0 (↑p0.length:Int) (gRd p0 x61) (([]:List (Int × Int)),x25,x66,[])).bind fun (y135,y136,y137,y138) =>
   some ((y138,x61,0):List Int × Int × Int)
  else
   (wAy p0).bind fun x423 =>
   (wBd 0 (↑p0.length:Int) (gRd p0 (↑p0.length:Int)) (([]:List (Int × Int)),x25,x423,[])).bind fun (y492,y493,y494,y495) =>
   some ((y495,(↑p0.length:Int),0):List Int × Int × Int)
 else
  some (([],0,x11):List Int × Int × Int):=rfl
theorem wHa {α:Type} [Inhabited α] {p:α->Bool}:∀ {l:List α} {k:Nat},(∃ x ∈ l,p x=true)->∃ j,j < l.length/\first p l k=((k + j:Nat):Int)/\p (gd l j)=true
 | [],_,h=>by obtain ⟨x,hx,_⟩:=h;simp at hx
 | a :: l,k,h=>by
  rw [first]
  by_cases c:p a=true
  ·rw [if_pos c]
   exact ⟨0,by simp,rfl,c⟩
  ·rw [if_neg c]
   obtain ⟨x,hx,e⟩:=h
   rcases List.mem_cons.1 hx with rfl | hx
   ·exact absurd e c
   ·obtain ⟨j,j1,j2,j3⟩:=wHa (l:=l) (k:=k + 1) ⟨x,hx,e⟩
    refine ⟨j + 1,by simp;omega,by rw [j2];omega,?_⟩
    rw [show gd (a :: l) (j + 1)=gd l j from rfl]
    exact j3
theorem Gr.snoc {C d t:Nat} {c p p':Nat->Nat} (G:Gr C d c p t) (e:∀ r,r < t->p' r=p r) (h1:p' t < C) (h2:cnt p t (p' t) < c (p' t)) (h3:∀ r,r < t->p r=p' t->d <= t - r)
  (h4:∀ x,x < C->cnt p t x < c x->(∀ r,r < t->p r=x->d <= t - r)->c x - cnt p t x <= c (p' t) - cnt p t (p' t)):Gr C d c p' (t + 1):=by
 have ec:∀ s x,s <= t->cnt p' s x=cnt p s x:=fun s x hs=>wEL fun r hr=>e r (by omega)
 refine ⟨fun s hs=>?_,fun s hs=>?_,fun s hs r hr er=>?_,fun s hs x hx hx2 hx3=>?_⟩
 ·by_cases es:s=t
  ·rw [es];exact h1
  ·rw [e s (by omega)];exact G.lt s (by omega)
 ·rw [ec s _ (by omega)]
  by_cases es:s=t
  ·rw [es];exact h2
  ·rw [e s (by omega)];exact G.pos s (by omega)
 ·rw [e r (by omega)] at er
  by_cases es:s=t
  ·rw [es] at er hr ⊢;exact h3 r hr er
  ·rw [e s (by omega)] at er;exact G.gap s (by omega) r hr er
 ·rw [ec s _ (by omega)] at hx2 ⊢
  rw [ec s _ (by omega)]
  have hx3':∀ r,r < s->p r=x->d <= s - r:=fun r hr er=>hx3 r hr (by rw [e r (by omega)];exact er)
  by_cases es:s=t
  ·subst es;exact h4 x hx hx2 hx3'
  ·rw [e s (by omega)];exact G.best s (by omega) x hx hx2 hx3'
theorem Gr.zero {C d:Nat} {c p:Nat->Nat}:Gr C d c p 0:=⟨fun _ h=>by omega,fun _ h=>by omega,fun _ h=>by omega,fun _ h=>by omega⟩
structure SI (f:List wAA) (d:Nat) (t:Nat) (s:List (Int × Int) × Arr Int 31 × List Int × List Int):Prop where
 len:s.2.2.2.length=t
 perm:(s.2.2.2 ++ s.2.2.1).Perm (wCF f.length)
 gr:Gr 31 d (man f) (pn f s.2.2.2) t
 left:∀ x,x < 31->s.2.1.get x=((man f x - cnt (pn f s.2.2.2) t x:Nat):Int)
 last:∀ x:Nat,x < 31->(wEg s.1 (x:Int)=none/\∀ r,r < t->pn f s.2.2.2 r ≠ x) \/ ∃ r,r < t/\wEg s.1 (x:Int)=some (r:Int)/\pn f s.2.2.2 r=x/\∀ q,q < t->pn f s.2.2.2 q=x->q <= r
theorem wOl {f:List wAA} {d t:Nat} {s:List (Int × Int) × Arr Int 31 × List Int × List Int} (I:SI f d t s) (ht:t <= 1000) {x:Nat} (hx:x < 31) :
  Elg s.2.1 s.1 t d x ↔ cnt (pn f s.2.2.2) t x < man f x/\∀ r,r < t->pn f s.2.2.2 r=x->d <= t - r:=by
 unfold Elg
 rw [I.left x hx]
 constructor
 ·rintro ⟨h1,h2⟩
  refine ⟨by omega,fun r hr er=>?_⟩
  rcases I.last x hx with ⟨_,i2⟩ | ⟨q,q1,q2,q3,q4⟩
  ·exact absurd er (i2 r hr)
  ·have:=h2 (by rw [wEz,q2];rfl)
   rw [wBh,q2,nZ,wAY (by omega) (by omega)] at this
   have:=q4 r hr er
   omega
 ·rintro ⟨h1,h2⟩
  refine ⟨by omega,fun h=>?_⟩
  rcases I.last x hx with ⟨i1,_⟩ | ⟨q,q1,q2,q3,q4⟩
  ·rw [wEz,i1] at h;exact absurd h (by decide)
  ·rw [wBh,q2,nZ,wAY (by omega) (by omega)]
   have:=h2 q q1 q3
   omega
theorem wPz {f:List wAA} {o m:List Int} {r:Nat} (h:r < o.length):pn f (o ++ m) r=pn f o r:=by
 unfold pn
 rw [wJA h]
theorem wQA {f:List wAA} (G:wCE f) {d:Nat} (hd:1 <= d) (h0:∀ u,0 < lv 31 (man f) (man f) 0 u->lv 31 (man f) (man f) 0 u + u * d <= f.length) {t:Nat} (ht:t < f.length) {s:List (Int × Int) × Arr Int 31 × List Int × List Int} (I:SI f d t s) :
  ∃ s',gRd f d t s=some s'/\SI f d (t + 1) s':=by
 have hf:=G.l2
 obtain ⟨l,a,sk,o⟩:=s
 have hlen:=I.len
 have hperm:=I.perm
 have hgr:=I.gr
 have hleft:=I.left
 have hlast:=I.last
 have hel:=fun (x:Nat) (hx:x < 31)=>wOl I (by omega) hx
 simp only at hlen hperm hgr hleft hlast hel
 unfold gRd
 simp only
 obtain ⟨y,ey,hy⟩:=wOk a l (t:Int) (d:Int)
 rw [ey,nA]
 obtain ⟨x,hx,hx2,hx3⟩:=wMv hgr hd h0 (wDv G) ht
 have hb:∃ b:Nat,b < 31/\y=b/\Elg a l t d b/\∀ x,x < 31->Elg a l t d x->a.get x <= a.get b:=by
  rcases hy with ⟨_,h2⟩ | h
  ·exact absurd ((hel x hx).2 ⟨hx2,hx3⟩) (h2 x hx)
  ·exact h
 clear hy hx hx2 hx3
 obtain ⟨b,b1,rfl,b2,b3⟩:=hb
 obtain ⟨c1,c2⟩:=(hel b b1).1 b2
 have hsk:∀ i ∈ sk,0 <= i/\i < (f.length:Int):=fun i hi=>wBq _ (hperm.mem_iff.1 (List.mem_append_right _ hi))
 have hnat:∀ i ∈ sk,(decide (col f i.toNat=b))=decide ((gd f i.toNat).Nation=b):=fun i hi=>by
  have:=hsk i hi
  have:=wNd G (i:=i.toNat) (by omega)
  rw [<- this]
  refine decide_eq_decide.2 ⟨fun h=>by omega,fun h=>by omega⟩
 have hex:∃ i ∈ sk,decide ((gd f i.toNat).Nation=b)=true:=by
  have e1:=wNe hperm b
  rw [nk,<- wGk (fun i:Int=>col f i.toNat) o b,hlen] at e1
  have e2:cnt (fun r=>col f (gd o r).toNat) t b=cnt (pn f o) t b:=rfl
  rw [e2] at e1
  have:0 < sk.countP (fun i=>decide (col f i.toNat=b)):=by omega
  obtain ⟨i,hi,e⟩:=List.countP_pos_iff.1 this
  exact ⟨i,hi,by rw [<- hnat i hi];exact e⟩
 have hskl:o.length + sk.length=f.length:=by
  rw [<- nS,hperm.length_eq];simp [wCF]
 have eI:wAM sk (fun x=>wAV x f (b:Int))=some (first (fun i:Int=>decide ((gd f i.toNat).Nation=b)) sk 0):=by
  unfold wAM
  refine wJk (z:=fun x=>x) (fun i hi=>?_) (by omega)
  have h:=hsk i hi
  unfold wAV
  obtain ⟨k,rfl⟩:=na h.1
  rw [wCQ (by omega),nA]
  rfl
 obtain ⟨j,j1,j2,j3⟩:=wHa (k:=0) hex
 rw [nG] at j2
 have hi:=hsk _ (wBY j1)
 have ec:col f (gd sk j).toNat=b:=by
  have:=hnat _ (wBY j1)
  rw [j3] at this
  simpa using this
 rw [eI,j2,nA,wDC (by omega) (by omega),nA,wIy (by simp;omega),nA,wAY (by omega) (by omega),wAj,delO,if_pos (by omega),nA,wDC (by omega) (by omega),nA]
 have e1:((j:Int)).toNat=j:=by omega
 have e2:((j:Int) + 1).toNat=j + 1:=by omega
 have e3:((b:Int)).toNat=b:=by omega
 rw [e1,e2,e3]
 refine ⟨_,rfl,?_⟩
 have old:∀ r,r < t->pn f (o ++ [gd sk j]) r=pn f o r:=fun r hr=>wPz (by omega)
 have new:pn f (o ++ [gd sk j]) t=b:=by
  unfold pn
  rw [<- hlen,wJB]
  exact ec
 have oc:∀ x,cnt (pn f (o ++ [gd sk j])) t x=cnt (pn f o) t x:=fun x=>wEL old
 refine ⟨by simp [hlen],?_,?_,fun x hx=>?_,fun x hx=>?_⟩
 ·simp only
  refine List.Perm.trans ?_ hperm
  have:sk=sk.take j ++ gd sk j :: sk.drop (j + 1):=by
   rw [<- wIR j1,nM]
  rw [nq]
  refine List.Perm.append_left o ?_
  conv=>rhs;rw [this]
  rw [List.singleton_append]
  exact List.perm_middle.symm
 ·simp only
  refine hgr.snoc old (by rw [new];exact b1) (by rw [new];exact c1) (by rw [new];exact c2) fun x hx h1 h2=>?_
  rw [new]
  have:=b3 x hx ((hel x hx).2 ⟨h1,h2⟩)
  rw [hleft x hx,hleft b b1] at this
  omega
 ·simp only
  rw [wLs a b1]
  have hx2:=hleft b b1
  by_cases e:x=b
  ·have hm:man f b <= f.length:=wEt
   rw [if_pos e,hx2,wAY (by omega) (by omega),e]
   simp only [cnt,new,if_true,oc]
   omega
  ·rw [if_neg e,hleft x hx]
   simp only [cnt,new,if_neg (Ne.symm e),oc,Nat.add_zero]
 ·simp only
  rw [wGf]
  by_cases e:x=b
  ·rw [if_pos (by omega)]
   exact .inr ⟨t,by omega,rfl,by rw [new,e],fun q hq _=>by omega⟩
  ·rw [if_neg (by omega)]
   rcases hlast x hx with ⟨i1,i2⟩ | ⟨r,r1,r2,r3,r4⟩
   ·refine .inl ⟨i1,fun r hr=>?_⟩
    by_cases er:r=t
    ·rw [er,new];exact Ne.symm e
    ·rw [old r (by omega)];exact i2 r (by omega)
   ·refine .inr ⟨r,by omega,r2,by rw [old r r1];exact r3,fun q hq eq=>?_⟩
    by_cases er:q=t
    ·rw [er,new] at eq;exact absurd eq.symm e
    ·rw [old q (by omega)] at eq;exact r4 q (by omega) eq
theorem wLv {f:List wAA} (G:wCE f) {d:Nat} (hd:1 <= d) (h0:∀ u,0 < lv 31 (man f) (man f) 0 u->lv 31 (man f) (man f) 0 u + u * d <= f.length) {a:Arr Int 31} (ha:∀ x,x < 31->a.get x=((man f x:Nat):Int)) {r:List Int} (R:Rk f r) :
  ∃ l a' sk o,wBd 0 (↑f.length:Int) (gRd f (d:Int)) (([]:List (Int × Int)),a,r,[])=some (l,a',sk,o)/\o.Perm (wCF f.length)/\Gap (pn f o) d f.length:=by
 have hf:=G.l2
 obtain ⟨⟨l,a',sk,o⟩,e,I⟩:=wDP (SI f d) (by omega) (s0:=(([]:List (Int × Int)),a,r,([]:List Int))) ⟨rfl,by simpa using R.perm,Gr.zero,fun x hx=>by simp only [cnt];rw [ha x hx];omega,fun x hx=>.inl ⟨rfl,fun r hr=>by omega⟩⟩ fun t s ht I=>wQA G hd h0 ht I
 have hperm:=I.perm
 have hlen:=I.len
 have hgr:=I.gr
 simp only at hperm hlen hgr
 have:sk=[]:=by
  have h:=hperm.length_eq
  rw [nS,hlen,show (wCF f.length).length=f.length by simp [wCF]] at h
  exact nJ.1 (by omega)
 rw [this,List.append_nil] at hperm
 exact ⟨l,a',sk,o,e,hperm,hgr.gap⟩
end Go.Proofs.YtghaibkggdecnaaGreat
namespace Go.Proofs.YtghaibkggdecnaaGreat
open Go.KL
theorem wNB (n:Nat):(wCF n).length=n:=by simp [wCF]
theorem wOm {f:Nat->Nat} {x:Nat}:∀ {C:Nat},x < C->f x <= sm f C
 | 0,h=>by omega
 | C + 1,h=>by
  simp only [sm]
  by_cases e:x=C
  ·rw [e];omega
  ·have:=wOm (f:=f) (x:=x) (C:=C) (by omega)
   omega
theorem wLw (f:List wAA) (x:Nat):man f x <= f.length:=wEt
structure Grt (f:List wAA) (a:Arr Int 31) (m:Nat):Prop where
 cnt:wAi f=some a
 get:∀ x,x < 31->a.get x=((man f x:Nat):Int)
 grt:wAN a=some (wFe a m 31,(m:Int))
 hit:∃ x,x < 31/\man f x=m
 top:∀ x,x < 31->man f x <= m
 m1:1 <= m
 len:(wFe a m 31).length=nb 31 (man f) m
theorem wQB {f:List wAA} (G:wCE f):∃ a m,Grt f a m:=by
 have h1:=G.l1
 obtain ⟨a,e,ha⟩:=wGB G
 obtain ⟨M,e2,⟨x,hx,ex⟩,ht⟩:=wIT a
 rw [ha x hx] at ex
 subst ex
 have top:∀ y,y < 31->man f y <= man f x:=fun y hy=>by
  have:=ht y hy
  rw [ha y hy] at this
  omega
 refine ⟨a,man f x,e,ha,e2,⟨x,hx,rfl⟩,top,?_,?_⟩
 ·have h:=wLm (f:=man f) (C:=31) (by rw [wDv G];omega)
  obtain ⟨y,hy,h⟩:=h
  have:=top y hy
  omega
 ·rw [wNA]
  refine wBp fun y hy=>?_
  have:=top y hy
  have:=ha y hy
  by_cases c:man f x <= man f y
  ·rw [if_pos (by omega),if_pos c]
  ·rw [if_neg (by omega),if_neg c]
def dd (f:List wAA) (m:Nat):Nat:=if 2 <= m then (f.length - nb 31 (man f) m) / (m - 1) else f.length
theorem wQC {C m:Nat} {c:Nat->Nat} (h:1 <= m):nb C c m <= sm c C:=wLl fun x _=>by
 split <;> omega
structure DD (f:List wAA) (m d:Nat):Prop where
 sum:(m - 1) * d + nb 31 (man f) m <= f.length
 d1:1 <= d
 dn:d <= f.length
theorem wQD {f:List wAA} (G:wCE f) {m:Nat} (hit:∃ x,x < 31/\man f x=m) (top:∀ x,x < 31->man f x <= m) (m1:1 <= m):DD f m (dd f m):=by
 have h1:=G.l1
 have hb:=wQC (C:=31) (c:=man f) m1
 rw [wDv G] at hb
 unfold dd
 by_cases h2:2 <= m
 ·rw [if_pos h2]
  obtain ⟨x,hx,ex⟩:=hit
  have hk:1 <= nb 31 (man f) m:=by
   have:=wOm (f:=fun x=>if m <= man f x then 1 else 0) hx
   simp only [ex,nR,if_true] at this
   exact this
  have eg:gl 31 (man f) m=f.length:=by
   rw [<- wDv G]
   exact wBp fun y hy=>by have:=top y hy;omega
  have e2:=wGe (C:=31) (c:=man f) (m - 1)
  rw [Nat.sub_add_cancel m1,eg] at e2
  have hu:=wOf (C:=31) (c:=man f) (d:=nb 31 (man f) m) (m - 1) (fun i hi=>wLq (by omega))
  have hq:nb 31 (man f) m <= (f.length - nb 31 (man f) m) / (m - 1):=(nN (by omega)).2 (by rw [nl];omega)
  have hm:=Nat.mul_div_le (f.length - nb 31 (man f) m) (m - 1)
  refine ⟨by omega,by omega,?_⟩
  have:=Nat.div_le_self (f.length - nb 31 (man f) m) (m - 1)
  omega
 ·rw [if_neg h2]
  have:m - 1=0:=by omega
  exact ⟨by rw [this];omega,by omega,by omega⟩
theorem wLx {a b:Nat} (ha:a <= 1000) (hb:0 < b):quo (a:Int) (b:Int)=some ((a / b:Nat):Int):=by
 unfold quo
 rw [if_neg (by omega)]
 have e:(a:Int).tdiv (b:Int)=((a / b:Nat):Int):=rfl
 rw [e]
 have:=Nat.div_le_self a b
 generalize a / b=q at this ⊢
 rw [wAY (by omega) (by omega)]
theorem wLy {f:List wAA} (G:wCE f) {a:Arr Int 31} {m:Nat} (T:Grt f a m):∃ o,wBP f=some (o,((dd f m:Nat):Int),0)/\o.Perm (wCF f.length)/\Gap (pn f o) (dd f m) f.length:=by
 have h2:=G.l2
 have D:=wQD G T.hit T.top T.m1
 have h0:=wMw (p:=man f) T.m1 T.top (wDv G) D.sum
 obtain ⟨r,er,R⟩:=wLr G
 obtain ⟨l,a',sk,o,e,hp,hg⟩:=wLv G D.d1 h0 T.get R
 have hx:m <= f.length:=by obtain ⟨x,_,ex⟩:=T.hit;rw [<- ex];exact wLw f x
 have hb:=wQC (C:=31) (c:=man f) T.m1
 rw [wDv G] at hb
 rw [wGl,wEs G,nA,if_pos rfl,T.cnt,nA,T.grt,nA]
 simp only
 by_cases c:2 <= m
 ·have ed:dd f m=(f.length - nb 31 (man f) m) / (m - 1):=if_pos c
  rw [if_pos (by omega),T.len,wAY (by omega) (by omega),wAY (by omega) (by omega)]
  rw [show (f.length:Int) - (nb 31 (man f) m:Int)=((f.length - nb 31 (man f) m:Nat):Int) by omega,show (m:Int) - 1=((m - 1:Nat):Int) by omega,wLx (by omega) (by omega),nA,er,nA,<- ed,e,nA]
  exact ⟨o,rfl,hp,hg⟩
 ·have ed:dd f m=f.length:=if_neg c
  rw [if_neg (by omega),er,nA]
  rw [ed] at e hg ⊢
  rw [e,nA]
  exact ⟨o,rfl,hp,hg⟩
theorem wNC {f:List wAA} (G:wCE f) {a:Arr Int 31} {m:Nat} (T:Grt f a m):wBW f=some (if m < 2 then ([],6) else (wFe a m 31,0)):=by
 unfold wBW
 rw [wEs G,nA,if_pos rfl,T.cnt,nA,T.grt,nA]
 simp only
 by_cases c:m < 2
 ·rw [if_pos (by omega),if_pos c]
 ·rw [if_neg (by omega),if_neg c]
def errO (f:List wAA) (o:List Int):Int:=if wOg f=0 then (if o.length=f.length then (if o.all (fun x=>decide (0 <= x) && decide (x <= (f.length:Int) - 1))=true then (if o.Nodup then 0 else 5) else 1) else 2) else wOg f
theorem wJm {f:List wAA} {o:List Int} (hf:f.length <= 1000) (ho:o.length <= 1000):wBK f o=some (errO f o):=by
 have ea:wAf o (fun x=>wAl x f)=some (o.all fun x=>decide (0 <= x) && decide (x <= (f.length:Int) - 1)):=by
  unfold wAf
  rw [wIx (p:=fun x=>decide (0 <= x) && decide (x <= (f.length:Int) - 1)) (z:=false) (fun x _=>by
   unfold wAl
   rw [wAY (by omega) (by omega)]
   simp only [wMy,nA]
   split <;> rfl) (by omega)]
  cases o.all fun x=>decide (0 <= x) && decide (x <= (f.length:Int) - 1) <;> rfl
 unfold wBK errO
 rw [wJD hf,nA]
 by_cases h1:wOg f=0
 ·rw [if_pos h1,if_pos h1]
  by_cases h2:o.length=f.length
  ·rw [if_pos (by omega),if_pos h2,ea,nA]
   by_cases h3:(o.all fun x=>decide (0 <= x) && decide (x <= (f.length:Int) - 1))=true
   ·rw [if_pos h3,if_pos h3,wGg ho,nA]
    by_cases h4:o.Nodup
    ·simp [h4]
    ·simp [h4]
   ·rw [if_neg h3,if_neg h3]
  ·rw [if_neg (by omega),if_neg h2]
 ·rw [if_neg h1,if_neg h1]
theorem wGC {n:Nat} {o:List Int} (h:o.Perm (wCF n)):o.length=n/\(∀ i ∈ o,0 <= i/\i < (n:Int))/\o.Nodup :=
 ⟨by rw [h.length_eq,wNB],fun i hi=>wBq _ (h.mem_iff.1 hi),h.nodup_iff.2 (nB.2 ((wGj n).imp fun h=>by omega))⟩
theorem wLz {f:List wAA} (G:wCE f) {o:List Int} (h:o.Perm (wCF f.length)):errO f o=0:=by
 obtain ⟨h1,h2,h3⟩:=wGC h
 unfold errO
 rw [if_pos (wHZ.2 G),if_pos h1,if_pos (nK.2 fun x hx=>by
  have:=h2 x hx
  simp
  omega),if_pos h3]
structure IsA (p:Nat->Nat) (n A:Nat):Prop where
 le:A <= n
 gap:Gap p A n
 hit:A=n \/ ∃ t r,t < n/\r < t/\p r=p t/\t - r=A
def Last (p:Nat->Nat) (t:Nat) (l:List (Int × Int)):Prop :=
 ∀ x:Nat,x < 31->(wEg l (x:Int)=none/\∀ r,r < t->p r ≠ x) \/ ∃ r,r < t/\wEg l (x:Int)=some (r:Int)/\p r=x/\∀ q,q < t->p q=x->q <= r
theorem Last.put {p:Nat->Nat} {t:Nat} {l:List (Int × Int)} (I:Last p t l):Last p (t + 1) (mput l ((p t:Nat):Int) (t:Int)):=by
 intro x hx
 rw [wGf]
 by_cases e:x=p t
 ·rw [if_pos (by omega)]
  exact .inr ⟨t,by omega,rfl,e.symm,fun q hq _=>by omega⟩
 ·rw [if_neg (by omega)]
  rcases I x hx with ⟨i1,i2⟩ | ⟨r,r1,r2,r3,r4⟩
  ·refine .inl ⟨i1,fun r hr=>?_⟩
   by_cases er:r=t
   ·rw [er];exact Ne.symm e
   ·exact i2 r (by omega)
  ·refine .inr ⟨r,by omega,r2,r3,fun q hq eq=>?_⟩
   by_cases er:q=t
   ·rw [er] at eq;exact absurd eq.symm e
   ·exact r4 q (by omega) eq
theorem wJn {f:List wAA} (G:wCE f) {o:List Int} (hl:o.length=f.length) (hin:∀ i ∈ o,0 <= i/\i < (f.length:Int)) (ho:wBK f o=some 0) :
  ∃ A:Nat,wAn f o=some ((A:Int),0)/\IsA (pn f o) f.length A:=by
 have h2:=G.l2
 unfold wAn
 rw [ho,nA,if_pos rfl,hl]
 obtain ⟨⟨l,x⟩,e,A,rfl,ia,ig,ih,_⟩:=wDP (n:=f.length) (s0:=(([]:List (Int × Int)),(f.length:Int))) (body:=fun (k36:Nat) (x:List (Int × Int) × Int)=>match x with
  | (l32,x35) =>
   (idx o (↑k36:Int)).bind fun x61 =>
   (idx f x61).bind fun x70 =>
   if (wEz l32 x70.Nation)=true then
    some ((mput l32 x70.Nation (↑k36:Int)),min x35 (w64 ((↑k36:Int) - (wBh l32 x70.Nation 0))))
   else
    some ((mput l32 x70.Nation (↑k36:Int)),x35)) (fun t s=>∃ A:Nat,s.2=(A:Int)/\A <= f.length/\Gap (pn f o) A t/\(A=f.length \/ ∃ t' r,t' < t/\r < t'/\pn f o r=pn f o t'/\t' - r=A)/\Last (pn f o) t s.1) (by omega)
   ⟨f.length,rfl,nR _,fun _ h=>by omega,.inl rfl,fun x _=>.inl ⟨rfl,fun r hr=>by omega⟩⟩ (by
   rintro t ⟨l,x⟩ ht ⟨A,rfl,ia,ig,ih,il⟩
   have hk:t < o.length:=by omega
   have hi:=hin _ (wBY hk)
   have hc:=wNd G (i:=(gd o t).toNat) (by omega)
   have hc2:=wJE G (i:=(gd o t).toNat) (by omega)
   have hc3:(gd f (gd o t).toNat).Nation=((pn f o t:Nat):Int):=hc.symm
   have hc4:pn f o t < 31:=hc2
   simp only at il ⊢
   rw [wCQ hk,nA,show idx f (gd o t)=idx f (((gd o t).toNat:Nat):Int) by rw [Int.toNat_of_nonneg hi.1],wCQ (by omega),nA,hc3]
   rcases il _ hc4 with ⟨i1,i2⟩ | ⟨r,r1,r2,r3,r4⟩
   ·rw [if_neg (by rw [wEz,i1];decide)]
    refine ⟨_,rfl,A,rfl,ia,fun s hs r hr er=>?_,?_,il.put⟩
    ·by_cases es:s=t
     ·rw [es] at er hr;exact absurd er (i2 r hr)
     ·exact ig s (by omega) r hr er
    ·rcases ih with h | ⟨t',r,a1,a2,a3,a4⟩
     ·exact .inl h
     ·exact .inr ⟨t',r,by omega,a2,a3,a4⟩
   ·rw [if_pos (by rw [wEz,r2];rfl),wBh,r2,nZ,wAY (by omega) (by omega)]
    refine ⟨_,rfl,min A (t - r),by simp only;omega,by omega,fun s hs q hq eq=>?_,?_,il.put⟩
    ·by_cases es:s=t
     ·rw [es] at eq hq ⊢
      have:=r4 q hq eq
      omega
     ·have:=ig s (by omega) q hq eq
      omega
    ·by_cases c:A <= t - r
     ·rw [Nat.min_eq_left c]
      rcases ih with h | ⟨t',r,a1,a2,a3,a4⟩
      ·exact .inl h
      ·exact .inr ⟨t',r,by omega,a2,a3,a4⟩
     ·rw [Nat.min_eq_right (by omega)]
      exact .inr ⟨t,r,by omega,r1,r3,rfl⟩)
 rw [e,nA]
 exact ⟨A,rfl,ia,ig,ih⟩
theorem wJH {f:List wAA} (G:wCE f) {o:List Int} (h:o.Perm (wCF f.length)):∃ A:Nat,wAn f o=some ((A:Int),0)/\IsA (pn f o) f.length A:=by
 obtain ⟨h1,h2,_⟩:=wGC h
 have:=G.l2
 exact wJn G h1 h2 (by rw [wJm (by omega) (by omega),wLz G h])
theorem wJI {f:List wAA} (G:wCE f) {m:Nat} (hit:∃ x,x < 31/\man f x=m) {o:List Int} (h:o.Perm (wCF f.length)) {A:Nat} (I:IsA (pn f o) f.length A):A <= dd f m:=by
 unfold dd
 by_cases c:2 <= m
 ·rw [if_pos c]
  obtain ⟨x,hx,ex⟩:=hit
  have hk:1 <= nb 31 (man f) m:=by
   have:=wOm (f:=fun x=>if m <= man f x then 1 else 0) hx
   simp only [ex,nR,if_true] at this
   exact this
  have e:nb 31 (man f) m=sm (fun x=>if decide (m <= man f x)=true then 1 else 0) 31:=wBp fun y _=>by simp
  have:=ub (C:=31) (j:=m - 1) I.gap (wPx G h) (fun x=>decide (m <= man f x)) (fun x _ hx=>by
   rw [wNf h]
   have:=of_decide_eq_true hx
   omega) (by rw [<- e];omega)
  rw [<- e] at this
  refine (nN (by omega)).2 ?_
  rw [nl]
  omega
 ·rw [if_neg c]
  exact I.le
theorem wJo {f:List wAA} (G:wCE f) {m:Nat} (hit:∃ x,x < 31/\man f x=m) {o:List Int} (h:o.Perm (wCF f.length)) {A:Nat} (I:IsA (pn f o) f.length A) (hg:Gap (pn f o) (dd f m) f.length) (hd:dd f m <= f.length):A=dd f m:=by
 have h1:=wJI G hit h I
 rcases I.hit with e | ⟨t,r,h3,h4,h5,h6⟩
 ·omega
 ·have:=hg t h3 r h4 h5
  omega
theorem wGm {l:List Int} {C:Nat}:∀ {l:List Int},l.Nodup->(∀ y ∈ l,∃ k:Nat,k < C/\y=k)->sm (fun x=>if decide ((x:Int) ∈ l)=true then 1 else 0) C=l.length
 | [],_,_=>wGc fun x _=>by simp
 | y :: l,nd,h=>by
  obtain ⟨k,hk,rfl⟩:=h y (by simp)
  obtain ⟨n1,n2⟩:=List.nodup_cons.1 nd
  rw [wGd (g:=fun x:Nat=>if decide ((x:Int) ∈ l)=true then 1 else 0) hk (by simp [n1]) (fun x hx=>by
   have:(x:Int) ≠ k:=by omega
   simp [this]),wGm (l:=l) (C:=C) n2 (fun y hy=>h y (by simp [hy])),List.length_cons]
def wQE (f:List wAA) (l:List Int):Prop:=∀ y ∈ l,∃ k:Nat,k < 31/\y=k/\2 <= man f k
theorem wHb {f:List wAA} (G:wCE f) {l:List Int} (h1:1 <= l.length) (hl:l.length <= 1000) (inc:l.Pairwise (· < ·)) :
    (wQE f l/\∃ w:Nat,2 <= w/\(∃ k:Nat,(k:Int) ∈ l/\man f k=w)/\(∀ k:Nat,(k:Int) ∈ l->w <= man f k)/\l.length <= f.length/\wAb f l=some ((((f.length - l.length) / (w - 1):Nat):Int),0)) \/
    (¬ wQE f l/\wAb f l=some (0,6)):=by
  have hf:=G.l2
  obtain ⟨a,ea,ga⟩:=wGB G
  have e1:wGH 1 (↑l.length:Int) (fun k17 (_:Unit) =>
        (idx l (1 + ↑k17:Int)).bind fun x38 =>
        (idx l (w64 ((1 + ↑k17:Int) - 1))).bind fun x47 =>
        if x38 <= x47 then
          (esc (some ((0,4):Int × Int)))
        else
          some (.inl ())) ()=some (.inl ()):=by
    rw [wGH,if_pos (by omega)]
    refine wIz (fun _=>()) _ 0 fun i _ hi=>?_
    have hi2:1 + i < l.length:=by omega
    rw [show (1:Int) + (i:Int) - 1=(i:Int) by omega,wAY (by omega) (by omega),show (1:Int) + (i:Int)=((1 + i:Nat):Int) by omega,wCQ hi2,nA,wCQ (by omega),nA]
    have:=nD.1 inc i (1 + i) (by omega) hi2 (by omega)
    rw [<- wEY,<- wEY] at this
    rw [if_neg (by omega)]
  unfold wAb
  rw [wEs G,nA,if_pos rfl,if_neg (by omega),e1]
  simp only [jn]
  rw [ea,nA,wCi (by omega)]
  rcases wEr (body:=fun (k97:Nat) (x96:Int) =>
        (idx l (↑k97:Int)).bind fun x120 =>
        (wBV x120 0 30).bind fun x131 =>
        if x131=true then
          (chk x120 31).bind fun _ =>
          if (a.get x120.toNat) < 2 then
            (esc (some ((0,6):Int × Int)))
          else
            some (.inl (min x96 (a.get x120.toNat)))
        else
          esc (some (0,6))) (fun k s=>∃ w:Nat,s=(w:Int)/\2 <= w/\w <= 60/\(∀ j,j < k->∃ q:Nat,q < 31/\gd l j=q/\2 <= man f q/\w <= man f q)/\(w=60 \/ ∃ j q,j < k/\gd l j=((q:Nat):Int)/\man f q=w)) (fun b=>b=((0,6):Int × Int)/\¬ wQE f l) l.length 0 60 ⟨60,rfl,by omega,by omega,fun j hj=>by omega,.inl rfl⟩ (by
        rintro k s _ hk ⟨w,rfl,w2,w60,i1,i2⟩
        have hk':k < l.length:=by omega
        rw [wCQ hk',nA,wMy,nA]
        by_cases c:0 <= gd l k/\gd l k <= 30
        · rw [if_pos (by simp [c]),wDC (by omega) (by omega),nA]
          obtain ⟨q,eq⟩:=na c.1
          have hq:=ga q (by omega)
          rw [eq,show ((q:Int)).toNat=q by omega,hq]
          have hm:=wLw f q
          by_cases c2:((man f q:Nat):Int) < 2
          · rw [if_pos c2]
            refine .inr ⟨_,rfl,rfl,fun h=>?_⟩
            obtain ⟨k',_,e',h'⟩:=h _ (wBY hk')
            have:k'=q:=by omega
            subst this
            omega
          · rw [if_neg c2]
            refine .inl ⟨_,rfl,min w (man f q),by omega,by omega,by omega,fun j hj=>?_,?_⟩
            · by_cases ej:j=k
              · exact ⟨q,by omega,by rw [ej,eq],by omega,by omega⟩
              · obtain ⟨q',h1,h2,h3,h4⟩:=i1 j (by omega)
                exact ⟨q',h1,h2,h3,by omega⟩
            · by_cases cm:w <= man f q
              · rw [Nat.min_eq_left cm]
                rcases i2 with h | ⟨j,q',h1,h2,h3⟩
                · exact .inl h
                · exact .inr ⟨j,q',by omega,h2,h3⟩
              · rw [Nat.min_eq_right (by omega)]
                exact .inr ⟨k,q,by omega,eq,rfl⟩
        · rw [if_neg (by simp;omega)]
          refine .inr ⟨_,rfl,rfl,fun h=>?_⟩
          obtain ⟨k',h',e',_⟩:=h _ (wBY hk')
          omega) with ⟨s,e2,w,rfl,w2,w60,i1,i2⟩ | ⟨b,e2,rfl,hb⟩
  · rw [nG] at i1 i2
    left
    rw [e2]
    have ok:wQE f l:=fun y hy=>by
      obtain ⟨j,hj,ej⟩:=wHY hy
      obtain ⟨q,h1,h2,h3,_⟩:=i1 j hj
      exact ⟨q,h1,by rw [<- ej,h2],h3⟩
    have hlen:l.length <= f.length:=by
      rw [<- wGm (l:=l) (C:=31) (nB.2 (inc.imp fun h=>by omega)) (fun y hy=>by obtain ⟨k,a1,a2,_⟩:=ok y hy;exact ⟨k,a1,a2⟩),<- wDv G]
      refine wLl fun x hx=>?_
      by_cases c:(x:Int) ∈ l
      · obtain ⟨k,_,e,h⟩:=ok _ c
        have:k=x:=by omega
        subst this
        simp [c]
        omega
      · simp [c]
    refine ⟨ok,w,w2,?_,fun k hk=>?_,hlen,?_⟩
    · rcases i2 with h | ⟨j,q,h1,h2,h3⟩
      · obtain ⟨q,a1,a2,a3,a4⟩:=i1 0 (by omega)
        have:=wLw f q
        exact ⟨q,by rw [<- a2];exact wBY (by omega),by omega⟩
      · exact ⟨q,by rw [<- h2];exact wBY (by omega),h3⟩
    · obtain ⟨j,hj,ej⟩:=wHY hk
      obtain ⟨q,a1,a2,a3,a4⟩:=i1 j hj
      have:q=k:=by omega
      subst this
      exact a4
    · simp only
      rw [wAY (by omega) (by omega),wAY (by omega) (by omega),show (f.length:Int) - (l.length:Int)=((f.length - l.length:Nat):Int) by omega,show (w:Int) - 1=((w - 1:Nat):Int) by omega,wLx (by omega) (by omega)]
      rfl
  · right
    rw [e2]
    exact ⟨hb,rfl⟩
theorem wMA {f:List wAA} (G:wCE f):wAb f []=some (0,2):=by
 unfold wAb
 rw [wEs G,nA,if_pos rfl]
 rfl
theorem wND {f:List wAA} (G:wCE f) {o:List Int} (h:o.Perm (wCF f.length)) {d:Nat} (hg:Gap (pn f o) d f.length) {l:List Int} (h1:1 <= l.length) (inc:l.Pairwise (· < ·)) (ok:wQE f l) {w:Nat} (w2:2 <= w) (hw:∀ k:Nat,(k:Int) ∈ l->w <= man f k):d <= (f.length - l.length) / (w - 1):=by
 have e:=wGm (l:=l) (C:=31) (nB.2 (inc.imp fun h=>by omega)) (fun y hy=>by obtain ⟨k,a1,a2,_⟩:=ok y hy;exact ⟨k,a1,a2⟩)
 have:=ub (C:=31) (j:=w - 1) hg (wPx G h) (fun x=>decide ((x:Int) ∈ l)) (fun x _ hx=>by
  rw [wNf h]
  have:=hw x (of_decide_eq_true hx)
  omega) (by rw [e];omega)
 rw [e] at this
 refine (nN (by omega)).2 ?_
 rw [nl]
 omega
theorem wIU {f:List wAA} (G:wCE f) {a:Arr Int 31} {m:Nat} (T:Grt f a m) (h2:2 <= m):wAb f (wFe a m 31)=some (((dd f m:Nat):Int),0):=by
 obtain ⟨x,hx,ex⟩:=T.hit
 have mem:∀ y ∈ wFe a m 31,∃ k:Nat,k < 31/\y=k/\man f k=m:=fun y hy=>by
  obtain ⟨k,k1,k2,k3⟩:=wJG.1 hy
  rw [T.get k k1] at k2
  exact ⟨k,k1,k3,by omega⟩
 have hx2:(x:Int) ∈ wFe a m 31:=wJG.2 ⟨x,hx,by rw [T.get x hx,ex],rfl⟩
 have hb:(wFe a m 31).length <= 31:=by
  unfold wFe
  rw [nP]
  have:=ng (fun x=>decide (a.get x=m)) (nH 31)
  rwa [nr] at this
 rcases wHb G (l:=wFe a m 31) (List.length_pos_of_mem hx2) (by omega) wOi with ⟨_,w,w2,⟨k,k1,k2⟩,_,_,e⟩ | ⟨hn,_⟩
 ·obtain ⟨k',_,a2,a3⟩:=mem _ k1
  have:k'=k:=by omega
  subst this
  have:w=m:=by omega
  subst this
  rw [e,T.len]
  unfold dd
  rw [if_pos h2]
 ·exact absurd (fun y hy=>by obtain ⟨k,a1,a2,a3⟩:=mem y hy;exact ⟨k,a1,a2,by omega⟩) hn
end Go.Proofs.YtghaibkggdecnaaGreat
namespace Go.Proofs.YtghaibkggdecnaaGreat
open Go.KL
theorem wMB {a b:Int} (h0:0 <= a) (hb:0 < b):∃ x,rem a b=some x/\0 <= x/\x < b:=by
 refine ⟨a.tmod b,if_neg (by omega),?_,?_⟩
 ·rw [nU h0];exact Int.emod_nonneg _ (by omega)
 ·rw [nU h0];exact Int.emod_lt_of_pos _ hb
theorem wIV (x:Int):0 <= wCz x:=by unfold wCz;omega
theorem wOn (x:Int):wCz x < 4294967296:=by unfold wCz;omega
theorem w64u (x:Int):w64 (wCz x)=wCz x:=by
 have:=wIV x
 have:=wOn x
 exact wAY (by omega) (by omega)
theorem wNE (a:Int) {b:Int} (hb:b ≠ 0):∃ x,quo a b=some x:=⟨_,if_neg hb⟩
theorem wGn (d:wAB) (n:Int) (h0:0 <= d.next) (h1:d.next <= 1000000):∃ x d',wAL d n=some (x,d')/\0 <= d'.next/\d'.next <= d.next + 1/\0 <= x/\(x < n \/ (n <= 1/\x=0)):=by
 unfold wAL
 by_cases hn:n <= 1
 ·exact ⟨0,d,by rw [if_pos hn],h0,by omega,by omega,.inr ⟨hn,rfl⟩⟩
 rw [if_neg hn]
 by_cases hl:(d.bytes.length:Int)=0
 ·exact ⟨0,d,by rw [if_pos hl],h0,by omega,by omega,.inl (by omega)⟩
 rw [if_neg hl]
 obtain ⟨r,e1,r0,r1⟩:=wMB h0 (show (0:Int) < d.bytes.length by omega)
 obtain ⟨b,e2⟩:∃ b,idx d.bytes r=some b:=by
  unfold idx
  rw [if_pos r0,nW (by omega)]
  exact ⟨_,rfl⟩
 obtain ⟨q,e3⟩:=wNE d.next (b:=d.bytes.length) hl
 obtain ⟨st,e4,_,_⟩:=wMB (wIV ((wCz ((wCz ((wCz (d.state * 45)) + (wCz b))) + (wCz (77 * (wCz q))))) + 1)) (b:=65519) (by decide)
 rw [e1,nA,e2,nA,e3,nA,e4,nA,wAY (x:=d.next + 1) (by omega) (by omega)]
 have fin:∀ z:Int,∃ x d',((rem (w64 (wCz z)) n).bind fun x=>some (x,(⟨d.bytes,d.next + 1,st⟩:wAB)))=some (x,d')/\0 <= d'.next/\d'.next <= d.next + 1/\0 <= x/\(x < n \/ (n <= 1/\x=0)):=by
  intro z
  obtain ⟨x,e5,x0,x1⟩:=wMB (a:=w64 (wCz z)) (b:=n) (by rw [w64u];exact wIV z) (by omega)
  exact ⟨x,_,by rw [e5];rfl,by show 0 <= d.next + 1;omega,by show d.next + 1 <= _;omega,x0,.inl x1⟩
 by_cases c1:wCz q=0
 ·rw [if_pos c1]
  by_cases c2:n <= 256
  ·rw [if_pos c2];exact fin _
  ·rw [if_neg c2];exact fin _
 ·rw [if_neg c1];exact fin _
theorem wGo (d:wAB) (a b:Int) (h0:0 <= d.next) (h1:d.next <= 1000000) (ha:-1000000 <= a) (hab:a <= b) (hb:b <= 1000000):∃ x d',wAF d a b=some (x,d')/\0 <= d'.next/\d'.next <= d.next + 1/\a <= x/\x <= b:=by
 unfold wAF
 rw [wAY (x:=b - a) (by omega) (by omega),wAY (x:=b - a + 1) (by omega) (by omega)]
 obtain ⟨x,d',e,n0,n1,x0,x1⟩:=wGn d (b - a + 1) h0 h1
 refine ⟨a + x,d',?_,n0,n1,by omega,by omega⟩
 rw [e,nA]
 simp only
 rw [wAY (by omega) (by omega)]
end Go.Proofs.YtghaibkggdecnaaGreat
namespace Go.Proofs.YtghaibkggdecnaaGreat
open Go.KL
theorem wNF {l:List Int} {i k:Int} (i0:0 <= i) (i1:i < l.length) (k0:0 <= k) (k1:k < l.length):(nI (nI l i.toNat (gd l k.toNat)) k.toNat (gd l i.toNat)).Perm l:=by
 rw [wEY (show k.toNat < l.length by omega),wEY (show i.toNat < l.length by omega)]
 exact List.set_set_perm (by omega) (by omega)
theorem wGD (d:wAB) (n:Nat) (h0:0 <= d.next) (h1:d.next <= 100000) (hn:n <= 1000):∃ l d',wAH d (n:Int)=some (l,d')/\0 <= d'.next/\d'.next <= d.next + n/\l.Perm ((nH n).map fun (k:Nat)=>(k:Int)):=by
 unfold wAH
 have e1:max (0:Int) n=n:=by omega
 rw [e1,wCj (by omega)]
 obtain ⟨s,hs,hI⟩:=wDO (body:=fun (k19:Nat) (l15:List Int)=>(app 8 l15 [(k19:Int)]).bind fun x47=>some x47) (fun k l=>l=(nH k).map fun (k:Nat)=>(k:Int)) n 0 [] rfl (fun i s _ hi e=>by
  subst e
  refine ⟨_,by rw [app,if_pos (by simp;omega)];rfl,?_⟩
  rw [nO,nc];rfl)
 rw [hs,nA]
 rw [nG] at hI
 have hlen:s.length=n:=by rw [hI];simp
 rw [wAY (by omega) (by omega)]
 refine (wMx (I:=fun j (st:List Int × Int × Int × List Int × Int)=>st.2.2.2.1.Perm s/\0 <= st.2.1/\st.2.1 <= d.next + j/\st.2.2.2.2=(s.length:Int) - 1 - j) (Z:=fun (b:List Int × wAB)=>0 <= b.2.next/\b.2.next <= d.next + n/\b.1.Perm s) n ?_ ⟨List.Perm.refl _,by simpa using h0,by simp,by simp⟩ (by omega)).elim fun b hb=>⟨b.1,b.2,hb.1,hb.2.1,hb.2.2.1,hI ▸ hb.2.2.2⟩
 rintro j ⟨b,nx,st,l,i⟩ hj ⟨hp,n0,n1,hi⟩
 simp only at hp n0 n1 hi ⊢
 have hl:l.length=s.length:=hp.length_eq
 by_cases c:0 < i
 ·left
  refine ⟨by omega,?_⟩
  rw [if_pos c,wAY (x:=i + 1) (by omega) (by omega)]
  obtain ⟨x,d',e,m0,m1,x0,x1⟩:=wGn ⟨b,nx,st⟩ (i + 1) n0 (by simp only;omega)
  have x1':x < l.length:=by omega
  rw [e,nA]
  simp only
  rw [wDC x0 (by omega),nA,wDC (by omega) (by omega),nA,wDC x0 (by rw [List.length_set];omega),nA,wAY (by omega) (by omega)]
  exact ⟨_,rfl,(wNF (by omega) (by omega) x0 x1').trans hp,m0,by simp only at m1 ⊢;omega,by simp only;omega⟩
 ·right
  rw [if_neg c]
  exact ⟨_,rfl,n0,by simp only;omega,hp⟩
theorem wOo {p:List Int} {n:Nat} (h:p.Perm ((nH n).map fun (k:Nat)=>(k:Int))):∀ i ∈ p,0 <= i/\i < n:=by
 intro i hi
 obtain ⟨k,hk,e⟩:=nY.1 (h.mem_iff.1 hi)
 have:=nQ.1 hk
 omega
end Go.Proofs.YtghaibkggdecnaaGreat
namespace Go.Proofs.YtghaibkggdecnaaGreat
open Go.KL
def sRd (x2:Int) (x16:List Int) (k85:Nat):List Int × Int × Int × List wAA->Option (List Int × Int × Int × List wAA)
 | (l76,x79,x80,l81) =>
  (chk (↑k85:Int) x16.length).bind fun _ =>
  (wAF (⟨l76,x79,x80⟩:wAB) 1 9).bind fun (x184,x185) =>
  (wAL x185 x2).bind fun (x198,x199) =>
  (wAF x199 1 3).bind fun (x212,x213) =>
  (app 24 l81 [(⟨w64 ((w64 (10 * (↑k85:Int))) + x184),x198,w64 ((w64 (3 * (gd x16 k85))) + x212)⟩:wAA)]).bind fun x231 =>
  some (x213.bytes,x213.next,x213.state,x231)
theorem wIW (p0:wAB) (p1:Int):wAk p0 p1=(wAF p0 1 6).bind fun (x2,x3) =>
 (wAH x3 60).bind fun (x16,x17) =>
 (wAF x17 1 p1).bind fun (x33,x34) =>
 (wBd 0 x33 (sRd x2 x16) (x34.bytes,x34.next,x34.state,[])).bind fun (y90,y91,y92,y93) =>
 some (y93,(⟨y90,y91,y92⟩:wAB)):=rfl
structure MInv (p:List Int) (n:Int) (k:Nat) (s:List Int × Int × Int × List wAA):Prop where
 n0:0 <= s.2.1
 n1:s.2.1 <= n + 3 * (k:Int)
 len:s.2.2.2.length=k
 el:∀ i,i < k->(10 * (i:Int) + 1 <= (gd s.2.2.2 i).Bib/\(gd s.2.2.2 i).Bib <= 10 * (i:Int) + 9)/\(0 <= (gd s.2.2.2 i).Nation/\(gd s.2.2.2 i).Nation <= 5)/\3 * gd p i + 1 <= (gd s.2.2.2 i).Rank/\(gd s.2.2.2 i).Rank <= 3 * gd p i + 3
theorem wMC {p:List Int} (hp:p.length=60) (hr:∀ i ∈ p,0 <= i/\i < 60) {x n:Int} (x0:1 <= x) (x1:x <= 6) (n1:0 <= n) (n2:n <= 1000) {k:Nat} {s:List Int × Int × Int × List wAA} (hk:k < 30) (I:MInv p n k s):∃ s',sRd x p k s=some s'/\MInv p n (k + 1) s':=by
 obtain ⟨b,nx,st,l⟩:=s
 obtain ⟨i0,i1,hl,el⟩:=I
 simp only at i0 i1 hl el
 unfold sRd
 simp only
 have hg:=hr _ (wBY (l:=p) (k:=k) (by omega))
 obtain ⟨a,d2,e2,p0,p1,a0,a1⟩:=wGo ⟨b,nx,st⟩ 1 9 i0 (by simp only;omega) (by omega) (by omega) (by omega)
 simp only at p1
 obtain ⟨y,d3,e3,q0,q1,y0,y1⟩:=wGn d2 x p0 (by omega)
 obtain ⟨v,d4,e4,r0,r1,v0,v1⟩:=wGo d3 1 3 q0 (by omega) (by omega) (by omega) (by omega)
 rw [wDC (by omega) (by omega),nA,e2,nA]
 simp only
 rw [e3,nA]
 simp only
 rw [e4,nA]
 simp only
 rw [wAY (x:=10 * (k:Int)) (by omega) (by omega),wAY (x:=10 * (k:Int) + a) (by omega) (by omega),wAY (x:=3 * gd p k) (by omega) (by omega),wAY (x:=3 * gd p k + v) (by omega) (by omega),wIy (by simp;omega),nA]
 refine ⟨_,rfl,r0,by simp only;omega,by simp [hl],fun i hi=>?_⟩
 simp only
 by_cases e:i=k
 ·rw [e,show gd (l ++ [(⟨10 * (k:Int) + a,y,3 * gd p k + v⟩:wAA)]) k=⟨10 * (k:Int) + a,y,3 * gd p k + v⟩ by rw [<- hl,wJB]]
  simp only
  omega
 ·rw [wJA (by omega)]
  exact el i (by omega)
theorem wJJ {α:Type} {l:List α} [Inhabited α] {g:α->Int} (h:∀ i j,i < j->j < l.length->g (gd l i) ≠ g (gd l j)):(l.map g).Nodup:=by
 rw [nB,nD]
 intro i j hi hj hij e
 rw [nP] at hi hj
 rw [nL,nL,<- wEY hi,<- wEY hj] at e
 exact h i j hij hj e
theorem wOp (d:wAB) (h0:d.next=0) {u:Int} (u1:1 <= u) (u2:u <= 30):∃ f d',wAk d u=some (f,d')/\wCE f/\(f.length:Int) <= u/\∀ s ∈ f,s.Bib <= 299/\s.Rank <= 200/\s.Nation <= 5:=by
 rw [wIW]
 obtain ⟨x,d1,e1,m0,m1,x0,x1⟩:=wGo d 1 6 (by omega) (by omega) (by omega) (by omega) (by omega)
 rw [e1,nA]
 simp only
 obtain ⟨p,d2,e2,p0,p1,pp⟩:=wGD d1 60 m0 (by omega) (by omega)
 rw [show ((60:Nat):Int)=60 from rfl] at e2
 rw [e2,nA]
 simp only
 obtain ⟨n,d3,e3,q0,q1,n0,n1⟩:=wGo d2 1 u p0 (by omega) (by omega) (by omega) (by omega)
 rw [e3,nA]
 simp only
 obtain ⟨m,rfl⟩:∃ m:Nat,n=m:=⟨n.toNat,by omega⟩
 have hpl:p.length=60:=by rw [pp.length_eq];simp
 have hpr:=wOo pp
 have hpn:p.Nodup:=pp.nodup_iff.2 (nB.2 ((wGj 60).imp fun h=>by omega))
 have hpd:∀ i j,i < j->j < 60->gd p i ≠ gd p j:=fun i j hij hj e=>by
  have:=nD.1 (nB.1 hpn) i j (by omega) (by omega) hij
  rw [<- wEY (by omega),<- wEY (by omega)] at this
  exact this e
 rw [wCj (by omega)]
 obtain ⟨⟨b,nx,st,l⟩,hs,I⟩:=wDO (body:=sRd x p) (MInv p d3.next) m 0 (d3.bytes,d3.next,d3.state,[]) ⟨q0,by simp only;omega,rfl,fun i hi=>by omega⟩ (fun i s _ hi I=>wMC hpl hpr x0 x1 q0 (by omega) (by omega) I)
 rw [hs,nA]
 obtain ⟨i0,i1,hl,el⟩:=I
 simp only at i0 i1 hl el ⊢
 rw [nG] at hl el
 have hg:∀ i,i < m->0 <= gd p i/\gd p i < 60:=fun i hi=>hpr _ (wBY (by omega))
 have hf:∀ s ∈ l,(1 <= s.Bib/\s.Bib <= 299)/\(0 <= s.Nation/\s.Nation <= 5)/\1 <= s.Rank/\s.Rank <= 200:=fun s hs=>by
  obtain ⟨i,hi,e⟩:=wHY hs
  have h1:=el i (by omega)
  have h2:=hg i (by omega)
  rw [e] at h1
  omega
 refine ⟨l,_,rfl,⟨by omega,by omega,fun s hs=>by have:=hf s hs;omega,fun s hs=>by have:=hf s hs;omega,fun s hs=>by have:=hf s hs;omega,wJJ fun i j hij hj=>?_,wJJ fun i j hij hj=>?_⟩,by omega,fun s hs=>by have:=hf s hs;omega⟩
 ·have h1:=el i (by omega)
  have h2:=el j (by omega)
  omega
 ·have h1:=el i (by omega)
  have h2:=el j (by omega)
  have h3:=hpd i j hij (by omega)
  omega
theorem wIX {r:List Int} {n:Nat} (hp:r.Perm (wCF n)) (hn:n <= 1000):wAa r n=some true:=by
 unfold wAa
 have hl:r.length=n:=by rw [hp.length_eq];simp [wCF]
 have hd:r.Nodup:=hp.nodup_iff.2 (nB.2 ((wGj n).imp fun h=>by omega))
 rw [mkz,if_pos (by omega),nA,wCi (by omega)]
 rcases wEr (body:=fun (k15:Nat) (l14:List Bool) =>
  (idx r (↑k15:Int)).bind fun x38 =>
  if x38 < 0 then
   esc (some false)
  else
   if (n:Int) <= x38 then
    esc (some false)
   else
    (chk x38 l14.length).bind fun _ =>
    if (gd l14 x38.toNat)=true then
     esc (some false)
    else
     some (.inl (nI l14 x38.toNat true))) (fun k l=>l.length=n/\∀ j:Nat,j < n->(gd l j=true ↔ (j:Int) ∈ r.take k)) (fun _=>False) r.length 0 (nE (n:Int).toNat false) ⟨by simp,fun j hj=>by
    rw [wEY (by simp;omega)];simp⟩ (fun k l _ hk ⟨h1,h2⟩=>.inl (by
    have hk':k < r.length:=by omega
    have hr:=wBq _ (hp.mem_iff.1 (wBY hk'))
    have hno:gd r k ∉ r.take k:=fun c=>by
     have hd2:=hd
     rw [<- nM k r,wIR hk'] at hd2
     exact (nV.1 hd2).2.2 _ c _ (by simp) rfl
    rw [wCQ hk',nA,if_neg (by omega),if_neg (by omega),wDC (by omega) (by omega),nA]
    have e:(((gd r k).toNat:Nat):Int)=gd r k:=by omega
    rw [if_neg (fun c=>hno (by have:=(h2 _ (by omega)).1 c;rwa [e] at this))]
    refine ⟨_,rfl,by simpa using h1,fun j hj=>?_⟩
    rw [wPv (by omega) (by omega),wGb hk',List.mem_append,List.mem_singleton]
    by_cases c:j=(gd r k).toNat
    ·rw [if_pos c]
     exact ⟨fun _=>.inr (by omega),fun _=>rfl⟩
    ·rw [if_neg c,h2 j hj]
     exact ⟨.inl,fun h=>h.elim id fun h=>absurd h (by omega)⟩)) with ⟨s,e,_⟩ | ⟨_,_,h⟩
 ·rw [e,wHj]
  simp [hl]
 ·exact h.elim
end Go.Proofs.YtghaibkggdecnaaGreat
namespace Go.Proofs.YtghaibkggdecnaaGreat
open Go.KL
def cRd (k298:Nat):List Int × Int × Int × List Int->Option (List Int × Int × Int × List Int)
  | (l289,x292,x293,l294) =>
                          (wAe (⟨l289,x292,x293⟩:wAB) 2).bind fun (x329,x330) =>
                          if x329=true then
                            (app 8 l294 [(↑k298:Int)]).bind fun x350 =>
                            some (x330.bytes,x330.next,x330.state,x350)
                          else
                            some (x330.bytes,x330.next,x330.state,l294)
def aRd (x33:List wAA) (x57:Int) (_:Nat):List Int × Int × Int->Option ((List Int × Int × Int) ⊕ Bool)
  | (l180,x183,x184) =>
                    (wAH (⟨l180,x183,x184⟩:wAB) (↑x33.length:Int)).bind fun (x215,x216) =>
                    (wAn x33 x215).bind fun (x242,x243) =>
                    if x243=0 then
                      if x57 < x242 then
                        esc (some false)
                      else
                        (wBd 0 6 cRd (x216.bytes,x216.next,x216.state,[])).bind fun (y303,y304,y305,y306) =>
                        (wAb x33 y306).bind fun (x409,x410) =>
                        if x410=0 then
                          if x409 < x57 then
                            esc (some false)
                          else
                            some (.inl (y303,y304,y305))
                        else
                          if x410=6 then
                            some (.inl (y303,y304,y305))
                          else
                            if x410=2 then
                              some (.inl (y303,y304,y305))
                            else
                              esc (some false)
                    else
                      esc (some false)
theorem wHc (p0 p1:List Int):wAo p0 p1 =
 ((wBB p0).bind fun x1 =>
 (wBB p1).bind fun x17 =>
 (wAk x1 30).bind fun (x33,x34) =>
 (wBP x33).bind fun (x56,x57,x58) =>
 (wAn x33 x56).bind fun (x78,x79) =>
 (wBW x33).bind fun (x90,x91) =>
 if x58=0 then
  if x79=0 then
   (wAa x56 (↑x33.length:Int)).bind fun x121 =>
   if x121=true then
    if x78=x57 then
     if x57 < 1 then
      some false
     else
      if x91=0 then
       (wAb x33 x90).bind fun (x148,x149) =>
       if x149=0 then
        if x148=x57 then
         jn (wGH 0 5 (aRd x33 x57) (x17.bytes,x17.next,x17.state)) fun (_,_,_) =>
         (wAv).bind fun x481 =>
         some x481
        else
         some false
       else
        some false
      else
       if x91=6 then
        if x57=(↑x33.length:Int) then
         jn (wGH 0 5 (aRd x33 x57) (x17.bytes,x17.next,x17.state)) fun (_,_,_) =>
         (wAv).bind fun x815 =>
         some x815
        else
         some false
       else
        some false
    else
     some false
   else
    some false
  else
   some false
 else
  some false:Option Bool):=rfl
structure CI (n0:Int) (k:Nat) (s:List Int × Int × Int × List Int):Prop where
 lo:0 <= s.2.1
 hi:s.2.1 <= n0 + (k:Int)
 inc:s.2.2.2.Pairwise (· < ·)
 el:∀ y ∈ s.2.2.2,0 <= y/\y < (k:Int)
 len:s.2.2.2.length <= k
theorem wMD {n0:Int} (h:n0 <= 10000) {k:Nat} {s:List Int × Int × Int × List Int} (hk:k < 6) (I:CI n0 k s):∃ s',cRd k s=some s'/\CI n0 (k + 1) s':=by
 obtain ⟨b,nx,st,l⟩:=s
 obtain ⟨i0,i1,ii,ie,il⟩:=I
 simp only at i0 i1 ii ie il
 obtain ⟨x,d2,e2,q0,q1,x0,x1⟩:=wGn ⟨b,nx,st⟩ 2 i0 (by simp only;omega)
 simp only at q1
 unfold cRd wAe
 simp only
 rw [e2,nA]
 simp only
 rw [nA]
 simp only
 by_cases c:decide (x=0)=true
 ·rw [if_pos c,wIy (by simp;omega),nA]
  refine ⟨_,rfl,q0,by simp only;omega,?_,fun y hy=>?_,by simp;omega⟩
  ·simp only
   rw [List.pairwise_append]
   refine ⟨ii,by simp,fun a ha b hb=>?_⟩
   have:=ie a ha
   simp at hb
   omega
  ·simp only at hy
   rcases List.mem_append.1 hy with hy | hy
   ·have:=ie y hy
    omega
   ·simp at hy
    omega
 ·rw [if_neg c]
  exact ⟨_,rfl,q0,by simp only;omega,ii,fun y hy=>by have:=ie y hy;omega,by simp only;omega⟩
theorem wME {n0:Int} (h:n0 <= 10000) {b:List Int} {st:Int} (n1:0 <= n0):∃ b' nx st' l,wBd 0 6 cRd (b,n0,st,[])=some (b',nx,st',l)/\0 <= nx/\nx <= n0 + 6/\l.Pairwise (· < ·)/\l.length <= 6:=by
 obtain ⟨⟨b',nx,st',l⟩,e,I⟩:=wDP (n:=6) (CI n0) (by omega) (s0:=(b,n0,st,[])) (body:=cRd) ⟨n1,by simp,by simp,by simp,by simp⟩ fun k s hk I=>wMD h hk I
 exact ⟨b',nx,st',l,e,I.lo,I.hi,I.inc,I.len⟩
theorem wHd {f:List wAA} (G:wCE f) {m:Nat} (hit:∃ x,x < 31/\man f x=m) {o:List Int} (h:o.Perm (wCF f.length)) (hg:Gap (pn f o) (dd f m) f.length) {b:List Int} {st:Int} :
  ∃ s,wGH 0 5 (aRd f ((dd f m:Nat):Int)) (b,0,st)=some (.inl s):=by
 have hf:=G.l2
 rw [show (5:Int)=((5:Nat):Int) from rfl,wCi (by omega)]
 rcases wEr (body:=aRd f ((dd f m:Nat):Int)) (fun k s=>0 <= s.2.1/\s.2.1 <= 100 * (k:Int)) (fun _=>False) 5 0 (b,0,st) (by simp) (by
  rintro k ⟨b,nx,st⟩ _ hk ⟨i0,i1⟩
  simp only at i0 i1
  left
  obtain ⟨q,d2,e2,q0,q1,qp⟩:=wGD ⟨b,nx,st⟩ f.length i0 (by simp only;omega) (by omega)
  simp only at q1
  unfold aRd
  simp only
  rw [e2,nA]
  simp only
  obtain ⟨A,eA,IA⟩:=wJH G (o:=q) qp
  have hA:=wJI G hit qp IA
  obtain ⟨b',nx',st',l,el,l0,l1,l2,l3⟩:=wME (n0:=d2.next) (by omega) (b:=d2.bytes) (st:=d2.state) q0
  rw [eA,nA]
  simp only
  rw [if_pos trivial,if_neg (by omega),el,nA]
  simp only
  rcases Nat.eq_zero_or_pos l.length with c | c
  ·rw [nJ.1 c,wMA G,nA]
   exact ⟨_,rfl,l0,by simp only;omega⟩
  ·rcases wHb G c (by omega) l2 with ⟨ok,w,w2,_,w4,_,e⟩ | ⟨_,e⟩
   ·have:=wND G h hg c l2 ok w2 w4
    rw [e,nA]
    simp only
    rw [if_pos trivial,if_neg (by omega)]
    exact ⟨_,rfl,l0,by simp only;omega⟩
   ·rw [e,nA]
    exact ⟨_,rfl,l0,by simp only;omega⟩) with ⟨s,e,_⟩ | ⟨_,_,hb⟩
 ·exact ⟨s,e⟩
 ·exact hb.elim
theorem wMF (p0 p1:List Int):wAo p0 p1=some true:=by
 rw [wHc]
 unfold wBB
 rw [nA,nA]
 obtain ⟨f,d,e,G,hf,_⟩:=wOp ⟨p0,0,17⟩ rfl (u:=30) (by omega) (by omega)
 rw [e,nA]
 simp only
 have hl:=G.l2
 obtain ⟨a,m,T⟩:=wQB G
 have D:=wQD G T.hit T.top T.m1
 have hd1:=D.d1
 obtain ⟨o,e1,hp,hg⟩:=wLy G T
 obtain ⟨A,e2,IA⟩:=wJH G hp
 have hA:=wJo G T.hit hp IA hg D.dn
 subst hA
 rw [e1,nA]
 simp only
 rw [e2,nA]
 simp only
 rw [wNC G T,nA]
 obtain ⟨s,e4⟩:=wHd G T.hit hp hg (b:=p1) (st:=17)
 rw [wIX hp (by omega),nA,if_pos rfl,if_pos trivial,if_pos trivial,if_pos trivial,if_neg (by omega)]
 by_cases c:m < 2
 ·rw [if_pos c]
  simp only
  have ed:dd f m=f.length:=if_neg (by omega)
  rw [if_neg (by decide),if_pos trivial,if_pos (by omega),e4]
  rfl
 ·rw [if_neg c]
  simp only
  rw [if_pos trivial,wIU G T (by omega),nA]
  simp only
  rw [if_pos trivial,if_pos trivial,e4]
  rfl
end Go.Proofs.YtghaibkggdecnaaGreat
