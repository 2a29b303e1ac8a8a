import Derived.Test.YtghaibkggdecnaaGreatR0
import Derived.Test.YtghaibkggdecnaaGreatR3
import Derived.Test.YtghaibkggdecnaaGreatProg
import Derived.Lib.Overlaps
import Derived.Lib.AppendZerosOnto
import Derived.Test.YtghaibkggdecnaaGreatR2
set_option linter.all false
open Option renaming bind_some->nA,getD_some->nY
open List renaming length_map->nB,nodup_iff_pairwise_ne->nD,pairwise_iff_getElem->nG,length_eq_zero_iff->nH,getElem_map->nI,all_eq_true->nK,length_append->nM,replicate->nN,range->nP,range_succ->nQ,map_append->nR,append_nil->nS,mem_range->nT,countP_append->nU,getD_eq_getElem?_getD->nV,mem_map->nX,pairwise_lt_range->nc,take_append_drop->nf,length_filter_le->ng,mergeSort_perm->nh,all_map->ni,filter_append->nj,nodup_append->np,pairwise_map->nq,append_assoc->nr,length_range->nt
open Nat renaming le_refl->nE,zero_add->nL,le_div_iff_mul_le->nO,div_le_self->na,mul_comm->nk,eq_zero_or_pos->nl
open Int renaming eq_ofNat_of_zero_le->nJ
open Bool renaming and_eq_true->nW,eq_iff_iff->nZ
namespace Go.Proofs.YtghaibkggdecnaaGreat
open Go.KL
noncomputable section
structure wAA where
 Bib:Int
 Nation:Int
 Rank:Int
deriving DecidableEq,Inhabited,Repr
structure wAD where
 Bib:Int
 Nation:Int
 Rank:Int
deriving DecidableEq,Inhabited,Repr
structure wAJ where
 of:(wAA->Option Int)
 lo:Int
 hi:Int
structure wAW where
 Bib:Int
 Time:Int
 Gate:Int
deriving DecidableEq,Inhabited,Repr
structure wAF where
 Bib:Int
 Time:Int
 Gate:Int
deriving DecidableEq,Inhabited,Repr
def wBB:Option Bool:=some true
def wAa (p0:List wAA):Option ((List wAA)) :=
 (app 24 ([]:List wAA) p0).bind fun x4 =>
 some x4
def wAt (p0:List Int):Option ((List Int)) :=
 (app 8 ([]:List Int) p0).bind fun x4 =>
 some x4
def wBM (p0:List wAA):Option ((List wAD)) :=
 (wBg 0 (↑p0.length:Int) (fun k18 l14 =>
  (idx p0 (↑k18:Int)).bind fun x41 =>
  (app 24 l14 [(⟨x41.Bib,x41.Nation,x41.Rank⟩:wAD)]).bind fun x61 =>
  some x61) []).bind fun y23 =>
 some y23
def wBo (p0:Int) (p1:Int) (p2:Int):Option (Bool) :=
 if p1 <= p0 then
  some (decide (p0 <= p2))
 else
  some false
def wAL (p0:wAA):Option (Int) :=
 some p0.Bib
def wAM (p0:wAA):Option (Int) :=
 some p0.Rank
def wAY (p0:wAA):Option (Int) :=
 some p0.Nation
def wCN :Option (Unit) :=
 some ()
def wAb (p0:wAJ) (p1:List wAA):Option ((List Int)) :=
 (wBg 0 (↑p1.length:Int) (fun k22 l18 =>
  (idx p1 (↑k22:Int)).bind fun x46 =>
  (p0.of x46).bind fun x61 =>
  (app 8 l18 [x61]).bind fun x77 =>
  some x77) []).bind fun y27 =>
 some y27
def wAZ (p0:Int) (p1:wAJ):Option (Bool) :=
 (wBo p0 p1.lo p1.hi).bind fun x1 =>
 some x1
def wAu (p0:List Int) (p1:(Int->Option Bool)):Option (Bool) :=
 jn (wEJ 0 (↑p0.length:Int) (fun k2 _ =>
  (idx p0 (↑k2:Int)).bind fun x22 =>
  (p1 x22).bind fun x30 =>
  if x30=true then
   some (.inl ())
  else
   esc (some false)) ()) fun _ =>
 some true
def wBj (p0:List Int):Option (Bool) :=
 jn (wEJ 0 (↑p0.length:Int) (fun k20 l17 =>
  (idx p0 (↑k20:Int)).bind fun x41 =>
  if (wCK l17 x41 false)=true then
   esc (some true)
  else
   some (.inl (mput l17 x41 true))) ([]:List (Int × Bool))) fun y68 =>
 some false
def wBF (p0:List wAA):Option (Int) :=
 (wBo (↑p0.length:Int) 1 60).bind fun x1 =>
 if x1=true then
  (wCN).bind fun _ =>
  (wAb (⟨wAL,1,999⟩:wAJ) p0).bind fun x39 =>
  (wAu x39 (fun x=>wAZ x (⟨wAL,1,999⟩:wAJ))).bind fun x65 =>
  if x65=true then
   (wAb (⟨wAM,1,9999⟩:wAJ) p0).bind fun x89 =>
   (wAu x89 (fun x=>wAZ x (⟨wAM,1,9999⟩:wAJ))).bind fun x115 =>
   if x115=true then
    (wAb (⟨wAY,0,30⟩:wAJ) p0).bind fun x139 =>
    (wAu x139 (fun x=>wAZ x (⟨wAY,0,30⟩:wAJ))).bind fun x165 =>
    if x165=true then
     (wAb (⟨wAL,1,999⟩:wAJ) p0).bind fun x195 =>
     (wBj x195).bind fun x213 =>
     if x213=true then
      some 5
     else
      (wAb (⟨wAM,1,9999⟩:wAJ) p0).bind fun x237 =>
      (wBj x237).bind fun x255 =>
      if x255=true then
       some 5
      else
       some 0
    else
     some 3
   else
    some 3
  else
   some 3
 else
  some 2
def wBD (p0:Int) (p1:List wAA):Option (Bool) :=
 (wBo p0 0 (w64 ((↑p1.length:Int) - 1))).bind fun x1 =>
 some x1
def wBV (p0:List wAA) (p1:List Int):Option (Int) :=
 (wBF p0).bind fun x11 =>
 if x11=0 then
  if (↑p1.length:Int)=(↑p0.length:Int) then
   (wAu p1 (fun x=>wBD x p0)).bind fun x30 =>
   if x30=true then
    (wBj p1).bind fun x43 =>
    if x43=true then
     some 5
    else
     some 0
   else
    some 1
  else
   some 2
 else
  some x11
def wBa (p0:List wAA) (p1:List Int):Option (Int × Int) :=
 (wBV p0 p1).bind fun x1 =>
 if x1=0 then
  (wBg 0 (↑p1.length:Int) (fun k36 (l32,x35) =>
   (idx p1 (↑k36:Int)).bind fun x61 =>
   (idx p0 x61).bind fun x70 =>
   if (wFu l32 x70.Nation)=true then
    some ((mput l32 x70.Nation (↑k36:Int)),min x35 (w64 ((↑k36:Int) - (wCK l32 x70.Nation 0))))
   else
    some ((mput l32 x70.Nation (↑k36:Int)),x35)) (([]:List (Int × Int)),(↑p0.length:Int))).bind fun (y41,y42) =>
  some (y42,0)
 else
  some (0,x1)
def wAi (p0:Int) (p1:Int) (p2:Int):Option (Bool) :=
 if p0 < p1 then
  some true
 else
  some (decide (p2 < p0))
def wAo (p0:List wAD):Option (Int) :=
 if (↑p0.length:Int)=0 then
  some 2
 else
  if 60 < (↑p0.length:Int) then
   some 2
  else
   jn (wEJ 0 (↑p0.length:Int) (fun k8 _ =>
    (idx p0 (↑k8:Int)).bind fun x26 =>
    (wAi x26.Bib 1 999).bind fun x34 =>
    if x34=true then
     esc (some 3)
    else
     (wAi x26.Nation 0 30).bind fun x55 =>
     if x55=true then
      esc (some 3)
     else
      (wAi x26.Rank 1 9999).bind fun x76 =>
      if x76=true then
       esc (some 3)
      else
       some (.inl ())) ()) fun _ =>
   jn (wEJ 0 (↑p0.length:Int) (fun k103 _ =>
    jn (wEJ 0 (↑k103:Int) (fun k122 _ =>
     (idx p0 (↑k103:Int)).bind fun x143 =>
     (idx p0 (↑k122:Int)).bind fun x153 =>
     if x143.Bib=x153.Bib then
      esc (esc (some 5))
     else
      if x143.Rank=x153.Rank then
       esc (esc (some 5))
      else
       some (.inl ())) ()) fun _ =>
    some (.inl ())) ()) fun _ =>
   some 0
def wAl (p0:List Int):Option (Bool) :=
 jn (wEJ 0 (↑p0.length:Int) (fun k2 _ =>
  jn (wEJ 0 (↑k2:Int) (fun k21 _ =>
   (idx p0 (↑k2:Int)).bind fun x42 =>
   (idx p0 (↑k21:Int)).bind fun x51 =>
   if x42=x51 then
    esc (esc (some true))
   else
    some (.inl ())) ()) fun _ =>
  some (.inl ())) ()) fun _ =>
 some false
def wAp (p0:List wAD) (p1:List Int):Option (Int) :=
 (wAo p0).bind fun x1 =>
 if x1=0 then
  if (↑p1.length:Int)=(↑p0.length:Int) then
   jn (wEJ 0 (↑p1.length:Int) (fun k16 _ =>
    (idx p1 (↑k16:Int)).bind fun x35 =>
    (wAi x35 0 (w64 ((↑p0.length:Int) - 1))).bind fun x44 =>
    if x44=true then
     esc (some 1)
    else
     some (.inl ())) ()) fun _ =>
   (wAl p1).bind fun x73 =>
   if x73=true then
    some 5
   else
    some 0
  else
   some 2
 else
  some x1
def wAQ (p0:List wAD) (p1:List Int):Option (Int × Int) :=
 (wAp p0 p1).bind fun x1 =>
 if x1=0 then
  (wBg 0 (↑p1.length:Int) (fun k19 x18 =>
   (wBg 0 (↑k19:Int) (fun k46 x45 =>
    (idx p1 (↑k19:Int)).bind fun x70 =>
    (idx p0 x70).bind fun x80 =>
    (idx p1 (↑k46:Int)).bind fun x90 =>
    (idx p0 x90).bind fun x97 =>
    if x80.Nation=x97.Nation then
     if (w64 ((↑k19:Int) - (↑k46:Int))) < x45 then
      some (w64 ((↑k19:Int) - (↑k46:Int)))
     else
      some x45
    else
     some x45) x18).bind fun y51 =>
   some y51) (↑p0.length:Int)).bind fun y24 =>
  some (y24,0)
 else
  some (0,x1)
def wAx (p0:List wAA):Option ((Arr Int 31)) :=
 (wBg 0 (↑p0.length:Int) (fun k17 a16 =>
  (idx p0 (↑k17:Int)).bind fun x39 =>
  (chk x39.Nation 31).bind fun _ =>
  some (a16.set x39.Nation.toNat (w64 ((a16.get x39.Nation.toNat) + 1)))) (Arr.fill 31 0)).bind fun y22 =>
 some y22
def wAj (p0:List wAA) (p1:List Int):Option (Int × Int) :=
 (wBF p0).bind fun x1 =>
 if x1=0 then
  if (↑p1.length:Int)=0 then
   some (0,2)
  else
   jn (wEJ 1 (↑p1.length:Int) (fun k17 _ =>
    (idx p1 (1 + ↑k17:Int)).bind fun x38 =>
    (idx p1 (w64 ((1 + ↑k17:Int) - 1))).bind fun x47 =>
    if x38 <= x47 then
     esc (some (0,4))
    else
     some (.inl ())) ()) fun _ =>
   (wAx p0).bind fun x73 =>
   jn (wEJ 0 (↑p1.length:Int) (fun k97 x96 =>
    (idx p1 (↑k97:Int)).bind fun x120 =>
    (wBo x120 0 30).bind fun x131 =>
    if x131=true then
     (chk x120 31).bind fun _ =>
     if (x73.get x120.toNat) < 2 then
      esc (some (0,6))
     else
      some (.inl (min x96 (x73.get x120.toNat)))
    else
     esc (some (0,6))) 60) fun y162 =>
   (quo (w64 ((↑p0.length:Int) - (↑p1.length:Int))) (w64 (y162 - 1))).bind fun x174 =>
   some (x174,0)
 else
  some (0,x1)
def wAc (p0:List wAD) (p1:Int):Option (Int) :=
 (wBg 0 (↑p0.length:Int) (fun k7 x6 =>
  (idx p0 (↑k7:Int)).bind fun x28 =>
  if x28.Nation=p1 then
   some (w64 (x6 + 1))
  else
   some x6) 0).bind fun y12 =>
 some y12
def wAX (p0:List wAD) (p1:List Int):Option (Int × Int) :=
 (wAo p0).bind fun x1 =>
 if x1=0 then
  if (↑p1.length:Int)=0 then
   some (0,2)
  else
   jn (wEJ 1 (↑p1.length:Int) (fun k17 _ =>
    (idx p1 (w64 ((1 + ↑k17:Int) - 1))).bind fun x38 =>
    (idx p1 (1 + ↑k17:Int)).bind fun x47 =>
    if x47 <= x38 then
     esc (some (0,4))
    else
     some (.inl ())) ()) fun _ =>
   jn (wEJ 0 (↑p1.length:Int) (fun k77 x76 =>
    (idx p1 (↑k77:Int)).bind fun x97 =>
    (wAc p0 x97).bind fun x110 =>
    if x110 < 2 then
     esc (some (0,6))
    else
     if x110 < x76 then
      some (.inl x110)
     else
      some (.inl x76)) 60) fun y135 =>
   (quo (w64 ((↑p0.length:Int) - (↑p1.length:Int))) (w64 (y135 - 1))).bind fun x144 =>
   some (x144,0)
 else
  some (0,x1)
def wBm (p0:List wAA) (p1:List Int) (p2:Int):Option ((List wAW) × Int) :=
 (wBV p0 p1).bind fun x1 =>
 if x1=0 then
  (wBo p2 1 360000).bind fun x13 =>
  if x13=true then
   if 360000 < (w64 (p2 * (w64 ((↑p0.length:Int) - 1)))) then
    some ([],3)
   else
    (wBg 0 (↑p1.length:Int) (fun k47 l43 =>
     (idx p1 (↑k47:Int)).bind fun x72 =>
     (idx p0 x72).bind fun x82 =>
     (app 24 l43 [(⟨x82.Bib,w64 ((↑k47:Int) * p2),0⟩:wAW)]).bind fun x97 =>
     some x97) []).bind fun y52 =>
    some (y52,0)
  else
   some ([],3)
 else
  some ([],x1)
def wAy (p0:List wAD) (p1:List Int) (p2:Int):Option ((List wAF) × Int) :=
 (wAp p0 p1).bind fun x1 =>
 if x1=0 then
  (wAi p2 1 360000).bind fun x13 =>
  if x13=true then
   some ([],3)
  else
   if 360000 < (w64 (p2 * (w64 ((↑p0.length:Int) - 1)))) then
    some ([],3)
   else
    (wBg 0 (↑p1.length:Int) (fun k50 l46 =>
     (idx p1 (↑k50:Int)).bind fun x74 =>
     (idx p0 x74).bind fun x84 =>
     (app 24 l46 [(⟨x84.Bib,w64 ((↑k50:Int) * p2),0⟩:wAF)]).bind fun x99 =>
     some x99) []).bind fun y55 =>
    some (y55,0)
 else
  some ([],x1)
def wBW (p0:List wAW):Option ((List wAF)) :=
 (wBg 0 (↑p0.length:Int) (fun k18 l14 =>
  (idx p0 (↑k18:Int)).bind fun x41 =>
  (app 24 l14 [(⟨x41.Bib,x41.Time,x41.Gate⟩:wAF)]).bind fun x61 =>
  some x61) []).bind fun y23 =>
 some y23
def wAO (p0:List wAF) (p1:List wAF):Option (Bool) :=
 if (↑p0.length:Int)=(↑p1.length:Int) then
  jn (wEJ 0 (↑p0.length:Int) (fun k4 _ =>
   (idx p0 (↑k4:Int)).bind fun x26 =>
   (idx p1 (↑k4:Int)).bind fun x34 =>
   if x26=x34 then
    some (.inl ())
   else
    esc (some false)) ()) fun _ =>
  some true
 else
  some false
def wBN (p0:List wAW) (p1:List wAF):Option (Bool) :=
 (wBW p0).bind fun x1 =>
 (wAO x1 p1).bind fun x21 =>
 some x21
def wBO (p0:List Int):Option (Int) :=
 if (↑p0.length:Int) < 1 then
  none
 else
  (idx p0 0).bind fun x4 =>
  (wBg 1 (↑p0.length:Int) (fun k17 x16 =>
   (idx p0 (1 + ↑k17:Int)).bind fun x37 =>
   some (max x16 x37)) x4).bind fun y22 =>
  some y22
def wAT (p0:Arr Int 31):Option ((List Int) × Int) :=
 (wBO p0.l).bind fun x12 =>
 (wBg 0 31 (fun k43 l39 =>
  (idx (p0.l:List Int) (↑k43:Int)).bind fun x66 =>
  if x66=x12 then
   (app 8 l39 [(↑k43:Int)]).bind fun x76 =>
   some x76
  else
   some l39) []).bind fun y48 =>
 some (y48,x12)
def wBt (p0:Int):Option (Bool) :=
 some (decide (¬ (p0=p0)))
def wBe (p0:Int) (p1:Int):Option (Int) :=
 (wBt p0).bind fun x1 =>
 (wBt p1).bind fun x11 =>
 if x1=true then
  if x11=true then
   some 0
  else
   some (-1)
 else
  if x11=true then
   some 1
  else
   if p0 < p1 then
    some (-1)
   else
    if p1 < p0 then
     some 1
    else
     some 0
def wAe (p0:Int) (p1:Int) (p2:List wAA):Option (Int) :=
 (idx p2 p0).bind fun x3 =>
 (idx p2 p1).bind fun x10 =>
 (wBe x3.Rank x10.Rank).bind fun x17 =>
 some x17
noncomputable def wBd (p0:List Int) (p1:((Int × Int)->Option Int)):Option (List Int):=wLb p1 p0
def wBS (p0:List wAA):Option ((List Int)) :=
 (mkz 8 (↑p0.length:Int) (0:Int)).bind fun x10 =>
 (wBg 0 (↑p0.length:Int) (fun k24 l23 =>
  (chk (↑k24:Int) l23.length).bind fun _ =>
  some (List.set l23 k24 (↑k24:Int))) x10).bind fun y29 =>
 (wBd y29 (fun x=>wAe x.1 x.2 p0)).bind fun x70 =>
 some x70
def wAf (p0:Int) (p1:List wAA) (p2:Int):Option (Bool) :=
 (idx p1 p0).bind fun x3 =>
 some (decide (x3.Nation=p2))
def wAR (p0:List Int) (p1:(Int->Option Bool)):Option (Int) :=
 jn (wEJ 0 (↑p0.length:Int) (fun k2 _ =>
  (idx p0 (↑k2:Int)).bind fun x22 =>
  (p1 x22).bind fun x30 =>
  if x30=true then
   esc (some (↑k2:Int))
  else
   some (.inl ())) ()) fun _ =>
 some (-1)
def wAz (p0:List Int) (p1:Int) (p2:Int):Option (List Int):=delO p0 p1 p2
def wBp (p0:List wAA):Option ((List Int) × Int × Int) :=
 (wBF p0).bind fun x11 =>
 if x11=0 then
  (wAx p0).bind fun x25 =>
  (wAT x25).bind fun (x43,x44) =>
  if 1 < x44 then
   (quo (w64 ((↑p0.length:Int) - (↑x43.length:Int))) (w64 (x44 - 1))).bind fun x61 =>
   (wBS p0).bind fun x66 =>
   (wBg 0 (↑p0.length:Int) (fun k130 (l119,a122,l123,l126) =>
    (wBg 0 31 (fun k174 x173 =>
     ((idx (a122.l:List Int) (↑k174:Int)).bind fun x207 =>
     if 0 < x207 then
      if (wFu l119 (↑k174:Int))=true then
       if x61 <= (w64 ((↑k130:Int) - (wCK l119 (↑k174:Int) 0))) then
        if x173 < 0 then
         some (↑k174:Int)
        else
         (chk x173 31).bind fun _ =>
         if (a122.get x173.toNat) < x207 then
          some (↑k174:Int)
         else
          some x173
       else
        some x173
      else
       if x173 < 0 then
        some (↑k174:Int)
       else
        (chk x173 31).bind fun _ =>
        if (a122.get x173.toNat) < x207 then
         some (↑k174:Int)
        else
         some x173
     else
      some x173).bind fun x203 =>
     some x203) (-1)).bind fun y179 =>
    (wAR l123 (fun x=>wAf x p0 y179)).bind fun x317 =>
    (chk x317 l123.length).bind fun _ =>
    (app 8 l126 [(gd l123 x317.toNat)]).bind fun x341 =>
    (wAz l123 x317 (w64 (x317 + 1))).bind fun x349 =>
    (chk y179 31).bind fun _ =>
    some ((mput l119 y179 (↑k130:Int)),(a122.set y179.toNat (w64 ((a122.get y179.toNat) - 1))),x349,x341)) (([]:List (Int × Int)),x25,x66,[])).bind fun (y135,y136,y137,y138) =>
   some (y138,x61,0)
  else
   (wBS p0).bind fun x423 =>
   (wBg 0 (↑p0.length:Int) (fun k487 (l476,a479,l480,l483) =>
    (wBg 0 31 (fun k531 x530 =>
     ((idx (a479.l:List Int) (↑k531:Int)).bind fun x564 =>
     if 0 < x564 then
      if (wFu l476 (↑k531:Int))=true then
       if (↑p0.length:Int) <= (w64 ((↑k487:Int) - (wCK l476 (↑k531:Int) 0))) then
        if x530 < 0 then
         some (↑k531:Int)
        else
         (chk x530 31).bind fun _ =>
         if (a479.get x530.toNat) < x564 then
          some (↑k531:Int)
         else
          some x530
       else
        some x530
      else
       if x530 < 0 then
        some (↑k531:Int)
       else
        (chk x530 31).bind fun _ =>
        if (a479.get x530.toNat) < x564 then
         some (↑k531:Int)
        else
         some x530
     else
      some x530).bind fun x560 =>
     some x560) (-1)).bind fun y536 =>
    (wAR l480 (fun x=>wAf x p0 y536)).bind fun x674 =>
    (chk x674 l480.length).bind fun _ =>
    (app 8 l483 [(gd l480 x674.toNat)]).bind fun x698 =>
    (wAz l480 x674 (w64 (x674 + 1))).bind fun x706 =>
    (chk y536 31).bind fun _ =>
    some ((mput l476 y536 (↑k487:Int)),(a479.set y536.toNat (w64 ((a479.get y536.toNat) - 1))),x706,x698)) (([]:List (Int × Int)),x25,x423,[])).bind fun (y492,y493,y494,y495) =>
   some (y495,(↑p0.length:Int),0)
 else
  some ([],0,x11)
def wBC (rec_:(List wAD)->(List Int)->Option (Int)) (p0:List wAD) (p1:List Int):Option (Int) :=
 if (↑p1.length:Int)=(↑p0.length:Int) then
  (wAQ p0 p1).bind fun (x3,x4) =>
  some x3
 else
  (wBg 0 (↑p0.length:Int) (fun k21 x20 =>
   (app 8 ([]:List Int) p1).bind fun x47 =>
   (app 8 x47 [(↑k21:Int)]).bind fun x61 =>
   (wAl x61).bind fun x74 =>
   if x74=true then
    some x20
   else
    (rec_ p0 x61).bind fun x92 =>
    some (max x20 x92)) 0).bind fun y26 =>
  some y26
def wAq:Nat->(List wAD)->(List Int)->Option (Int)
 | 0=>fun _ _=>none
 | n_ + 1=>wBC (wAq n_)
def wAw (p0:List wAD):Option (Int × Int) :=
 (wAo p0).bind fun x1 =>
 if x1=0 then
  if (↑p0.length:Int) <= 6 then
   (wAq 1000 p0 []).bind fun x16 =>
   some (x16,0)
  else
   (wBg 2 ((↑p0.length:Int) + 1) (fun k33 x32 =>
    (wBg 0 (30 + 1) (fun k59 x58 =>
     (wAc p0 (↑k59:Int)).bind fun x84 =>
     if (2 + ↑k33:Int) <= x84 then
      some (w64 (x58 + 1))
     else
      some x58) 0).bind fun y64 =>
    if 0 < y64 then
     (quo (w64 ((↑p0.length:Int) - y64)) (w64 ((2 + ↑k33:Int) - 1))).bind fun x114 =>
     if x114 < x32 then
      (quo (w64 ((↑p0.length:Int) - y64)) (w64 ((2 + ↑k33:Int) - 1))).bind fun x119 =>
      some x119
     else
      some x32
    else
     some x32) (↑p0.length:Int)).bind fun y38 =>
   some (y38,0)
 else
  some (0,x1)
def wBk (p0:List wAA):Option ((List Int) × Int) :=
 (wBF p0).bind fun x1 =>
 if x1=0 then
  (wAx p0).bind fun x14 =>
  (wAT x14).bind fun (x24,x25) =>
  if x25 < 2 then
   some ([],6)
  else
   some (x24,0)
 else
  some ([],x1)
def wAP (p0:List wAA) (p1:List wAA):Option (Bool) :=
 if (↑p0.length:Int)=(↑p1.length:Int) then
  jn (wEJ 0 (↑p0.length:Int) (fun k4 _ =>
   (idx p0 (↑k4:Int)).bind fun x26 =>
   (idx p1 (↑k4:Int)).bind fun x34 =>
   if x26=x34 then
    some (.inl ())
   else
    esc (some false)) ()) fun _ =>
  some true
 else
  some false
def wAV (p0:List Int) (p1:List Int):Option (Bool) :=
 if (↑p0.length:Int)=(↑p1.length:Int) then
  jn (wEJ 0 (↑p0.length:Int) (fun k4 _ =>
   (idx p0 (↑k4:Int)).bind fun x26 =>
   (idx p1 (↑k4:Int)).bind fun x34 =>
   if x26=x34 then
    some (.inl ())
   else
    esc (some false)) ()) fun _ =>
  some true
 else
  some false
def wBA (p0:List wAA) (p1:List Int) (p2:List Int) (p3:Int):Option (Bool) :=
 if 64 < (↑p0.length:Int) then
  (wBB).bind fun x3 =>
  some x3
 else
  if 64 < (↑p1.length:Int) then
   (wBB).bind fun x16 =>
   some x16
  else
   if 40 < (↑p2.length:Int) then
    (wBB).bind fun x29 =>
    some x29
   else
    (wAa p0).bind fun x40 =>
    (wAt p1).bind fun x54 =>
    (wAt p2).bind fun x69 =>
    (wBM p0).bind fun x85 =>
    (wBa x40 x54).bind fun (x109,x110) =>
    (wAQ x85 p1).bind fun (x132,x133) =>
    if x110=x133 then
     if x109=x132 then
      (wAj x40 x69).bind fun (x170,x171) =>
      (wAX x85 p2).bind fun (x193,x194) =>
      if x171=x194 then
       if x170=x193 then
        (wBm x40 x54 p3).bind fun (x216,x217) =>
        (wAy x85 p1 p3).bind fun (x250,x251) =>
        if x217=x251 then
         (wBN x216 x250).bind fun x277 =>
         if x277=true then
          (wBp x40).bind fun (x294,x295,x296) =>
          (wAw x85).bind fun (x314,x315) =>
          (wBk x40).bind fun (x327,x328) =>
          (if x296=x315 then
           if x295=x314 then
            if x296=0 then
             some false
            else
             if 0 < (↑x294.length:Int) then
              some true
             else
              if 0 < (↑x327.length:Int) then
               some true
              else
               some (decide (¬ (x328=x315)))
           else
            some true
          else
           some true).bind fun b341 =>
          if b341=true then
           some false
          else
           if x296=0 then
            (wAQ x85 x294).bind fun (x414,x415) =>
            (wAX x85 x327).bind fun (x432,x433) =>
            (if x415=0 then
             if x414=x314 then
              if ((decide (x328=0)) == (decide (x314 < (↑p0.length:Int))))=true then
               if x328=0 then
                if x433=0 then
                 if x432=x314 then
                  some false
                 else
                  some true
                else
                 some true
               else
                if x328=6 then
                 some (decide (0 < (↑x327.length:Int)))
                else
                 some true
              else
               some true
             else
              some true
            else
             some true).bind fun b443 =>
            if b443=true then
             some false
            else
             (wAP x40 p0).bind fun x536 =>
             if x536=true then
              (wAV x54 p1).bind fun x577 =>
              if x577=true then
               (wAV x69 p2).bind fun x624 =>
               if x624=true then
                (wBB).bind fun x636 =>
                some x636
               else
                some false
              else
               some false
             else
              some false
           else
            (wAP x40 p0).bind fun x670 =>
            if x670=true then
             (wAV x54 p1).bind fun x701 =>
             if x701=true then
              (wAV x69 p2).bind fun x738 =>
              if x738=true then
               (wBB).bind fun x750 =>
               some x750
              else
               some false
             else
              some false
            else
             some false
         else
          some false
        else
         some false
       else
        some false
      else
       some false
     else
      some false
    else
     some false
end
end Go.Proofs.YtghaibkggdecnaaGreat
namespace Go.Proofs
open Go.RowKit Go.Lib
set_option maxHeartbeats 4000000 in
set_option maxRecDepth 100000 in
theorem delCalls94 (b c n i j:Nat) (cs:List Value) (w:World) (hcs:cs.length=n * 1) (h1:∀ v ∈ cs,v.oneCell'=true)
  (hcell:∀ k v,cs[k]?=some v->w.cell? ⟨b,k,none⟩=some v) (hfz:∀ k,k < n * 1->w.frozen? ⟨b,k,none⟩=false) (hn:n <= c) (_:c <= 9223372036854775807) (hij:i < j) (hj:j <= n) :
  Calls Tryz.prog 94 #[.slice (some ⟨b,0,none⟩) n c,.int .i64 i,.int .i64 j] w fun e w'=>e=.returned (.slice (some ⟨b,0,none⟩) (n - (j - i)) c) /\
   w'=(w.drew.setCells b (i * 1) (cs.drop (j * 1))).setCells b ((n - (j - i)) * 1) (nN ((j - i) * 1) (.int .i64 0)):=by
 obtain ⟨news,hnews⟩:∃ news,news=cs.drop (j * 1):=⟨_,rfl⟩
 have hlen:news.length=(n - j) * 1:=by rw [hnews,List.length_drop,hcs];omega
 obtain ⟨A,hA,hsrc⟩:∃ A:Addr,(if c=j then some (⟨b,0,none⟩:Addr) else some ⟨b,j * 1,none⟩)=some A/\Hid (∀ t u,news[t]?=some u->w.drew.cell? (A.add t)=some u):=by
  by_cases h:c=j
  ·refine ⟨⟨b,0,none⟩,by simp [h],fun t u hu=>?_⟩
   have h0:news.length=0:=by rw [hlen];omega
   rw [nH.1 h0] at hu
   simp at hu
  ·refine ⟨⟨b,j * 1,none⟩,by simp [h],fun t u hu=>?_⟩
   rw [hnews,List.getElem?_drop] at hu
   rw [Addr.add_lit]
   exact hcell _ _ hu
 have s1:Hid (news.length=(n - j) * 1):=hlen
 have s2:Hid (∀ u ∈ news,u.oneCell'=true):=by
  intro u hu
  rw [hnews] at hu
  exact h1 u (List.mem_of_mem_drop hu)
 have hsome:∀ k,k < n * 1->(w.cell? ⟨b,k,none⟩).isSome=true:=fun k hk=>by
  rw [hcell k _ (List.getElem?_eq_getElem (by omega))];rfl
 have s3:Hid (∀ t,t < news.length->(w.drew.cell? ⟨b,0 + i * 1 + t,none⟩).isSome=true/\w.drew.frozen? ⟨b,0 + i * 1 + t,none⟩=false):=by
  intro t ht
  rw [hlen] at ht
  exact ⟨hsome _ (by omega),hfz _ (by omega)⟩
 obtain ⟨W1,hW1⟩:∃ W1,W1=w.drew.setCells b (i * 1) news:=⟨_,rfl⟩
 have hcl:∀ ty,(Builtin.clear_ #[31] ty #[.slice (some ⟨b,(i + (n - j)) * 1,none⟩) (n - (i + (n - j))) (c - (i + (n - j)))]).run Tryz.prog W1=.ok (.tuple #[]) (W1.setCells b ((i + (n - j)) * 1) (nN ((n - (i + (n - j))) * 1) (.int .i64 0))) :=
  fun ty=>Go.KL.run_clear_sliceK W1 _ _ ty _ (.int .i64 0) 1 Tryz.underlying31 Tryz.zeroValue3 rfl (by omega) rfl b _ _ _ (by omega) (fun t ht=>by
   rw [hW1]
   exact Go.KL.isSome_setCells' b news (i * 1) w.drew (fun q hq=>hsome _ (by rw [hlen] at hq;omega)) _ (hsome ((i + (n - j)) * 1 + t) (by omega))) (fun t ht=>by rw [hW1,World.frozen?_setCells];exact hfz ((i + (n - j)) * 1 + t) (by omega))
 have hW:Hid (W1=w.drew.setCells b (0 + i * 1) news):=by rw [nL];exact hW1
 have hic:i <= c:=by omega
 have hjc:j <= c:=by omega
 have ty30:=Tryz.typeInfo3
 have mixed:Tryz.prog.follows .mixedOrders=true:=rfl
 have hnews':Hid (news=cs.drop (j * 1)):=hnews
 try simp only [Nat.mul_one] at hcl
 clear hW1 hsome hlen hnews
 go_enter Tryz.func94,Tryz.ntmps94
 go_wp2_with fail
 go_region_law_o (refine step_append_room rfl (.tmp 22) (.tmp 25) 31 rfl 3 _ 1 Tryz.underlying31 Tryz.type3 rfl b 0 i c (by simp [Act.eval,Act.put]) A (n - j) (c - j) news (by simp [Act.eval,Act.put] <;> first | assumption | simpa using hA) s1.out hsrc.out s2.out (by omega) s3.out ?_;rw [<- hW.out])
 go_wp2
 all_goals
  go_ret
  have e1:n - (j - i)=i + (n - j):=by omega
  have e2:n - (i + (n - j))=j - i:=by omega
  have hw:=hW.out
  rw [nL,hnews'.out] at hw
  refine ⟨by rw [e1];rfl,?_⟩
  first
  | (rw [e1,hw,e2];done)
  | (simp only [Nat.mul_one] at hw ⊢;rw [e1,hw,e2])
end Go.Proofs
namespace Go.Proofs.YtghaibkggdecnaaGreat
open Go.KL
theorem wNJ (x a b:Int):wBo x a b=some (decide (a <= x) && decide (x <= b)):=by
 unfold wBo
 by_cases h:a <= x <;> simp [h]
theorem wHq {K V:Type} [DecidableEq K] {m:List (K × V)} {x y:K} {v:V}:wFX (mput m x v) y=if y=x then some v else wFX m y:=by
 induction m with
 | nil=>simp only [mput,wFX]
 | cons p m ih =>
  obtain ⟨a,u⟩:=p
  rw [mput]
  by_cases h:x=a
  ·subst h
   rw [if_pos rfl,wFX,wFX]
   split <;> rfl
  ·rw [if_neg h,wFX,wFX,ih]
   by_cases h2:y=a
   ·rw [if_pos h2,if_neg (fun e:y=x=>h (e.symm.trans h2)),if_pos h2]
   ·rw [if_neg h2,if_neg h2]
theorem wHr {l:List Int} (hl:l.length <= 1000):wBj l=some (!decide l.Nodup):=by
 unfold wBj
 rw [wDA (by omega)]
 have key:∀ (m k:Nat) (t:List (Int × Bool)),k + m=l.length->(∀ n,wCK t n false=decide (n ∈ l.take k))->(l.take k).Nodup ->
   jn (forN (fun k20 l17 =>
  (idx l (↑k20:Int)).bind fun x41 =>
  if (wCK l17 x41 false)=true then
   esc (some true)
  else
   some (.inl (mput l17 x41 true))) m k t) (fun _=>some false)=some (!decide l.Nodup):=by
  intro m
  induction m with
  | zero =>
   intro k t hk _ hn
   rw [List.take_of_length_le (by omega)] at hn
   simp [forN,hn]
  | succ m ih =>
   intro k t hk ht hn
   have hlt:k < l.length:=by omega
   rw [forN,wBZ hlt,nA,ht]
   by_cases c:gd l k ∈ l.take k
   ·have:¬ l.Nodup:=fun h=>by
     rw [<- nf k l,wNE hlt] at h
     exact (np.1 h).2.2 _ c _ (by simp) rfl
    simp [c,this]
   ·rw [if_neg (by simpa using c)]
    simp only
    refine ih (k + 1) _ (by omega) (fun n=>?_) ?_
    ·unfold wCK at ht ⊢
     rw [wHq,wHl hlt]
     by_cases e:n=gd l k
     ·rw [if_pos e];simp [e]
     ·rw [if_neg e,ht];simp [e]
    ·rw [wHl hlt,np]
     exact ⟨hn,by simp,fun a ha b hb e=>by simp at hb;subst hb;subst e;exact c ha⟩
 exact key l.length 0 [] (by omega) (fun n=>by simp [wCK,wFX]) (by simp)
theorem wDB {S:Type} {body:Nat->S->Option S} {n:Nat} {s0:S} (I:Nat->S->Prop) (hn:n <= 1000) (h0:I 0 s0) (h:∀ i s,i < n->I i s->∃ s',body i s=some s'/\I (i + 1) s'):∃ s,wBg 0 (n:Int) body s0=some s/\I n s:=by
 rw [wFN (by omega)]
 have:=wEy (body:=body) I n 0 s0 h0 fun i s _ h2 h3=>h i s (by omega) h3
 rwa [nL] at this
theorem wHE {α:Type} [Inhabited α] {l:List α} {a:α} (h:a ∈ l):∃ i,i < l.length/\gd l i=a:=by
 obtain ⟨i,hi,e⟩:=List.getElem_of_mem h
 exact ⟨i,hi,by rw [wEc hi,e]⟩
theorem wGZ {α:Type} [Inhabited α] {l:List α} {p:α->Int}:(l.map p).Nodup ↔ ∀ i,i < l.length->∀ j,j < i->p (gd l i) ≠ p (gd l j):=by
 rw [nD,nG]
 constructor
 ·intro h i hi j hj e
  have:=h j i (by simp;omega) (by simpa using hi) hj
  rw [nI,nI,<- wEc (by omega),<- wEc hi] at this
  exact this e.symm
 ·intro h i j hi hj hij e
  rw [nB] at hi hj
  rw [nI,nI,<- wEc hi,<- wEc hj] at e
  exact h j hj i hij e.symm
theorem wLJ (a b:Int):wBe a b=some (if a < b then -1 else if b < a then 1 else 0):=by
 unfold wBe wBt
 simp only [not_true_eq_false,decide_false,nA,Bool.false_eq_true,if_false]
 split
 ·rfl
 ·split <;> rfl
end Go.Proofs.YtghaibkggdecnaaGreat
namespace Go.Proofs.YtghaibkggdecnaaGreat
open Go.KL
theorem wHs {f:wAA->Option Int} {p:wAA->Int} (hf:∀ s,f s=some (p s)) (a b:Int) {l:List wAA} (hl:l.length <= 1000):wAb (⟨f,a,b⟩:wAJ) l=some (l.map p):=by
 unfold wAb
 rw [wHk (bytes:=8) (f:=p) (fun s _ r=>by simp only [hf,nA,wHm]) (by omega) (by omega)]
 rfl
theorem wJc {f:wAA->Option Int} {a b:Int} {l:List Int} (hl:l.length <= 1000):wAu l (fun x=>wAZ x (⟨f,a,b⟩:wAJ))=some (l.all fun x=>decide (a <= x) && decide (x <= b)):=by
 unfold wAu
 rw [wKP (p:=fun x=>decide (a <= x) && decide (x <= b)) (z:=false) (fun x _=>by
  unfold wAZ
  simp only [wNJ,nA]
  split <;> rfl) (by omega)]
 cases l.all fun x=>decide (a <= x) && decide (x <= b) <;> rfl
structure wCE (f:List wAA):Prop where
 l1:1 <= f.length
 l2:f.length <= 60
 bib:∀ s ∈ f,1 <= s.Bib/\s.Bib <= 999
 rank:∀ s ∈ f,1 <= s.Rank/\s.Rank <= 9999
 nat:∀ s ∈ f,0 <= s.Nation/\s.Nation <= 30
 bibs:(f.map (·.Bib)).Nodup
 ranks:(f.map (·.Rank)).Nodup
def okB (s:wAA):Bool:=decide (1 <= s.Bib) && decide (s.Bib <= 999)
def okR (s:wAA):Bool:=decide (1 <= s.Rank) && decide (s.Rank <= 9999)
def okN (s:wAA):Bool:=decide (0 <= s.Nation) && decide (s.Nation <= 30)
def okF (s:wAA):Bool:=okB s && (okN s && okR s)
def wIf (f:List wAA):Int:=if 1 <= f.length/\f.length <= 60 then (if f.all okF=true then (if (f.map (·.Bib)).Nodup/\(f.map (·.Rank)).Nodup then 0 else 5) else 3) else 2
theorem wCi {f:List wAA}:wIf f=0 ↔ wCE f:=by
 unfold wIf
 constructor
 ·intro h
  by_cases h1:1 <= f.length/\f.length <= 60
  ·rw [if_pos h1] at h
   by_cases h2:f.all okF=true
   ·rw [if_pos h2] at h
    by_cases h3:(f.map (·.Bib)).Nodup/\(f.map (·.Rank)).Nodup
    ·have:=fun s hs=>nK.1 h2 s hs
     simp only [okF,okB,okN,okR,nW,decide_eq_true_iff] at this
     exact ⟨h1.1,h1.2,fun s hs=>(this s hs).1,fun s hs=>(this s hs).2.2,fun s hs=>(this s hs).2.1,h3.1,h3.2⟩
    ·rw [if_neg h3] at h;omega
   ·rw [if_neg h2] at h;omega
  ·rw [if_neg h1] at h;omega
 ·intro G
  rw [if_pos ⟨G.l1,G.l2⟩,if_pos (nK.2 fun s hs=>by
   have h1:=G.bib s hs
   have h2:=G.nat s hs
   have h3:=G.rank s hs
   simp only [okF,okB,okN,okR,nW,decide_eq_true_iff]
   exact ⟨h1,h2,h3⟩),if_pos ⟨G.bibs,G.ranks⟩]
theorem wFA {f:List wAA} (hl:f.length <= 1000):wBF f=some (wIf f):=by
 unfold wBF wIf
 rw [wNJ,nA]
 by_cases h1:1 <= f.length/\f.length <= 60
 case neg=>rw [if_neg h1,if_neg (by simp;omega)]
 rw [if_pos h1,if_pos (by simp;omega)]
 unfold wCN
 rw [nA]
 have hall:f.all okF=(f.all okB && (f.all okN && f.all okR)):=by
  rw [nZ]
  simp only [nW,nK,okF]
  constructor
  ·exact fun h=>⟨fun s hs=>(h s hs).1,fun s hs=>(h s hs).2.1,fun s hs=>(h s hs).2.2⟩
  ·exact fun h s hs=>⟨h.1 s hs,h.2.1 s hs,h.2.2 s hs⟩
 have mB:(f.map (·.Bib)).all (fun x=>decide (1 <= x) && decide (x <= 999))=f.all okB:=by rw [ni];rfl
 have mR:(f.map (·.Rank)).all (fun x=>decide (1 <= x) && decide (x <= 9999))=f.all okR:=by rw [ni];rfl
 have mN:(f.map (·.Nation)).all (fun x=>decide (0 <= x) && decide (x <= 30))=f.all okN:=by rw [ni];rfl
 rw [wHs (f:=wAL) (p:=(·.Bib)) (fun _=>rfl) _ _ hl,nA,wJc (by simpa using hl),nA,mB]
 rw [wHs (f:=wAM) (p:=(·.Rank)) (fun _=>rfl) _ _ hl,nA,wJc (by simpa using hl),nA,mR]
 rw [wHs (f:=wAY) (p:=(·.Nation)) (fun _=>rfl) _ _ hl,nA,wJc (by simpa using hl),nA,mN]
 rw [nA,wHr (by simpa using hl),nA,nA,wHr (by simpa using hl),nA,hall]
 cases f.all okB with
 | false=>rfl
 | true =>
  cases f.all okR with
  | false=>cases f.all okN <;> rfl
  | true =>
   cases f.all okN with
   | false=>rfl
   | true =>
    simp only [if_true,Bool.true_and]
    by_cases hb:(f.map (·.Bib)).Nodup
    ·by_cases hr:(f.map (·.Rank)).Nodup
     ·simp [hb,hr]
     ·simp [hb,hr]
    ·simp [hb]
theorem wFB {f:List wAA} (G:wCE f):wBF f=some 0:=by
 rw [wFA (by have:=G.l2;omega),wCi.2 G]
def rk (f:List wAA) (i:Int):Int:=(gd f i.toNat).Rank
theorem wHt {f:List wAA} {a b:Int} (ha:0 <= a/\a < f.length) (hb:0 <= b/\b < f.length):wAe a b f=some (if rk f a < rk f b then -1 else if rk f b < rk f a then 1 else 0):=by
 unfold wAe
 have e:∀ {i:Int},0 <= i->i < f.length->idx f i=some (gd f i.toNat):=fun h1 h2=>by
  unfold idx
  rw [if_pos h1,wEm (by omega)]
 rw [e ha.1 ha.2,nA,e hb.1 hb.2,nA,wLJ,wHm]
 rfl
theorem wOl {f:List wAA} (G:wCE f) {a b:Int} (ha:0 <= a/\a < f.length) (hb:0 <= b/\b < f.length) (e:rk f a=rk f b):a=b:=by
 unfold rk at e
 have pw:=nG.1 G.ranks
 have hi:a.toNat < (f.map (·.Rank)).length:=by simp;omega
 have hj:b.toNat < (f.map (·.Rank)).length:=by simp;omega
 have e':(f.map (·.Rank))[a.toNat]=(f.map (·.Rank))[b.toNat]:=by
  rw [nI,nI,<- wEc (by omega),<- wEc (by omega)]
  exact e
 rcases Int.lt_trichotomy a b with c | c | c
 ·exact absurd e' (pw _ _ hi hj (by omega))
 ·exact c
 ·exact absurd e'.symm (pw _ _ hj hi (by omega))
def wCj (n:Nat):List Int:=(nP n).map fun (k:Nat)=>(k:Int)
theorem wJd (n:Nat):(wCj n).Pairwise (· < ·):=by
 unfold wCj
 rw [nq]
 exact nc.imp fun h=>by omega
theorem wCS {n:Nat}:∀ i ∈ wCj n,0 <= i/\i < n:=by
 intro i hi
 obtain ⟨k,hk,e⟩:=nX.1 hi
 have:=nT.1 hk
 omega
structure Rk (f:List wAA) (r:List Int):Prop where
 perm:r.Perm (wCj f.length)
 ord:r.Pairwise fun a b=>rk f a < rk f b
theorem wNK {f:List wAA} (G:wCE f):∃ r,wBS f=some r/\Rk f r:=by
 unfold wBS
 have h1:=G.l1
 have h2:=G.l2
 rw [mkz,if_pos (by omega),nA]
 have e:=wDs (body:=fun (k24:Nat) (l23:List Int) =>
  (chk (↑k24:Int) l23.length).bind fun _ =>
  some (List.set l23 k24 (↑k24:Int))) (n:=f.length) (s0:=nN (f.length:Int).toNat 0) (fun k=>wCj k ++ nN (f.length - k) 0) (by simp [wCj]) (by omega) (fun i hi=>by
   have hl:(wCj i ++ nN (f.length - i) (0:Int)).length=f.length:=by simp [wCj];omega
   rw [wGr (by omega) (by omega),nA]
   congr 1
   have hn:(wCj i).length=i:=by simp [wCj]
   rw [List.set_append_right _ _ (by omega),hn,Nat.sub_self,show f.length - i=(f.length - (i + 1)) + 1 by omega,List.replicate_succ,List.set_cons_zero]
   have:wCj (i + 1)=wCj i ++ [(i:Int)]:=by unfold wCj;rw [nQ,nR];rfl
   rw [this,nr]
   rfl)
 rw [e,nA]
 simp only [Nat.sub_self,List.replicate_zero,nS]
 have C:Cmp (fun x:Int × Int=>wAe x.1 x.2 f) (wCj f.length):=by
  have lt:∀ x ∈ wCj f.length,∀ y ∈ wCj f.length,ltB (fun x:Int × Int=>wAe x.1 x.2 f) x y=decide (rk f x < rk f y):=fun x hx y hy=>by
   unfold ltB
   simp only
   rw [wHt (wCS x hx) (wCS y hy)]
   by_cases c:rk f x < rk f y
   ·simp [c]
   ·by_cases c2:rk f y < rk f x <;> simp [c,c2]
  refine ⟨by simp [wCj];omega,fun x hx y hy=>by simp only;rw [wHt (wCS x hx) (wCS y hy)];rfl,fun x hx=>by rw [lt x hx x hx];simp,fun x hx y hy z hz a b=>?_,fun x hx y hy z hz a b=>?_,fun x hx y hy a b=>?_⟩
  ·rw [lt x hx y hy] at a;rw [lt y hy z hz] at b;rw [lt x hx z hz]
   simp at a b ⊢;omega
  ·rw [lt x hx y hy] at a;rw [lt y hy z hz] at b;rw [lt x hx z hz]
   simp at a b ⊢;omega
  ·rw [lt x hx y hy] at a;rw [lt y hy x hx] at b
   simp at a b
   exact wOl G (wCS x hx) (wCS y hy) (by omega)
 unfold wBd
 rw [wNj C,nA]
 refine ⟨_,rfl,nh _ _,?_⟩
 have hp:=nh (wCj f.length) fun x y=>!ltB (fun x:Int × Int=>wAe x.1 x.2 f) y x
 have lt:∀ x ∈ wCj f.length,∀ y ∈ wCj f.length,ltB (fun x:Int × Int=>wAe x.1 x.2 f) x y=decide (rk f x < rk f y):=fun x hx y hy=>by
  unfold ltB
  simp only
  rw [wHt (wCS x hx) (wCS y hy)]
  by_cases c:rk f x < rk f y
  ·simp [c]
  ·by_cases c2:rk f y < rk f x <;> simp [c,c2]
 rw [wEe (le':=fun x y=>decide (rk f x <= rk f y)) (wCj f.length) (fun x hx y hy=>by
  rw [lt y hy x hx,<- decide_not]
  exact decide_eq_decide.2 (by omega))] at hp ⊢
 have so:=List.pairwise_mergeSort (le:=fun x y:Int=>decide (rk f x <= rk f y)) (fun a b c h1 h2=>by simp at h1 h2 ⊢;omega) (fun a b=>by simp;omega) (wCj f.length)
 have nd:((wCj f.length).mergeSort fun x y=>decide (rk f x <= rk f y)).Pairwise (· ≠ ·):=nD.1 (hp.nodup_iff.2 (nD.2 ((wJd _).imp fun h=>by omega)))
 refine (so.and nd).imp_of_mem fun {a b} ha hb h=>?_
 have h1:rk f a <= rk f b:=by simpa using h.1
 have h2:rk f a ≠ rk f b:=fun e=>h.2 (wOl G (wCS a (hp.mem_iff.1 ha)) (wCS b (hp.mem_iff.1 hb)) e)
 omega
end Go.Proofs.YtghaibkggdecnaaGreat
namespace Go.Proofs.YtghaibkggdecnaaGreat
open Go.KL
def col (f:List wAA) (i:Nat):Nat:=(gd f i).Nation.toNat
def man (f:List wAA) (x:Nat):Nat:=cnt (col f) f.length x
theorem wFk {p:Nat->Nat} {x:Nat}:∀ {t:Nat},cnt p t x <= t
 | 0=>nE _
 | t + 1=>by
  have:=wFk (p:=p) (x:=x) (t:=t)
  simp only [cnt]
  split <;> omega
theorem wNL (a:Arr Int 31) {i j:Nat} (hi:i < 31) (v:Int):(a.set i v).get j=if j=i then v else a.get j:=by
 unfold Arr.set Arr.get
 simp only [nV]
 by_cases e:j=i
 ·rw [if_pos e,e,List.getElem?_set_self (by rw [a.h];exact hi)]
  rfl
 ·rw [if_neg e,List.getElem?_set_ne (Ne.symm e)]
theorem wOI {x:Nat} (hx:x < 31):(Arr.fill 31 (0:Int)).get x=0:=by
 unfold Arr.fill Arr.get
 simp only [nV]
 rw [List.getElem?_replicate,if_pos hx]
 rfl
theorem wKW {f:List wAA} (G:wCE f) {i:Nat} (hi:i < f.length):col f i < 31:=by
 have:=G.nat _ (wBl hi)
 unfold col
 omega
theorem wNM {f:List wAA} (G:wCE f) {i:Nat} (hi:i < f.length):((col f i:Nat):Int)=(gd f i).Nation:=by
 have:=G.nat _ (wBl hi)
 unfold col
 omega
theorem wHF {f:List wAA} (G:wCE f):∃ a,wAx f=some a/\∀ x,x < 31->a.get x=((man f x:Nat):Int):=by
 have h2:=G.l2
 obtain ⟨a,e,h⟩:=wDB (n:=f.length) (s0:=Arr.fill 31 0) (body:=fun (k17:Nat) (a16:Arr Int 31) =>
  (idx f (↑k17:Int)).bind fun x39 =>
  (chk x39.Nation 31).bind fun _ =>
  some (a16.set x39.Nation.toNat (w64 ((a16.get x39.Nation.toNat) + 1)))) (fun k a=>∀ x,x < 31->a.get x=((cnt (col f) k x:Nat):Int)) (by omega) (fun x hx=>by rw [wOI hx];rfl) (fun k a hk I=>by
   have hn:=G.nat _ (wBl hk)
   have hc:=wKW G hk
   rw [wBZ hk,nA,wGr (by omega) (by omega),nA]
   refine ⟨_,rfl,fun x hx=>?_⟩
   rw [show (gd f k).Nation.toNat=col f k from rfl,wNL a hc]
   have hl:=wFk (p:=col f) (x:=col f k) (t:=k)
   by_cases e:x=col f k
   ·rw [if_pos e,I _ hc,wAS (by omega) (by omega),e]
    simp only [cnt,if_true]
    omega
   ·rw [if_neg e,I x hx]
    simp only [cnt,if_neg (Ne.symm e),Nat.add_zero])
 unfold wAx
 rw [e]
 exact ⟨a,rfl,h⟩
theorem wRN {l:List Int} (h:1 <= l.length) (h2:l.length <= 1000):∃ M,wBO l=some M/\M ∈ l/\∀ x ∈ l,x <= M:=by
 unfold wBO
 rw [if_neg (by omega),show (0:Int)=((0:Nat):Int) from rfl,wBZ (by omega),nA,wBg,if_pos (by omega)]
 obtain ⟨M,e,h⟩:=wEy (body:=fun (k17:Nat) (x16:Int) =>
   (idx l (1 + ↑k17:Int)).bind fun x37 =>
   some (max x16 x37)) (fun k M=>M ∈ l/\∀ i,i < k + 1->gd l i <= M) ((↑l.length:Int) - 1).toNat 0 (gd l 0) ⟨wBl (by omega),fun i hi=>by
    rw [show i=0 by omega];omega⟩ (fun k M _ hk ⟨i1,i2⟩=>by
    have hk':1 + k < l.length:=by omega
    refine ⟨max M (gd l (1 + k)),?_,?_,fun i hi=>?_⟩
    ·rw [show (1 + (k:Int))=((1 + k:Nat):Int) by omega,wBZ hk',nA]
    ·have:=wBl hk'
     rcases Int.le_total M (gd l (1 + k)) with c | c
     ·rw [Int.max_eq_right c];exact this
     ·rw [Int.max_eq_left c];exact i1
    ·by_cases e:i=1 + k
     ·rw [e];omega
     ·have:=i2 i (by omega)
      omega)
 rw [e]
 refine ⟨M,rfl,h.1,fun x hx=>?_⟩
 obtain ⟨i,hi,ei⟩:=wHE hx
 rw [<- ei]
 exact h.2 i (by omega)
theorem wNN {S:Type} {body:Nat->S->Option S} {s0:S} (I:Nat->S->Prop) (h0:I 0 s0) (h:∀ i s,i < 31->I i s->∃ s',body i s=some s'/\I (i + 1) s'):∃ s,wBg 0 31 body s0=some s/\I 31 s:=wDB (n:=31) I (by omega) h0 h
theorem wKX {q:Nat->Bool}:∀ {C:Nat},((nP C).filter q).length=sm (fun x=>if q x=true then 1 else 0) C
 | 0=>rfl
 | C + 1=>by
  rw [nQ,nj,nM,wKX (C:=C)]
  simp only [sm]
  by_cases e:q C=true
  ·simp [e]
  ·simp [e]
def wFl (a:Arr Int 31) (M:Int) (k:Nat):List Int:=((nP k).filter fun x=>decide (a.get x=M)).map fun (x:Nat)=>(x:Int)
theorem wNO (a:Arr Int 31) {k:Nat} (h:k < 31):idx a.l (k:Int)=some (a.get k):=by
 rw [wEK]
 exact a.at_ h
theorem wPs {a:Arr Int 31} {x:Int} (h:x ∈ a.l):∃ k,k < 31/\a.get k=x:=by
 obtain ⟨k,hk,e⟩:=wHE h
 have:=a.h
 exact ⟨k,by omega,e⟩
theorem wJe (a:Arr Int 31):∃ M,wAT a=some (wFl a M 31,M)/\(∃ x,x < 31/\a.get x=M)/\∀ x,x < 31->a.get x <= M:=by
 have hl:=a.h
 obtain ⟨M,e1,e2,e3⟩:=wRN (l:=a.l) (by omega) (by omega)
 unfold wAT
 rw [e1,nA]
 obtain ⟨s,e,hs⟩:=wNN (s0:=([]:List Int)) (body:=fun (k43:Nat) (l39:List Int) =>
  (idx (a.l:List Int) (↑k43:Int)).bind fun x66 =>
  if x66=M then
   (app 8 l39 [(↑k43:Int)]).bind fun x76 =>
   some x76
  else
   some l39) (fun k l=>l=wFl a M k) rfl (fun k l hk I=>by
   subst I
   have hlen:(wFl a M k).length <= 31:=by
    unfold wFl
    rw [nB]
    have:=ng (fun x=>decide (a.get x=M)) (nP k)
    rw [nt] at this
    omega
   have e:wFl a M (k + 1)=if a.get k=M then wFl a M k ++ [(k:Int)] else wFl a M k:=by
    unfold wFl
    rw [nQ,nj,nR]
    by_cases e:a.get k=M
    ·simp [e]
    ·simp [e]
   rw [wNO a hk,nA,e]
   by_cases c:a.get k=M
   ·rw [if_pos c,if_pos c,wFV (by simp;omega)]
    exact ⟨_,rfl,rfl⟩
   ·rw [if_neg c,if_neg c]
    exact ⟨_,rfl,rfl⟩)
 rw [e,nA,hs]
 refine ⟨M,rfl,wPs e2,fun x hx=>e3 _ ?_⟩
 exact List.mem_of_getElem? (a.at_ hx)
theorem wOJ {a:Arr Int 31} {M:Int} {k:Nat}:(wFl a M k).length=sm (fun x=>if a.get x=M then 1 else 0) k:=by
 unfold wFl
 rw [nB,wKX]
 exact wCF fun x _=>by simp
theorem wPt {a:Arr Int 31} {M:Int} {k:Nat}:(wFl a M k).Pairwise (· < ·):=by
 unfold wFl
 rw [nq]
 exact (nc.filter _).imp fun h=>by omega
theorem wKY {a:Arr Int 31} {M:Int} {k:Nat} {y:Int}:y ∈ wFl a M k ↔ ∃ x:Nat,x < k/\a.get x=M/\y=x:=by
 unfold wFl
 constructor
 ·intro h
  obtain ⟨x,hx,e⟩:=nX.1 h
  have:=List.mem_filter.1 hx
  exact ⟨x,nT.1 this.1,by simpa using this.2,e.symm⟩
 ·rintro ⟨x,hx,e,rfl⟩
  exact nX.2 ⟨x,List.mem_filter.2 ⟨nT.2 hx,by simpa using e⟩,rfl⟩
theorem wFm {α:Type} [Inhabited α] (g:α->Nat) (l:List α) (x:Nat):cnt (fun r=>g (gd l r)) l.length x=l.countP (fun i=>decide (g i=x)):=by
 have key:∀ k,k <= l.length->cnt (fun r=>g (gd l r)) k x=(l.take k).countP (fun i=>decide (g i=x)):=by
  intro k
  induction k with
  | zero=>intro _;simp [cnt]
  | succ k ih =>
   intro hk
   rw [wHl (by omega),nU]
   simp only [cnt]
   rw [ih (by omega)]
   by_cases e:g (gd l k)=x
   ·simp [e]
   ·simp [e]
 rw [key _ (nE _),List.take_length]
theorem wPu {n k:Nat} (h:k < n):gd (wCj n) k=(k:Int):=by
 rw [wEc (by simpa [wCj] using h)]
 simp [wCj]
theorem wOm {f:List wAA} {o:List Int} (h:o.Perm (wCj f.length)) (x:Nat):man f x=o.countP (fun i=>decide (col f i.toNat=x)):=by
 rw [h.countP_eq]
 have:=wFm (fun i:Int=>col f i.toNat) (wCj f.length) x
 rw [<- this,show (wCj f.length).length=f.length by simp [wCj]]
 exact wEz fun r hr=>by rw [wPu hr];rfl
def pn (f:List wAA) (o:List Int) (r:Nat):Nat:=col f (gd o r).toNat
theorem wRO {f:List wAA} (G:wCE f) {o:List Int} (h:o.Perm (wCj f.length)):∀ r,r < f.length->pn f o r < 31:=by
 intro r hr
 have hl:o.length=f.length:=by rw [h.length_eq];simp [wCj]
 have:=wCS _ (h.mem_iff.1 (wBl (l:=o) (k:=r) (by omega)))
 exact wKW G (by omega)
theorem wOn {f:List wAA} {o:List Int} (h:o.Perm (wCj f.length)) (x:Nat):cnt (pn f o) f.length x=man f x:=by
 have hl:o.length=f.length:=by rw [h.length_eq];simp [wCj]
 rw [wOm h,<- wFm (fun i:Int=>col f i.toNat) o x,hl]
 rfl
theorem wDt {f:List wAA} (G:wCE f):sm (man f) 31=f.length:=wIe fun _ hr=>wKW G hr
end Go.Proofs.YtghaibkggdecnaaGreat
namespace Go.Proofs.YtghaibkggdecnaaGreat
open Go.KL
def Elg (a:Arr Int 31) (l:List (Int × Int)) (t d:Int) (k:Nat):Prop:=0 < a.get k/\(wFu l (k:Int)=true->d <= w64 (t - wCK l (k:Int) 0))
def bRd (a:Arr Int 31) (l:List (Int × Int)) (t d:Int) (k174:Nat) (x173:Int):Option Int :=
  ((idx (a.l:List Int) (↑k174:Int)).bind fun x207 =>
          if 0 < x207 then
            if (wFu l (↑k174:Int))=true then
              if d <= (w64 (t - (wCK l (↑k174:Int) 0))) then
                if x173 < 0 then
                  some (↑k174:Int)
                else
                  (chk x173 31).bind fun _ =>
                  if (a.get x173.toNat) < x207 then
                    some (↑k174:Int)
                  else
                    some x173
              else
                some x173
            else
              if x173 < 0 then
                some (↑k174:Int)
              else
                (chk x173 31).bind fun _ =>
                if (a.get x173.toNat) < x207 then
                  some (↑k174:Int)
                else
                  some x173
          else
            some x173).bind fun x203 =>
          some x203
def BI (a:Arr Int 31) (l:List (Int × Int)) (t d:Int) (k:Nat) (s:Int):Prop :=
 (s=-1/\∀ x,x < k->¬ Elg a l t d x) \/ ∃ b:Nat,b < k/\s=b/\Elg a l t d b/\∀ x,x < k->Elg a l t d x->a.get x <= a.get b
theorem wRP (a:Arr Int 31) (l:List (Int × Int)) (t d:Int) {k:Nat} (hk:k < 31) {s:Int} (I:BI a l t d k s):∃ s',bRd a l t d k s=some s'/\BI a l t d (k + 1) s':=by
 have no:¬ Elg a l t d k->BI a l t d (k + 1) s:=fun c=>by
  rcases I with ⟨i1,i2⟩ | ⟨b,b1,b2,b3,b4⟩
  ·refine .inl ⟨i1,fun x hx=>?_⟩
   by_cases e:x=k
   ·rw [e];exact c
   ·exact i2 x (by omega)
  ·refine .inr ⟨b,by omega,b2,b3,fun x hx ex=>?_⟩
   by_cases e:x=k
   ·rw [e] at ex;exact absurd ex c
   ·exact b4 x (by omega) ex
 have yes:Elg a l t d k->∃ s',(if s < 0 then some (k:Int) else (chk s 31).bind fun _=>if a.get s.toNat < a.get k then some (k:Int) else some s)=some s'/\BI a l t d (k + 1) s':=fun c=>by
  rcases I with ⟨i1,i2⟩ | ⟨b,b1,b2,b3,b4⟩
  ·rw [if_pos (by omega)]
   refine ⟨_,rfl,.inr ⟨k,by omega,rfl,c,fun x hx ex=>?_⟩⟩
   by_cases e:x=k
   ·rw [e];omega
   ·exact absurd ex (i2 x (by omega))
  ·rw [if_neg (by omega),wGr (by omega) (by omega),nA,show s.toNat=b by omega]
   by_cases h:a.get b < a.get k
   ·rw [if_pos h]
    refine ⟨_,rfl,.inr ⟨k,by omega,rfl,c,fun x hx ex=>?_⟩⟩
    by_cases e:x=k
    ·rw [e];omega
    ·have:=b4 x (by omega) ex
     omega
   ·rw [if_neg h]
    refine ⟨_,rfl,.inr ⟨b,by omega,b2,b3,fun x hx ex=>?_⟩⟩
    by_cases e:x=k
    ·rw [e];omega
    ·exact b4 x (by omega) ex
 unfold bRd
 rw [wNO a hk,nA]
 by_cases h1:0 < a.get k
 ·rw [if_pos h1]
  by_cases h2:wFu l (k:Int)=true
  ·rw [if_pos h2]
   by_cases h3:d <= w64 (t - wCK l (k:Int) 0)
   ·rw [if_pos h3]
    obtain ⟨s',e,h⟩:=yes ⟨h1,fun _=>h3⟩
    rw [e]
    exact ⟨s',rfl,h⟩
   ·rw [if_neg h3]
    exact ⟨s,rfl,no fun c=>h3 (c.2 h2)⟩
  ·rw [if_neg h2]
   obtain ⟨s',e,h⟩:=yes ⟨h1,fun c=>absurd c h2⟩
   rw [e]
   exact ⟨s',rfl,h⟩
 ·rw [if_neg h1]
  exact ⟨s,rfl,no fun c=>h1 c.1⟩
theorem wPv (a:Arr Int 31) (l:List (Int × Int)) (t d:Int):∃ s,wBg 0 31 (bRd a l t d) (-1)=some s/\BI a l t d 31 s :=
 wNN (BI a l t d) (.inl ⟨rfl,fun x hx=>by omega⟩) fun i s hi I=>wRP a l t d hi I
def gRd (p0:List wAA) (d:Int) (k130:Nat):List (Int × Int) × Arr Int 31 × List Int × List Int->Option (List (Int × Int) × Arr Int 31 × List Int × List Int)
  | (l119,a122,l123,l126) =>
        (wBg 0 31 (bRd a122 l119 (↑k130:Int) d) (-1)).bind fun y179 =>
        (wAR l123 (fun x=>wAf x p0 y179)).bind fun x317 =>
        (chk x317 l123.length).bind fun _ =>
        (app 8 l126 [(gd l123 x317.toNat)]).bind fun x341 =>
        (wAz l123 x317 (w64 (x317 + 1))).bind fun x349 =>
        (chk y179 31).bind fun _ =>
        some ((mput l119 y179 (↑k130:Int)),(a122.set y179.toNat (w64 ((a122.get y179.toNat) - 1))),x349,x341)
theorem wFC (p0:List wAA):wBp p0=(wBF p0).bind fun x11 =>
 if x11=0 then
  (wAx p0).bind fun x25 =>
  (wAT x25).bind fun (x43,x44) =>
  if 1 < x44 then
   (quo (w64 ((↑p0.length:Int) - (↑x43.length:Int))) (w64 (x44 - 1))).bind fun x61 =>
   (wBS p0).bind fun x66 =>
   (wBg 0 (↑p0.length:Int) (gRd p0 x61) (([]:List (Int × Int)),x25,x66,[])).bind fun (y135,y136,y137,y138) =>
   some ((y138,x61,0):List Int × Int × Int)
  else
   (wBS p0).bind fun x423 =>
   (wBg 0 (↑p0.length:Int) (gRd p0 (↑p0.length:Int)) (([]:List (Int × Int)),x25,x423,[])).bind fun (y492,y493,y494,y495) =>
   some ((y495,(↑p0.length:Int),0):List Int × Int × Int)
 else
  some (([],0,x11):List Int × Int × Int):=rfl
theorem wIg {α:Type} [Inhabited α] {p:α->Bool}:∀ {l:List α} {k:Nat},(∃ x ∈ l,p x=true)->∃ j,j < l.length/\first p l k=((k + j:Nat):Int)/\p (gd l j)=true
 | [],_,h=>by obtain ⟨x,hx,_⟩:=h;simp at hx
 | a :: l,k,h=>by
  rw [first]
  by_cases c:p a=true
  ·rw [if_pos c]
   exact ⟨0,by simp,rfl,c⟩
  ·rw [if_neg c]
   obtain ⟨x,hx,e⟩:=h
   rcases List.mem_cons.1 hx with rfl | hx
   ·exact absurd e c
   ·obtain ⟨j,j1,j2,j3⟩:=wIg (l:=l) (k:=k + 1) ⟨x,hx,e⟩
    refine ⟨j + 1,by simp;omega,by rw [j2];omega,?_⟩
    rw [show gd (a :: l) (j + 1)=gd l j from rfl]
    exact j3
theorem Gr.snoc {C d t:Nat} {c p p':Nat->Nat} (G:Gr C d c p t) (e:∀ r,r < t->p' r=p r) (h1:p' t < C) (h2:cnt p t (p' t) < c (p' t)) (h3:∀ r,r < t->p r=p' t->d <= t - r)
  (h4:∀ x,x < C->cnt p t x < c x->(∀ r,r < t->p r=x->d <= t - r)->c x - cnt p t x <= c (p' t) - cnt p t (p' t)):Gr C d c p' (t + 1):=by
 have ec:∀ s x,s <= t->cnt p' s x=cnt p s x:=fun s x hs=>wEz fun r hr=>e r (by omega)
 refine ⟨fun s hs=>?_,fun s hs=>?_,fun s hs r hr er=>?_,fun s hs x hx hx2 hx3=>?_⟩
 ·by_cases es:s=t
  ·rw [es];exact h1
  ·rw [e s (by omega)];exact G.lt s (by omega)
 ·rw [ec s _ (by omega)]
  by_cases es:s=t
  ·rw [es];exact h2
  ·rw [e s (by omega)];exact G.pos s (by omega)
 ·rw [e r (by omega)] at er
  by_cases es:s=t
  ·rw [es] at er hr ⊢;exact h3 r hr er
  ·rw [e s (by omega)] at er;exact G.gap s (by omega) r hr er
 ·rw [ec s _ (by omega)] at hx2 ⊢
  rw [ec s _ (by omega)]
  have hx3':∀ r,r < s->p r=x->d <= s - r:=fun r hr er=>hx3 r hr (by rw [e r (by omega)];exact er)
  by_cases es:s=t
  ·subst es;exact h4 x hx hx2 hx3'
  ·rw [e s (by omega)];exact G.best s (by omega) x hx hx2 hx3'
theorem Gr.zero {C d:Nat} {c p:Nat->Nat}:Gr C d c p 0:=⟨fun _ h=>by omega,fun _ h=>by omega,fun _ h=>by omega,fun _ h=>by omega⟩
structure SI (f:List wAA) (d:Nat) (t:Nat) (s:List (Int × Int) × Arr Int 31 × List Int × List Int):Prop where
 len:s.2.2.2.length=t
 perm:(s.2.2.2 ++ s.2.2.1).Perm (wCj f.length)
 gr:Gr 31 d (man f) (pn f s.2.2.2) t
 left:∀ x,x < 31->s.2.1.get x=((man f x - cnt (pn f s.2.2.2) t x:Nat):Int)
 last:∀ x:Nat,x < 31->(wFX s.1 (x:Int)=none/\∀ r,r < t->pn f s.2.2.2 r ≠ x) \/ ∃ r,r < t/\wFX s.1 (x:Int)=some (r:Int)/\pn f s.2.2.2 r=x/\∀ q,q < t->pn f s.2.2.2 q=x->q <= r
theorem wPw {f:List wAA} {d t:Nat} {s:List (Int × Int) × Arr Int 31 × List Int × List Int} (I:SI f d t s) (ht:t <= 1000) {x:Nat} (hx:x < 31) :
  Elg s.2.1 s.1 t d x ↔ cnt (pn f s.2.2.2) t x < man f x/\∀ r,r < t->pn f s.2.2.2 r=x->d <= t - r:=by
 unfold Elg
 rw [I.left x hx]
 constructor
 ·rintro ⟨h1,h2⟩
  refine ⟨by omega,fun r hr er=>?_⟩
  rcases I.last x hx with ⟨_,i2⟩ | ⟨q,q1,q2,q3,q4⟩
  ·exact absurd er (i2 r hr)
  ·have:=h2 (by rw [wFu,q2];rfl)
   rw [wCK,q2,nY,wAS (by omega) (by omega)] at this
   have:=q4 r hr er
   omega
 ·rintro ⟨h1,h2⟩
  refine ⟨by omega,fun h=>?_⟩
  rcases I.last x hx with ⟨i1,_⟩ | ⟨q,q1,q2,q3,q4⟩
  ·rw [wFu,i1] at h;exact absurd h (by decide)
  ·rw [wCK,q2,nY,wAS (by omega) (by omega)]
   have:=h2 q q1 q3
   omega
theorem wRQ {f:List wAA} {o m:List Int} {r:Nat} (h:r < o.length):pn f (o ++ m) r=pn f o r:=by
 unfold pn
 rw [wOD h]
theorem wRR {f:List wAA} (G:wCE f) {d:Nat} (hd:1 <= d) (h0:∀ u,0 < lv 31 (man f) (man f) 0 u->lv 31 (man f) (man f) 0 u + u * d <= f.length) {t:Nat} (ht:t < f.length) {s:List (Int × Int) × Arr Int 31 × List Int × List Int} (I:SI f d t s) :
  ∃ s',gRd f d t s=some s'/\SI f d (t + 1) s':=by
 have hf:=G.l2
 obtain ⟨l,a,sk,o⟩:=s
 have hlen:=I.len
 have hperm:=I.perm
 have hgr:=I.gr
 have hleft:=I.left
 have hlast:=I.last
 have hel:=fun (x:Nat) (hx:x < 31)=>wPw I (by omega) hx
 simp only at hlen hperm hgr hleft hlast hel
 unfold gRd
 simp only
 obtain ⟨y,ey,hy⟩:=wPv a l (t:Int) (d:Int)
 rw [ey,nA]
 obtain ⟨x,hx,hx2,hx3⟩:=wOF hgr hd h0 (wDt G) ht
 have hb:∃ b:Nat,b < 31/\y=b/\Elg a l t d b/\∀ x,x < 31->Elg a l t d x->a.get x <= a.get b:=by
  rcases hy with ⟨_,h2⟩ | h
  ·exact absurd ((hel x hx).2 ⟨hx2,hx3⟩) (h2 x hx)
  ·exact h
 clear hy hx hx2 hx3
 obtain ⟨b,b1,rfl,b2,b3⟩:=hb
 obtain ⟨c1,c2⟩:=(hel b b1).1 b2
 have hsk:∀ i ∈ sk,0 <= i/\i < (f.length:Int):=fun i hi=>wCS _ (hperm.mem_iff.1 (List.mem_append_right _ hi))
 have hnat:∀ i ∈ sk,(decide (col f i.toNat=b))=decide ((gd f i.toNat).Nation=b):=fun i hi=>by
  have:=hsk i hi
  have:=wNM G (i:=i.toNat) (by omega)
  rw [<- this]
  refine decide_eq_decide.2 ⟨fun h=>by omega,fun h=>by omega⟩
 have hex:∃ i ∈ sk,decide ((gd f i.toNat).Nation=b)=true:=by
  have e1:=wOm hperm b
  rw [nU,<- wFm (fun i:Int=>col f i.toNat) o b,hlen] at e1
  have e2:cnt (fun r=>col f (gd o r).toNat) t b=cnt (pn f o) t b:=rfl
  rw [e2] at e1
  have:0 < sk.countP (fun i=>decide (col f i.toNat=b)):=by omega
  obtain ⟨i,hi,e⟩:=List.countP_pos_iff.1 this
  exact ⟨i,hi,by rw [<- hnat i hi];exact e⟩
 have hskl:o.length + sk.length=f.length:=by
  rw [<- nM,hperm.length_eq];simp [wCj]
 have eI:wAR sk (fun x=>wAf x f (b:Int))=some (first (fun i:Int=>decide ((gd f i.toNat).Nation=b)) sk 0):=by
  unfold wAR
  refine wLG (z:=fun x=>x) (fun i hi=>?_) (by omega)
  have h:=hsk i hi
  unfold wAf
  obtain ⟨k,rfl⟩:=nJ h.1
  rw [wBZ (by omega),nA]
  rfl
 obtain ⟨j,j1,j2,j3⟩:=wIg (k:=0) hex
 rw [nL] at j2
 have hi:=hsk _ (wBl j1)
 have ec:col f (gd sk j).toNat=b:=by
  have:=hnat _ (wBl j1)
  rw [j3] at this
  simpa using this
 rw [eI,j2,nA,wGr (by omega) (by omega),nA,wFV (by simp;omega),nA,wAS (by omega) (by omega),wAz,delO,if_pos (by omega),nA,wGr (by omega) (by omega),nA]
 have e1:((j:Int)).toNat=j:=by omega
 have e2:((j:Int) + 1).toNat=j + 1:=by omega
 have e3:((b:Int)).toNat=b:=by omega
 rw [e1,e2,e3]
 refine ⟨_,rfl,?_⟩
 have old:∀ r,r < t->pn f (o ++ [gd sk j]) r=pn f o r:=fun r hr=>wRQ (by omega)
 have new:pn f (o ++ [gd sk j]) t=b:=by
  unfold pn
  rw [<- hlen,wOE]
  exact ec
 have oc:∀ x,cnt (pn f (o ++ [gd sk j])) t x=cnt (pn f o) t x:=fun x=>wEz old
 refine ⟨by simp [hlen],?_,?_,fun x hx=>?_,fun x hx=>?_⟩
 ·simp only
  refine List.Perm.trans ?_ hperm
  have:sk=sk.take j ++ gd sk j :: sk.drop (j + 1):=by
   rw [<- wNE j1,nf]
  rw [nr]
  refine List.Perm.append_left o ?_
  conv=>rhs;rw [this]
  rw [List.singleton_append]
  exact List.perm_middle.symm
 ·simp only
  refine hgr.snoc old (by rw [new];exact b1) (by rw [new];exact c1) (by rw [new];exact c2) fun x hx h1 h2=>?_
  rw [new]
  have:=b3 x hx ((hel x hx).2 ⟨h1,h2⟩)
  rw [hleft x hx,hleft b b1] at this
  omega
 ·simp only
  rw [wNL a b1]
  have hx2:=hleft b b1
  by_cases e:x=b
  ·have hm:man f b <= f.length:=wFk
   rw [if_pos e,hx2,wAS (by omega) (by omega),e]
   simp only [cnt,new,if_true,oc]
   omega
  ·rw [if_neg e,hleft x hx]
   simp only [cnt,new,if_neg (Ne.symm e),oc,Nat.add_zero]
 ·simp only
  rw [wHq]
  by_cases e:x=b
  ·rw [if_pos (by omega)]
   exact .inr ⟨t,by omega,rfl,by rw [new,e],fun q hq _=>by omega⟩
  ·rw [if_neg (by omega)]
   rcases hlast x hx with ⟨i1,i2⟩ | ⟨r,r1,r2,r3,r4⟩
   ·refine .inl ⟨i1,fun r hr=>?_⟩
    by_cases er:r=t
    ·rw [er,new];exact Ne.symm e
    ·rw [old r (by omega)];exact i2 r (by omega)
   ·refine .inr ⟨r,by omega,r2,by rw [old r r1];exact r3,fun q hq eq=>?_⟩
    by_cases er:q=t
    ·rw [er,new] at eq;exact absurd eq.symm e
    ·rw [old q (by omega)] at eq;exact r4 q (by omega) eq
theorem wNP {f:List wAA} (G:wCE f) {d:Nat} (hd:1 <= d) (h0:∀ u,0 < lv 31 (man f) (man f) 0 u->lv 31 (man f) (man f) 0 u + u * d <= f.length) {a:Arr Int 31} (ha:∀ x,x < 31->a.get x=((man f x:Nat):Int)) {r:List Int} (R:Rk f r) :
  ∃ l a' sk o,wBg 0 (↑f.length:Int) (gRd f (d:Int)) (([]:List (Int × Int)),a,r,[])=some (l,a',sk,o)/\o.Perm (wCj f.length)/\Gap (pn f o) d f.length:=by
 have hf:=G.l2
 obtain ⟨⟨l,a',sk,o⟩,e,I⟩:=wDB (SI f d) (by omega) (s0:=(([]:List (Int × Int)),a,r,([]:List Int))) ⟨rfl,by simpa using R.perm,Gr.zero,fun x hx=>by simp only [cnt];rw [ha x hx];omega,fun x hx=>.inl ⟨rfl,fun r hr=>by omega⟩⟩ fun t s ht I=>wRR G hd h0 ht I
 have hperm:=I.perm
 have hlen:=I.len
 have hgr:=I.gr
 simp only at hperm hlen hgr
 have:sk=[]:=by
  have h:=hperm.length_eq
  rw [nM,hlen,show (wCj f.length).length=f.length by simp [wCj]] at h
  exact nH.1 (by omega)
 rw [this,nS] at hperm
 exact ⟨l,a',sk,o,e,hperm,hgr.gap⟩
end Go.Proofs.YtghaibkggdecnaaGreat
namespace Go.Proofs.YtghaibkggdecnaaGreat
open Go.KL
theorem wOK (n:Nat):(wCj n).length=n:=by simp [wCj]
theorem wNQ {f:Nat->Nat} {x:Nat}:∀ {C:Nat},x < C->f x <= sm f C
 | 0,h=>by omega
 | C + 1,h=>by
  simp only [sm]
  by_cases e:x=C
  ·rw [e];omega
  ·have:=wNQ (f:=f) (x:=x) (C:=C) (by omega)
   omega
theorem wHG (f:List wAA) (x:Nat):man f x <= f.length:=wFk
structure Grt (f:List wAA) (a:Arr Int 31) (m:Nat):Prop where
 cnt:wAx f=some a
 get:∀ x,x < 31->a.get x=((man f x:Nat):Int)
 grt:wAT a=some (wFl a m 31,(m:Int))
 hit:∃ x,x < 31/\man f x=m
 top:∀ x,x < 31->man f x <= m
 m1:1 <= m
 len:(wFl a m 31).length=nb 31 (man f) m
theorem wRS {f:List wAA} (G:wCE f):∃ a m,Grt f a m:=by
 have h1:=G.l1
 obtain ⟨a,e,ha⟩:=wHF G
 obtain ⟨M,e2,⟨x,hx,ex⟩,ht⟩:=wJe a
 rw [ha x hx] at ex
 subst ex
 have top:∀ y,y < 31->man f y <= man f x:=fun y hy=>by
  have:=ht y hy
  rw [ha y hy] at this
  omega
 refine ⟨a,man f x,e,ha,e2,⟨x,hx,rfl⟩,top,?_,?_⟩
 ·have h:=wKR (f:=man f) (C:=31) (by rw [wDt G];omega)
  obtain ⟨y,hy,h⟩:=h
  have:=top y hy
  omega
 ·rw [wOJ]
  refine wCF fun y hy=>?_
  have:=top y hy
  have:=ha y hy
  by_cases c:man f x <= man f y
  ·rw [if_pos (by omega),if_pos c]
  ·rw [if_neg (by omega),if_neg c]
def dd (f:List wAA) (m:Nat):Nat:=if 2 <= m then (f.length - nb 31 (man f) m) / (m - 1) else f.length
theorem wPx {C m:Nat} {c:Nat->Nat} (h:1 <= m):nb C c m <= sm c C:=wLI fun x _=>by
 split <;> omega
structure DD (f:List wAA) (m d:Nat):Prop where
 sum:(m - 1) * d + nb 31 (man f) m <= f.length
 d1:1 <= d
 dn:d <= f.length
theorem wPy {f:List wAA} (G:wCE f) {m:Nat} (hit:∃ x,x < 31/\man f x=m) (top:∀ x,x < 31->man f x <= m) (m1:1 <= m):DD f m (dd f m):=by
 have h1:=G.l1
 have hb:=wPx (C:=31) (c:=man f) m1
 rw [wDt G] at hb
 unfold dd
 by_cases h2:2 <= m
 ·rw [if_pos h2]
  obtain ⟨x,hx,ex⟩:=hit
  have hk:1 <= nb 31 (man f) m:=by
   have:=wNQ (f:=fun x=>if m <= man f x then 1 else 0) hx
   simp only [ex,nE,if_true] at this
   exact this
  have eg:gl 31 (man f) m=f.length:=by
   rw [<- wDt G]
   exact wCF fun y hy=>by have:=top y hy;omega
  have e2:=wHp (C:=31) (c:=man f) (m - 1)
  rw [Nat.sub_add_cancel m1,eg] at e2
  have hu:=wPr (C:=31) (c:=man f) (d:=nb 31 (man f) m) (m - 1) (fun i hi=>wNI (by omega))
  have hq:nb 31 (man f) m <= (f.length - nb 31 (man f) m) / (m - 1):=(nO (by omega)).2 (by rw [nk];omega)
  have hm:=Nat.mul_div_le (f.length - nb 31 (man f) m) (m - 1)
  refine ⟨by omega,by omega,?_⟩
  have:=na (f.length - nb 31 (man f) m) (m - 1)
  omega
 ·rw [if_neg h2]
  have:m - 1=0:=by omega
  exact ⟨by rw [this];omega,by omega,by omega⟩
theorem wHu {a b:Nat} (ha:a <= 1000) (hb:0 < b):quo (a:Int) (b:Int)=some ((a / b:Nat):Int):=by
 unfold quo
 rw [if_neg (by omega)]
 have e:(a:Int).tdiv (b:Int)=((a / b:Nat):Int):=rfl
 rw [e]
 have:=na a b
 generalize a / b=q at this ⊢
 rw [wAS (by omega) (by omega)]
theorem wNR {f:List wAA} (G:wCE f) {a:Arr Int 31} {m:Nat} (T:Grt f a m):∃ o,wBp f=some (o,((dd f m:Nat):Int),0)/\o.Perm (wCj f.length)/\Gap (pn f o) (dd f m) f.length:=by
 have h2:=G.l2
 have D:=wPy G T.hit T.top T.m1
 have h0:=wOG (p:=man f) T.m1 T.top (wDt G) D.sum
 obtain ⟨r,er,R⟩:=wNK G
 obtain ⟨l,a',sk,o,e,hp,hg⟩:=wNP G D.d1 h0 T.get R
 have hx:m <= f.length:=by obtain ⟨x,_,ex⟩:=T.hit;rw [<- ex];exact wHG f x
 have hb:=wPx (C:=31) (c:=man f) T.m1
 rw [wDt G] at hb
 rw [wFC,wFB G,nA,if_pos rfl,T.cnt,nA,T.grt,nA]
 simp only
 by_cases c:2 <= m
 ·have ed:dd f m=(f.length - nb 31 (man f) m) / (m - 1):=if_pos c
  rw [if_pos (by omega),T.len,wAS (by omega) (by omega),wAS (by omega) (by omega)]
  rw [show (f.length:Int) - (nb 31 (man f) m:Int)=((f.length - nb 31 (man f) m:Nat):Int) by omega,show (m:Int) - 1=((m - 1:Nat):Int) by omega,wHu (by omega) (by omega),nA,er,nA,<- ed,e,nA]
  exact ⟨o,rfl,hp,hg⟩
 ·have ed:dd f m=f.length:=if_neg c
  rw [if_neg (by omega),er,nA]
  rw [ed] at e hg ⊢
  rw [e,nA]
  exact ⟨o,rfl,hp,hg⟩
theorem wOL {f:List wAA} (G:wCE f) {a:Arr Int 31} {m:Nat} (T:Grt f a m):wBk f=some (if m < 2 then ([],6) else (wFl a m 31,0)):=by
 unfold wBk
 rw [wFB G,nA,if_pos rfl,T.cnt,nA,T.grt,nA]
 simp only
 by_cases c:m < 2
 ·rw [if_pos (by omega),if_pos c]
 ·rw [if_neg (by omega),if_neg c]
def wNS (f:List wAA) (o:List Int):Int:=if wIf f=0 then (if o.length=f.length then (if o.all (fun x=>decide (0 <= x) && decide (x <= (f.length:Int) - 1))=true then (if o.Nodup then 0 else 5) else 1) else 2) else wIf f
theorem wDz {f:List wAA} {o:List Int} (hf:f.length <= 1000) (ho:o.length <= 1000):wBV f o=some (wNS f o):=by
 have ea:wAu o (fun x=>wBD x f)=some (o.all fun x=>decide (0 <= x) && decide (x <= (f.length:Int) - 1)):=by
  unfold wAu
  rw [wKP (p:=fun x=>decide (0 <= x) && decide (x <= (f.length:Int) - 1)) (z:=false) (fun x _=>by
   unfold wBD
   rw [wAS (by omega) (by omega)]
   simp only [wNJ,nA]
   split <;> rfl) (by omega)]
  cases o.all fun x=>decide (0 <= x) && decide (x <= (f.length:Int) - 1) <;> rfl
 unfold wBV wNS
 rw [wFA hf,nA]
 by_cases h1:wIf f=0
 ·rw [if_pos h1,if_pos h1]
  by_cases h2:o.length=f.length
  ·rw [if_pos (by omega),if_pos h2,ea,nA]
   by_cases h3:(o.all fun x=>decide (0 <= x) && decide (x <= (f.length:Int) - 1))=true
   ·rw [if_pos h3,if_pos h3,wHr ho,nA]
    by_cases h4:o.Nodup
    ·simp [h4]
    ·simp [h4]
   ·rw [if_neg h3,if_neg h3]
  ·rw [if_neg (by omega),if_neg h2]
 ·rw [if_neg h1,if_neg h1]
theorem wDS {n:Nat} {o:List Int} (h:o.Perm (wCj n)):o.length=n/\(∀ i ∈ o,0 <= i/\i < (n:Int))/\o.Nodup :=
 ⟨by rw [h.length_eq,wOK],fun i hi=>wCS _ (h.mem_iff.1 hi),h.nodup_iff.2 (nD.2 ((wJd n).imp fun h=>by omega))⟩
theorem wIh {f:List wAA} (G:wCE f) {o:List Int} (h:o.Perm (wCj f.length)):wNS f o=0:=by
 obtain ⟨h1,h2,h3⟩:=wDS h
 unfold wNS
 rw [if_pos (wCi.2 G),if_pos h1,if_pos (nK.2 fun x hx=>by
  have:=h2 x hx
  simp
  omega),if_pos h3]
structure IsA (p:Nat->Nat) (n A:Nat):Prop where
 le:A <= n
 gap:Gap p A n
 hit:A=n \/ ∃ t r,t < n/\r < t/\p r=p t/\t - r=A
theorem wNT {p:Nat->Nat} {n A B:Nat} (h:IsA p n A) (k:IsA p n B):A=B:=by
 have key:∀ {A B:Nat},IsA p n A->IsA p n B->A <= B:=fun {A B} h k=>by
  rcases k.hit with e | ⟨t,r,h1,h2,h3,h4⟩
  ·rw [e];exact h.le
  ·rw [<- h4];exact h.gap t h1 r h2 h3
 have:=key h k
 have:=key k h
 omega
def Last (p:Nat->Nat) (t:Nat) (l:List (Int × Int)):Prop :=
 ∀ x:Nat,x < 31->(wFX l (x:Int)=none/\∀ r,r < t->p r ≠ x) \/ ∃ r,r < t/\wFX l (x:Int)=some (r:Int)/\p r=x/\∀ q,q < t->p q=x->q <= r
theorem Last.put {p:Nat->Nat} {t:Nat} {l:List (Int × Int)} (I:Last p t l):Last p (t + 1) (mput l ((p t:Nat):Int) (t:Int)):=by
 intro x hx
 rw [wHq]
 by_cases e:x=p t
 ·rw [if_pos (by omega)]
  exact .inr ⟨t,by omega,rfl,e.symm,fun q hq _=>by omega⟩
 ·rw [if_neg (by omega)]
  rcases I x hx with ⟨i1,i2⟩ | ⟨r,r1,r2,r3,r4⟩
  ·refine .inl ⟨i1,fun r hr=>?_⟩
   by_cases er:r=t
   ·rw [er];exact Ne.symm e
   ·exact i2 r (by omega)
  ·refine .inr ⟨r,by omega,r2,r3,fun q hq eq=>?_⟩
   by_cases er:q=t
   ·rw [er] at eq;exact absurd eq.symm e
   ·exact r4 q (by omega) eq
theorem wHH {f:List wAA} (G:wCE f) {o:List Int} (hl:o.length=f.length) (hin:∀ i ∈ o,0 <= i/\i < (f.length:Int)) (ho:wBV f o=some 0) :
  ∃ A:Nat,wBa f o=some ((A:Int),0)/\IsA (pn f o) f.length A:=by
 have h2:=G.l2
 unfold wBa
 rw [ho,nA,if_pos rfl,hl]
 obtain ⟨⟨l,x⟩,e,A,rfl,ia,ig,ih,_⟩:=wDB (n:=f.length) (s0:=(([]:List (Int × Int)),(f.length:Int))) (body:=fun (k36:Nat) (x:List (Int × Int) × Int)=>match x with
  | (l32,x35) =>
   (idx o (↑k36:Int)).bind fun x61 =>
   (idx f x61).bind fun x70 =>
   if (wFu l32 x70.Nation)=true then
    some ((mput l32 x70.Nation (↑k36:Int)),min x35 (w64 ((↑k36:Int) - (wCK l32 x70.Nation 0))))
   else
    some ((mput l32 x70.Nation (↑k36:Int)),x35)) (fun t s=>∃ A:Nat,s.2=(A:Int)/\A <= f.length/\Gap (pn f o) A t/\(A=f.length \/ ∃ t' r,t' < t/\r < t'/\pn f o r=pn f o t'/\t' - r=A)/\Last (pn f o) t s.1) (by omega)
   ⟨f.length,rfl,nE _,fun _ h=>by omega,.inl rfl,fun x _=>.inl ⟨rfl,fun r hr=>by omega⟩⟩ (by
   rintro t ⟨l,x⟩ ht ⟨A,rfl,ia,ig,ih,il⟩
   have hk:t < o.length:=by omega
   have hi:=hin _ (wBl hk)
   have hc:=wNM G (i:=(gd o t).toNat) (by omega)
   have hc2:=wKW G (i:=(gd o t).toNat) (by omega)
   have hc3:(gd f (gd o t).toNat).Nation=((pn f o t:Nat):Int):=hc.symm
   have hc4:pn f o t < 31:=hc2
   simp only at il ⊢
   rw [wBZ hk,nA,show idx f (gd o t)=idx f (((gd o t).toNat:Nat):Int) by rw [Int.toNat_of_nonneg hi.1],wBZ (by omega),nA,hc3]
   rcases il _ hc4 with ⟨i1,i2⟩ | ⟨r,r1,r2,r3,r4⟩
   ·rw [if_neg (by rw [wFu,i1];decide)]
    refine ⟨_,rfl,A,rfl,ia,fun s hs r hr er=>?_,?_,il.put⟩
    ·by_cases es:s=t
     ·rw [es] at er hr;exact absurd er (i2 r hr)
     ·exact ig s (by omega) r hr er
    ·rcases ih with h | ⟨t',r,a1,a2,a3,a4⟩
     ·exact .inl h
     ·exact .inr ⟨t',r,by omega,a2,a3,a4⟩
   ·rw [if_pos (by rw [wFu,r2];rfl),wCK,r2,nY,wAS (by omega) (by omega)]
    refine ⟨_,rfl,min A (t - r),by simp only;omega,by omega,fun s hs q hq eq=>?_,?_,il.put⟩
    ·by_cases es:s=t
     ·rw [es] at eq hq ⊢
      have:=r4 q hq eq
      omega
     ·have:=ig s (by omega) q hq eq
      omega
    ·by_cases c:A <= t - r
     ·rw [Nat.min_eq_left c]
      rcases ih with h | ⟨t',r,a1,a2,a3,a4⟩
      ·exact .inl h
      ·exact .inr ⟨t',r,by omega,a2,a3,a4⟩
     ·rw [Nat.min_eq_right (by omega)]
      exact .inr ⟨t,r,by omega,r1,r3,rfl⟩)
 rw [e,nA]
 exact ⟨A,rfl,ia,ig,ih⟩
theorem wOM {f:List wAA} (G:wCE f) {o:List Int} (h:o.Perm (wCj f.length)):∃ A:Nat,wBa f o=some ((A:Int),0)/\IsA (pn f o) f.length A:=by
 obtain ⟨h1,h2,_⟩:=wDS h
 have:=G.l2
 exact wHH G h1 h2 (by rw [wDz (by omega) (by omega),wIh G h])
theorem wKZ {f:List wAA} (G:wCE f) {m:Nat} (hit:∃ x,x < 31/\man f x=m) {o:List Int} (h:o.Perm (wCj f.length)) {A:Nat} (I:IsA (pn f o) f.length A):A <= dd f m:=by
 unfold dd
 by_cases c:2 <= m
 ·rw [if_pos c]
  obtain ⟨x,hx,ex⟩:=hit
  have hk:1 <= nb 31 (man f) m:=by
   have:=wNQ (f:=fun x=>if m <= man f x then 1 else 0) hx
   simp only [ex,nE,if_true] at this
   exact this
  have e:nb 31 (man f) m=sm (fun x=>if decide (m <= man f x)=true then 1 else 0) 31:=wCF fun y _=>by simp
  have:=ub (C:=31) (j:=m - 1) I.gap (wRO G h) (fun x=>decide (m <= man f x)) (fun x _ hx=>by
   rw [wOn h]
   have:=of_decide_eq_true hx
   omega) (by rw [<- e];omega)
  rw [<- e] at this
  refine (nO (by omega)).2 ?_
  rw [nk]
  omega
 ·rw [if_neg c]
  exact I.le
theorem wHI {f:List wAA} (G:wCE f) {m:Nat} (hit:∃ x,x < 31/\man f x=m) {o:List Int} (h:o.Perm (wCj f.length)) {A:Nat} (I:IsA (pn f o) f.length A) (hg:Gap (pn f o) (dd f m) f.length) (hd:dd f m <= f.length):A=dd f m:=by
 have h1:=wKZ G hit h I
 rcases I.hit with e | ⟨t,r,h3,h4,h5,h6⟩
 ·omega
 ·have:=hg t h3 r h4 h5
  omega
theorem wHv {l:List Int} {C:Nat}:∀ {l:List Int},l.Nodup->(∀ y ∈ l,∃ k:Nat,k < C/\y=k)->sm (fun x=>if decide ((x:Int) ∈ l)=true then 1 else 0) C=l.length
 | [],_,_=>wHn fun x _=>by simp
 | y :: l,nd,h=>by
  obtain ⟨k,hk,rfl⟩:=h y (by simp)
  obtain ⟨n1,n2⟩:=List.nodup_cons.1 nd
  rw [wHo (g:=fun x:Nat=>if decide ((x:Int) ∈ l)=true then 1 else 0) hk (by simp [n1]) (fun x hx=>by
   have:(x:Int) ≠ k:=by omega
   simp [this]),wHv (l:=l) (C:=C) n2 (fun y hy=>h y (by simp [hy])),List.length_cons]
def wQM (f:List wAA) (l:List Int):Prop:=∀ y ∈ l,∃ k:Nat,k < 31/\y=k/\2 <= man f k
theorem wFD {f:List wAA} (G:wCE f) {l:List Int} (h1:1 <= l.length) (hl:l.length <= 1000) (inc:l.Pairwise (· < ·)) :
    (wQM f l/\∃ w:Nat,2 <= w/\(∃ k:Nat,(k:Int) ∈ l/\man f k=w)/\(∀ k:Nat,(k:Int) ∈ l->w <= man f k)/\l.length <= f.length/\wAj f l=some ((((f.length - l.length) / (w - 1):Nat):Int),0)) \/
    (¬ wQM f l/\wAj f l=some (0,6)):=by
  have hf:=G.l2
  obtain ⟨a,ea,ga⟩:=wHF G
  have e1:wEJ 1 (↑l.length:Int) (fun k17 (_:Unit) =>
        (idx l (1 + ↑k17:Int)).bind fun x38 =>
        (idx l (w64 ((1 + ↑k17:Int) - 1))).bind fun x47 =>
        if x38 <= x47 then
          (esc (some ((0,4):Int × Int)))
        else
          some (.inl ())) ()=some (.inl ()):=by
    rw [wEJ,if_pos (by omega)]
    refine wKQ (fun _=>()) _ 0 fun i _ hi=>?_
    have hi2:1 + i < l.length:=by omega
    rw [show (1:Int) + (i:Int) - 1=(i:Int) by omega,wAS (by omega) (by omega),show (1:Int) + (i:Int)=((1 + i:Nat):Int) by omega,wBZ hi2,nA,wBZ (by omega),nA]
    have:=nG.1 inc i (1 + i) (by omega) hi2 (by omega)
    rw [<- wEc,<- wEc] at this
    rw [if_neg (by omega)]
  unfold wAj
  rw [wFB G,nA,if_pos rfl,if_neg (by omega),e1]
  simp only [jn]
  rw [ea,nA,wDA (by omega)]
  rcases wFj (body:=fun (k97:Nat) (x96:Int) =>
        (idx l (↑k97:Int)).bind fun x120 =>
        (wBo x120 0 30).bind fun x131 =>
        if x131=true then
          (chk x120 31).bind fun _ =>
          if (a.get x120.toNat) < 2 then
            (esc (some ((0,6):Int × Int)))
          else
            some (.inl (min x96 (a.get x120.toNat)))
        else
          esc (some (0,6))) (fun k s=>∃ w:Nat,s=(w:Int)/\2 <= w/\w <= 60/\(∀ j,j < k->∃ q:Nat,q < 31/\gd l j=q/\2 <= man f q/\w <= man f q)/\(w=60 \/ ∃ j q,j < k/\gd l j=((q:Nat):Int)/\man f q=w)) (fun b=>b=((0,6):Int × Int)/\¬ wQM f l) l.length 0 60 ⟨60,rfl,by omega,by omega,fun j hj=>by omega,.inl rfl⟩ (by
        rintro k s _ hk ⟨w,rfl,w2,w60,i1,i2⟩
        have hk':k < l.length:=by omega
        rw [wBZ hk',nA,wNJ,nA]
        by_cases c:0 <= gd l k/\gd l k <= 30
        · rw [if_pos (by simp [c]),wGr (by omega) (by omega),nA]
          obtain ⟨q,eq⟩:=nJ c.1
          have hq:=ga q (by omega)
          rw [eq,show ((q:Int)).toNat=q by omega,hq]
          have hm:=wHG f q
          by_cases c2:((man f q:Nat):Int) < 2
          · rw [if_pos c2]
            refine .inr ⟨_,rfl,rfl,fun h=>?_⟩
            obtain ⟨k',_,e',h'⟩:=h _ (wBl hk')
            have:k'=q:=by omega
            subst this
            omega
          · rw [if_neg c2]
            refine .inl ⟨_,rfl,min w (man f q),by omega,by omega,by omega,fun j hj=>?_,?_⟩
            · by_cases ej:j=k
              · exact ⟨q,by omega,by rw [ej,eq],by omega,by omega⟩
              · obtain ⟨q',h1,h2,h3,h4⟩:=i1 j (by omega)
                exact ⟨q',h1,h2,h3,by omega⟩
            · by_cases cm:w <= man f q
              · rw [Nat.min_eq_left cm]
                rcases i2 with h | ⟨j,q',h1,h2,h3⟩
                · exact .inl h
                · exact .inr ⟨j,q',by omega,h2,h3⟩
              · rw [Nat.min_eq_right (by omega)]
                exact .inr ⟨k,q,by omega,eq,rfl⟩
        · rw [if_neg (by simp;omega)]
          refine .inr ⟨_,rfl,rfl,fun h=>?_⟩
          obtain ⟨k',h',e',_⟩:=h _ (wBl hk')
          omega) with ⟨s,e2,w,rfl,w2,w60,i1,i2⟩ | ⟨b,e2,rfl,hb⟩
  · rw [nL] at i1 i2
    left
    rw [e2]
    have ok:wQM f l:=fun y hy=>by
      obtain ⟨j,hj,ej⟩:=wHE hy
      obtain ⟨q,h1,h2,h3,_⟩:=i1 j hj
      exact ⟨q,h1,by rw [<- ej,h2],h3⟩
    have hlen:l.length <= f.length:=by
      rw [<- wHv (l:=l) (C:=31) (nD.2 (inc.imp fun h=>by omega)) (fun y hy=>by obtain ⟨k,a1,a2,_⟩:=ok y hy;exact ⟨k,a1,a2⟩),<- wDt G]
      refine wLI fun x hx=>?_
      by_cases c:(x:Int) ∈ l
      · obtain ⟨k,_,e,h⟩:=ok _ c
        have:k=x:=by omega
        subst this
        simp [c]
        omega
      · simp [c]
    refine ⟨ok,w,w2,?_,fun k hk=>?_,hlen,?_⟩
    · rcases i2 with h | ⟨j,q,h1,h2,h3⟩
      · obtain ⟨q,a1,a2,a3,a4⟩:=i1 0 (by omega)
        have:=wHG f q
        exact ⟨q,by rw [<- a2];exact wBl (by omega),by omega⟩
      · exact ⟨q,by rw [<- h2];exact wBl (by omega),h3⟩
    · obtain ⟨j,hj,ej⟩:=wHE hk
      obtain ⟨q,a1,a2,a3,a4⟩:=i1 j hj
      have:q=k:=by omega
      subst this
      exact a4
    · simp only
      rw [wAS (by omega) (by omega),wAS (by omega) (by omega),show (f.length:Int) - (l.length:Int)=((f.length - l.length:Nat):Int) by omega,show (w:Int) - 1=((w - 1:Nat):Int) by omega,wHu (by omega) (by omega)]
      rfl
  · right
    rw [e2]
    exact ⟨hb,rfl⟩
theorem wGa {f:List wAA} (G:wCE f):wAj f []=some (0,2):=by
 unfold wAj
 rw [wFB G,nA,if_pos rfl]
 rfl
theorem wJf {f:List wAA} (G:wCE f) {a:Arr Int 31} {m:Nat} (T:Grt f a m) (h2:2 <= m):wAj f (wFl a m 31)=some (((dd f m:Nat):Int),0):=by
 obtain ⟨x,hx,ex⟩:=T.hit
 have mem:∀ y ∈ wFl a m 31,∃ k:Nat,k < 31/\y=k/\man f k=m:=fun y hy=>by
  obtain ⟨k,k1,k2,k3⟩:=wKY.1 hy
  rw [T.get k k1] at k2
  exact ⟨k,k1,k3,by omega⟩
 have hx2:(x:Int) ∈ wFl a m 31:=wKY.2 ⟨x,hx,by rw [T.get x hx,ex],rfl⟩
 have hb:(wFl a m 31).length <= 31:=by
  unfold wFl
  rw [nB]
  have:=ng (fun x=>decide (a.get x=m)) (nP 31)
  rwa [nt] at this
 rcases wFD G (l:=wFl a m 31) (List.length_pos_of_mem hx2) (by omega) wPt with ⟨_,w,w2,⟨k,k1,k2⟩,_,_,e⟩ | ⟨hn,_⟩
 ·obtain ⟨k',_,a2,a3⟩:=mem _ k1
  have:k'=k:=by omega
  subst this
  have:w=m:=by omega
  subst this
  rw [e,T.len]
  unfold dd
  rw [if_pos h2]
 ·exact absurd (fun y hy=>by obtain ⟨k,a1,a2,a3⟩:=mem y hy;exact ⟨k,a1,a2,by omega⟩) hn
end Go.Proofs.YtghaibkggdecnaaGreat
namespace Go.Proofs.YtghaibkggdecnaaGreat
open Go.KL
theorem wKa (x a b:Int):wAi x a b=some (decide (x < a) || decide (b < x)):=by
 unfold wAi
 by_cases h:x < a <;> simp [h]
theorem wIi {l:List Int} (hl:l.length <= 1000):wAl l=some (!decide l.Nodup):=by
 unfold wAl
 have hd:wKT (fun i=>wKT (fun j=>!decide (gd l i=gd l j)) i 0) l.length 0=decide l.Nodup:=by
  rw [nZ,wDH,decide_eq_true_iff]
  have:=wGZ (l:=l) (p:=id)
  rw [List.map_id] at this
  rw [this]
  constructor
  ·intro h i hi j hj
   have:=(wDH _ _ _).1 (h i (by omega) (by omega)) j (by omega) (by omega)
   simpa using this
  ·intro h i _ hi
   exact (wDH _ _ _).2 fun j _ hj=>by simpa using h i (by omega) j (by omega)
 rw [wDy (fun i=>wKT (fun j=>!decide (gd l i=gd l j)) i 0) true (by omega) (fun i hi=>by
  rw [wDy (fun j=>!decide (gd l i=gd l j)) (.inr true) (by omega) (fun j hj=>by
   rw [wBZ hi,nA,wBZ (by omega),nA]
   by_cases e:gd l i=gd l j
   ·rw [if_pos e];simp [e]
   ·rw [if_neg e];simp [e])]
  split <;> rfl),hd]
 by_cases h:l.Nodup
 ·simp [h]
 ·simp [h]
end Go.Proofs.YtghaibkggdecnaaGreat
namespace Go.Proofs.YtghaibkggdecnaaGreat
open Go.KL
def toS (s:wAA):wAD:=⟨s.Bib,s.Nation,s.Rank⟩
theorem wON {f:List wAA} (hl:f.length <= 1000):wBM f=some (f.map toS):=by
 unfold wBM
 rw [wHk (bytes:=24) (f:=toS) (fun a _ r=>by rw [wHm];rfl) (by omega) (by omega)]
 rfl
theorem wHJ {f:List wAA} {k:Nat} (h:k < f.length):idx (f.map toS) (k:Int)=some (toS (gd f k)):=by
 rw [wBZ (by simpa using h),wPq _ h]
def dfr (f:List wAA) (i j:Nat):Bool:=!decide ((gd f i).Bib=(gd f j).Bib) && !decide ((gd f i).Rank=(gd f j).Rank)
theorem wPz {f:List wAA}:wKT (fun i=>wKT (dfr f i) i 0) f.length 0=decide ((f.map (·.Bib)).Nodup/\(f.map (·.Rank)).Nodup):=by
 rw [nZ,wDH,decide_eq_true_iff,wGZ,wGZ]
 have hd:∀ i j,dfr f i j=true ↔ (gd f i).Bib ≠ (gd f j).Bib/\(gd f i).Rank ≠ (gd f j).Rank:=fun i j=>by unfold dfr;simp
 constructor
 ·intro h
  have h2:=fun i (hi:i < f.length) j (hj:j < i)=>(hd i j).1 ((wDH _ _ _).1 (h i (by omega) (by omega)) j (by omega) (by omega))
  exact ⟨fun i hi j hj=>(h2 i hi j hj).1,fun i hi j hj=>(h2 i hi j hj).2⟩
 ·intro h i _ hi
  exact (wDH _ _ _).2 fun j _ hj=>(hd i j).2 ⟨h.1 i (by omega) j (by omega),h.2 i (by omega) j (by omega)⟩
theorem wDT {f:List wAA} (hl:f.length <= 1000):wAo (f.map toS)=some (wIf f):=by
 unfold wAo wIf
 rw [nB]
 by_cases h0:f.length=0
 ·rw [if_pos (by omega),if_neg (by omega)]
 rw [if_neg (by omega)]
 by_cases h60:60 < f.length
 ·rw [if_pos (by omega),if_neg (by omega)]
 rw [if_neg (by omega),if_pos (show 1 <= f.length/\f.length <= 60 by omega)]
 rw [wDy (fun i=>okF (gd f i)) 3 (by omega) (fun i hi=>by
  rw [wHJ hi,nA,wKa,nA]
  simp only [wKa,nA,toS]
  have h:okF (gd f i)=true ↔ (1 <= (gd f i).Bib/\(gd f i).Bib <= 999)/\(0 <= (gd f i).Nation/\(gd f i).Nation <= 30)/\1 <= (gd f i).Rank/\(gd f i).Rank <= 9999:=by
   unfold okF okB okN okR
   simp
  generalize gd f i=s at h ⊢
  by_cases h1:(decide (s.Bib < 1) || decide (999 < s.Bib))=true
  ·refine (if_pos h1).trans ?_
   rw [if_neg (fun e=>by have:=h.1 e;simp at h1;omega)];rfl
  ·refine (if_neg h1).trans ?_
   by_cases h2:(decide (s.Nation < 0) || decide (30 < s.Nation))=true
   ·refine (if_pos h2).trans ?_
    rw [if_neg (fun e=>by have:=h.1 e;simp at h2;omega)];rfl
   ·refine (if_neg h2).trans ?_
    by_cases h3:(decide (s.Rank < 1) || decide (9999 < s.Rank))=true
    ·refine (if_pos h3).trans ?_
     rw [if_neg (fun e=>by have:=h.1 e;simp at h3;omega)];rfl
    ·refine (if_neg h3).trans ?_
     rw [if_pos (h.2 (by simp at h1 h2 h3;omega))])]
 rw [wKV]
 by_cases ha:wKT (fun k=>okF (gd f k)) f.length 0=true
 ·rw [if_pos ha,if_pos ha,wFs]
  rw [wDy (fun i=>wKT (dfr f i) i 0) 5 (by omega) (fun i hi=>by
   rw [wDy (dfr f i) (.inr 5) (by omega) (fun j hj=>by
    rw [wHJ hi,nA,wHJ (by omega),nA]
    unfold dfr
    by_cases e:(gd f i).Bib=(gd f j).Bib
    ·rw [if_pos (show (toS (gd f i)).Bib=(toS (gd f j)).Bib from e)];simp [e]
    ·rw [if_neg (show ¬ (toS (gd f i)).Bib=(toS (gd f j)).Bib from e)]
     by_cases e2:(gd f i).Rank=(gd f j).Rank
     ·rw [if_pos (show (toS (gd f i)).Rank=(toS (gd f j)).Rank from e2)];simp [e2]
     ·rw [if_neg (show ¬ (toS (gd f i)).Rank=(toS (gd f j)).Rank from e2)];simp [e,e2])]
   split <;> rfl),wPz]
  by_cases hd:(f.map (·.Bib)).Nodup/\(f.map (·.Rank)).Nodup
  ·rw [if_pos (by simpa using hd),if_pos hd];rfl
  ·rw [if_neg (by simpa using hd),if_neg hd];rfl
 ·rw [if_neg ha,if_neg ha];rfl
end Go.Proofs.YtghaibkggdecnaaGreat
namespace Go.Proofs.YtghaibkggdecnaaGreat
open Go.KL
theorem wFn {f:List wAA} {o:List Int} (hf:f.length <= 1000) (ho:o.length <= 1000):wAp (f.map toS) o=some (wNS f o):=by
 unfold wAp wNS
 rw [wDT hf,nA,nB]
 by_cases h1:wIf f=0
 ·rw [if_pos h1,if_pos h1]
  by_cases h2:o.length=f.length
  ·rw [if_pos (by omega),if_pos h2,wDy (fun k=>decide (0 <= gd o k) && decide (gd o k <= (f.length:Int) - 1)) 1 ho (fun i hi=>by
    rw [wBZ hi,nA,wKa,nA,wAS (by omega) (by omega)]
    by_cases c:0 <= gd o i/\gd o i <= (f.length:Int) - 1
    ·rw [if_neg (by simp;omega),if_pos (by simp;omega)]
    ·rw [if_pos (by simp;omega),if_neg (by simp;omega)]
     rfl),<- wKV (fun x=>decide (0 <= x) && decide (x <= (f.length:Int) - 1))]
   by_cases h3:(o.all fun x=>decide (0 <= x) && decide (x <= (f.length:Int) - 1))=true
   ·rw [if_pos h3,if_pos h3,wFs,wIi ho,nA]
    by_cases h4:o.Nodup
    ·simp [h4]
    ·simp [h4]
   ·rw [if_neg h3,if_neg h3]
    rfl
  ·rw [if_neg (by omega),if_neg h2]
 ·rw [if_neg h1,if_neg h1]
theorem wIj {f:List wAA} {o:List Int} (h:wNS f o=0):wCE f/\o.length=f.length/\(∀ i ∈ o,0 <= i/\i < (f.length:Int))/\o.Nodup:=by
 unfold wNS at h
 by_cases h1:wIf f=0
 ·rw [if_pos h1] at h
  by_cases h2:o.length=f.length
  ·rw [if_pos h2] at h
   by_cases h3:(o.all fun x=>decide (0 <= x) && decide (x <= (f.length:Int) - 1))=true
   ·rw [if_pos h3] at h
    by_cases h4:o.Nodup
    ·refine ⟨wCi.1 h1,h2,fun i hi=>?_,h4⟩
     have:=nK.1 h3 i hi
     simp at this
     omega
    ·rw [if_neg h4] at h;omega
   ·rw [if_neg h3] at h;omega
  ·rw [if_neg h2] at h;omega
 ·rw [if_neg h1] at h;omega
theorem wEG {f:List wAA} (G:wCE f) {o:List Int} (hl:o.length=f.length) (hin:∀ i ∈ o,0 <= i/\i < (f.length:Int)) (ho:wAp (f.map toS) o=some 0) :
  ∃ A:Nat,wAQ (f.map toS) o=some ((A:Int),0)/\IsA (pn f o) f.length A:=by
 have h2:=G.l2
 unfold wAQ
 rw [ho,nA,if_pos rfl,nB,hl]
 have hget:∀ k,k < f.length->idx o (k:Int)=some (gd o k)/\idx (f.map toS) (gd o k)=some (toS (gd f (gd o k).toNat))/\(toS (gd f (gd o k).toNat)).Nation=((pn f o k:Nat):Int):=fun k hk=>by
  have hi:=hin _ (wBl (l:=o) (k:=k) (by omega))
  refine ⟨wBZ (by omega),?_,?_⟩
  ·rw [show gd o k=(((gd o k).toNat:Nat):Int) by omega,wHJ (by omega)]
   rfl
  ·exact (wNM G (i:=(gd o k).toNat) (by omega)).symm
 obtain ⟨x,e,A,rfl,ia,ig,ih⟩:=wDB (n:=f.length) (s0:=(f.length:Int)) (body:=fun (k19:Nat) (x18:Int) =>
   (wBg 0 (↑k19:Int) (fun k46 x45 =>
    (idx o (↑k19:Int)).bind fun x70 =>
    (idx (f.map toS) x70).bind fun x80 =>
    (idx o (↑k46:Int)).bind fun x90 =>
    (idx (f.map toS) x90).bind fun x97 =>
    if x80.Nation=x97.Nation then
     if (w64 ((↑k19:Int) - (↑k46:Int))) < x45 then
      some (w64 ((↑k19:Int) - (↑k46:Int)))
     else
      some x45
    else
     some x45) x18).bind fun y51 =>
   some y51) (fun t s=>∃ A:Nat,s=(A:Int)/\A <= f.length/\Gap (pn f o) A t/\(A=f.length \/ ∃ t' r,t' < t/\r < t'/\pn f o r=pn f o t'/\t' - r=A)) (by omega)
   ⟨f.length,rfl,nE _,fun _ h=>by omega,.inl rfl⟩ (by
   rintro t s ht ⟨A,rfl,ia,ig,ih⟩
   obtain ⟨g1,g2,g3⟩:=hget t ht
   obtain ⟨y,e,B,rfl,ib,ig2,ig3,ih2⟩:=wDB (n:=t) (s0:=(A:Int)) (body:=fun (k46:Nat) (x45:Int) =>
    (idx o (↑t:Int)).bind fun x70 =>
    (idx (f.map toS) x70).bind fun x80 =>
    (idx o (↑k46:Int)).bind fun x90 =>
    (idx (f.map toS) x90).bind fun x97 =>
    if x80.Nation=x97.Nation then
     if (w64 ((↑t:Int) - (↑k46:Int))) < x45 then
      some (w64 ((↑t:Int) - (↑k46:Int)))
     else
      some x45
    else
     some x45) (fun r s=>∃ B:Nat,s=(B:Int)/\B <= f.length/\Gap (pn f o) B t/\(∀ q,q < r->pn f o q=pn f o t->B <= t - q)/\(B=f.length \/ ∃ t' r,t' < t + 1/\r < t'/\pn f o r=pn f o t'/\t' - r=B)) (by omega)
    ⟨A,rfl,ia,ig,fun q hq=>by omega,by
     rcases ih with h | ⟨t',r,a1,a2,a3,a4⟩
     ·exact .inl h
     ·exact .inr ⟨t',r,by omega,a2,a3,a4⟩⟩ (by
     rintro r s hr ⟨B,rfl,b1,b2,b3,b4⟩
     obtain ⟨k1,k2,k3⟩:=hget r (by omega)
     rw [g1,nA,g2,nA,k1,nA,k2,nA,g3,k3,wAS (by omega) (by omega)]
     by_cases c:pn f o t=pn f o r
     ·rw [if_pos (by omega)]
      by_cases c2:(t:Int) - (r:Int) < (B:Int)
      ·rw [if_pos c2]
       refine ⟨_,rfl,t - r,by omega,by omega,fun s hs q hq eq=>?_,fun q hq eq=>?_,.inr ⟨t,r,by omega,hr,c.symm,rfl⟩⟩
       ·have:=b2 s hs q hq eq
        omega
       ·by_cases e:q=r
        ·rw [e];omega
        ·have:=b3 q (by omega) eq
         omega
      ·rw [if_neg c2]
       refine ⟨_,rfl,B,rfl,b1,b2,fun q hq eq=>?_,b4⟩
       by_cases e:q=r
       ·rw [e];omega
       ·exact b3 q (by omega) eq
     ·rw [if_neg (by omega)]
      refine ⟨_,rfl,B,rfl,b1,b2,fun q hq eq=>?_,b4⟩
      by_cases e:q=r
      ·rw [e] at eq;exact absurd eq.symm c
      ·exact b3 q (by omega) eq)
   rw [e,nA]
   refine ⟨_,rfl,B,rfl,ib,fun s hs q hq eq=>?_,ih2⟩
   by_cases es:s=t
   ·rw [es] at eq hq ⊢
    exact ig3 q hq eq
   ·exact ig2 s (by omega) q hq eq)
 rw [e,nA]
 exact ⟨A,rfl,ia,ig,ih⟩
theorem wKb {f:List wAA} (G:wCE f) {o:List Int} (h:o.Perm (wCj f.length)):∃ A:Nat,wAQ (f.map toS) o=some ((A:Int),0)/\IsA (pn f o) f.length A:=by
 obtain ⟨h1,h2,_⟩:=wDS h
 have:=G.l2
 exact wEG G h1 h2 (by rw [wFn (by omega) (by omega),wIh G h])
theorem wLK {f:List wAA} {o:List Int} (hf:f.length <= 1000) (ho:o.length <= 1000):∃ x,wBa f o=some x/\wAQ (f.map toS) o=some x:=by
 by_cases h:wNS f o=0
 ·obtain ⟨G,h1,h2,_⟩:=wIj h
  obtain ⟨A,e1,I1⟩:=wHH G h1 h2 (by rw [wDz hf ho,h])
  obtain ⟨B,e2,I2⟩:=wEG G h1 h2 (by rw [wFn hf ho,h])
  rw [wNT I1 I2] at e1
  exact ⟨_,e1,e2⟩
 ·refine ⟨(0,wNS f o),?_,?_⟩
  ·unfold wBa
   rw [wDz hf ho,nA,if_neg h]
  ·unfold wAQ
   rw [wFn hf ho,nA,if_neg h]
def toR (s:wAW):wAF:=⟨s.Bib,s.Time,s.Gate⟩
theorem wQA {l:List wAW} (hl:l.length <= 1000):wBW l=some (l.map toR):=by
 unfold wBW
 rw [wHk (bytes:=24) (f:=toR) (fun a _ r=>by rw [wHm];rfl) (by omega) (by omega)]
 rfl
theorem wRT (l:List wAF) (hl:l.length <= 1000):wAO l l=some true:=by
 unfold wAO
 exact wFO (by omega)
theorem wOO {l:List wAW} (hl:l.length <= 1000):wBN l (l.map toR)=some true:=by
 unfold wBN
 rw [wQA hl,nA,wRT _ (by simpa using hl)]
 rfl
def iv (f:List wAA) (o:List Int) (p:Int) (k:Nat):List wAW:=(nP k).map fun i=>⟨(gd f (gd o i).toNat).Bib,w64 ((i:Int) * p),0⟩
theorem wHw {f:List wAA} {o:List Int} (hf:f.length <= 1000) (ho:o.length <= 1000) (p:Int):∃ l e,wBm f o p=some (l,e)/\wAy (f.map toS) o p=some (l.map toR,e)/\l.length <= 1000:=by
 unfold wBm wAy
 rw [wDz hf ho,wFn hf ho,nA,nA,wNJ,wKa,nA,nA,nB]
 by_cases h:wNS f o=0
 ·obtain ⟨G,h1,h2,_⟩:=wIj h
  have hf:=G.l2
  rw [if_pos h,if_pos h]
  by_cases c:1 <= p/\p <= 360000
  ·have c3:¬ ((decide (p < 1) || decide (360000 < p))=true):=by simp;omega
   rw [if_pos (by simp [c]),if_neg c3]
   by_cases c2:360000 < w64 (p * w64 ((f.length:Int) - 1))
   ·rw [if_pos c2,if_pos c2]
    exact ⟨[],3,rfl,rfl,by simp⟩
   ·rw [if_neg c2,if_neg c2]
    have hs:∀ k,iv f o p (k + 1)=iv f o p k ++ [⟨(gd f (gd o k).toNat).Bib,w64 ((k:Int) * p),0⟩]:=fun k=>by
     unfold iv
     rw [nQ,nR]
     rfl
    have hlen:∀ k,(iv f o p k).length=k:=fun k=>by simp [iv]
    have hget:∀ k,k < f.length->idx o (k:Int)=some (gd o k)/\idx f (gd o k)=some (gd f (gd o k).toNat)/\idx (f.map toS) (gd o k)=some (toS (gd f (gd o k).toNat)):=fun k hk=>by
     have hi:=h2 _ (wBl (l:=o) (k:=k) (by omega))
     have e:gd o k=(((gd o k).toNat:Nat):Int):=by omega
     refine ⟨wBZ (by omega),?_,?_⟩
     ·rw [show idx f (gd o k)=idx f (((gd o k).toNat:Nat):Int) by rw [<- e],wBZ (by omega)]
     ·rw [show idx (f.map toS) (gd o k)=idx (f.map toS) (((gd o k).toNat:Nat):Int) by rw [<- e],wHJ (by omega)]
    have e1:wBg 0 (↑f.length:Int) (fun k47 l43 =>
     (idx o (↑k47:Int)).bind fun x72 =>
     (idx f x72).bind fun x82 =>
     (app 24 l43 [(⟨x82.Bib,w64 ((↑k47:Int) * p),0⟩:wAW)]).bind fun x97 =>
     some x97) []=some (iv f o p f.length):=wDs (iv f o p) rfl (by omega) (fun i hi=>by
     obtain ⟨g1,g2,_⟩:=hget i hi
     rw [g1,nA,g2,nA,wFV (by rw [hlen];simp;omega),nA,hs])
    have e2:wBg 0 (↑f.length:Int) (fun k50 l46 =>
     (idx o (↑k50:Int)).bind fun x74 =>
     (idx (f.map toS) x74).bind fun x84 =>
     (app 24 l46 [(⟨x84.Bib,w64 ((↑k50:Int) * p),0⟩:wAF)]).bind fun x99 =>
     some x99) []=some ((iv f o p f.length).map toR):=wDs (fun k=>(iv f o p k).map toR) rfl (by omega) (fun i hi=>by
     obtain ⟨g1,_,g2⟩:=hget i hi
     rw [g1,nA,g2,nA,wFV (by rw [nB,hlen];simp;omega),nA,hs,nR]
     rfl)
    rw [h1,e1,nA,e2,nA]
    exact ⟨_,_,rfl,rfl,by rw [hlen];omega⟩
  ·have c3:(decide (p < 1) || decide (360000 < p))=true:=by simp;omega
   rw [if_neg (by simp;omega),if_pos c3]
   exact ⟨[],3,rfl,rfl,by simp⟩
 ·rw [if_neg h,if_neg h]
  exact ⟨[],_,rfl,rfl,by simp⟩
end Go.Proofs.YtghaibkggdecnaaGreat
namespace Go.Proofs.YtghaibkggdecnaaGreat
open Go.KL
theorem wHx {α:Type} (p:α->Bool) (l:List α):l.countP p <= l.length:=List.countP_le_length
theorem wNU {f:List wAA} (hf:f.length <= 1000) (x:Int):wAc (f.map toS) x=some ((f.countP (fun s=>decide (s.Nation=x)):Nat):Int):=by
 unfold wAc
 have e:=wDs (n:=f.length) (s0:=(0:Int)) (body:=fun (k7:Nat) (x6:Int) =>
  (idx (f.map toS) (↑k7:Int)).bind fun x28 =>
  if x28.Nation=x then
   some (w64 (x6 + 1))
  else
   some x6) (fun k=>(((f.take k).countP (fun s=>decide (s.Nation=x)):Nat):Int)) (by simp) (by omega) (fun i hi=>by
   rw [wHJ hi,nA,wHl hi,nU]
   have:=wHx (fun s:wAA=>decide (s.Nation=x)) (f.take i)
   rw [List.length_take] at this
   by_cases c:(gd f i).Nation=x
   ·rw [if_pos (show (toS (gd f i)).Nation=x from c),wAS (by omega) (by omega)]
    simp [c]
   ·rw [if_neg (show ¬ (toS (gd f i)).Nation=x from c)]
    simp [c])
 rw [nB,e,nA,List.take_length]
theorem wKc {f:List wAA} (G:wCE f) (x:Nat):f.countP (fun s=>decide (s.Nation=(x:Int)))=man f x:=by
 have:=wFm (fun s:wAA=>s.Nation.toNat) f x
 refine Eq.trans ?_ this.symm
 refine List.countP_congr fun s hs=>?_
 have:=G.nat s hs
 simp only [decide_eq_true_iff]
 omega
theorem wOP {f:List wAA} (G:wCE f) {x:Int} (h:¬ (0 <= x/\x <= 30)):f.countP (fun s=>decide (s.Nation=x))=0:=by
 rw [List.countP_eq_zero]
 intro s hs
 have:=G.nat s hs
 simp only [decide_eq_true_iff]
 omega
theorem wNV {l:List Int} (h:∀ k,k + 1 < l.length->gd l k < gd l (k + 1)):l.Pairwise (· < ·):=by
 rw [nG]
 intro i j hi hj hij
 rw [<- wEc,<- wEc]
 have key:∀ m,i + (m + 1) < l.length->gd l i < gd l (i + (m + 1)):=by
  intro m
  induction m with
  | zero=>intro hm;exact h i hm
  | succ m ih =>
   intro hm
   have:=ih (by omega)
   have:=h (i + (m + 1)) hm
   rw [show i + (m + 1 + 1)=i + (m + 1) + 1 by omega]
   omega
 have:=key (j - i - 1) (by omega)
 rwa [show i + (j - i - 1 + 1)=j by omega] at this
theorem wKd {l:List Int} (hl:l.length <= 1000) {body:Nat->Unit->Option (Unit ⊕ (Int × Int))} (hb:∀ i,i + 1 < l.length->body i ()=if gd l (i + 1) <= gd l i then some (.inr (0,4)) else some (.inl ())) :
  wEJ 1 (↑l.length:Int) body ()=some (if l.Pairwise (· < ·) then .inl () else .inr (0,4)):=by
 rw [wEJ,if_pos (by omega)]
 rcases wFj (body:=body) (fun k _=>∀ i,i < k->i + 1 < l.length->gd l i < gd l (i + 1)) (fun b=>b=(0,4)/\¬ l.Pairwise (· < ·)) ((↑l.length:Int) - 1).toNat 0 () (fun i hi=>by omega) (by
  intro i s _ hi I
  rw [hb i (by omega)]
  by_cases c:gd l (i + 1) <= gd l i
  ·rw [if_pos c]
   refine .inr ⟨_,rfl,rfl,fun h=>?_⟩
   have:=nG.1 h i (i + 1) (by omega) (by omega) (by omega)
   rw [<- wEc,<- wEc] at this
   omega
  ·rw [if_neg c]
   refine .inl ⟨(),rfl,fun q hq hq2=>?_⟩
   by_cases e:q=i
   ·rw [e];omega
   ·exact I q (by omega) hq2) with ⟨s,e,I⟩ | ⟨b,e,rfl,h⟩
 ·rw [e,if_pos (wNV fun k hk=>I k (by omega) hk)]
 ·rw [e,if_neg h]
theorem wGb {f:List wAA} (G:wCE f) {l:List Int} (h1:1 <= l.length) (hl:l.length <= 1000) (inc:¬ l.Pairwise (· < ·)):wAj f l=some (0,4):=by
 unfold wAj
 rw [wFB G,nA,if_pos rfl,if_neg (by omega),wKd hl (fun i hi=>by
  rw [show (1:Int) + (i:Int) - 1=(i:Int) by omega,wAS (by omega) (by omega),show (1:Int) + (i:Int)=((i + 1:Nat):Int) by omega,wBZ hi,nA,wBZ (by omega),nA]
  rfl),if_neg inc]
 rfl
theorem wGc {f:List wAA} (G:wCE f) {l:List Int} (hl:l.length <= 1000):wAX (f.map toS) l=wAj f l:=by
  have hf:=G.l2
  rcases nl l.length with h0 | h1
  · rw [nH.1 h0,wGa G]
    unfold wAX
    rw [wDT (by omega),wCi.2 G,nA,if_pos rfl]
    rfl
  have e1:∀ {β:Type} (K:Unit->Option (Int × Int)),jn (wEJ 1 (↑l.length:Int) (fun k17 (_:Unit) =>
        (idx l (w64 ((1 + ↑k17:Int) - 1))).bind fun x38 =>
        (idx l (1 + ↑k17:Int)).bind fun x47 =>
        if x47 <= x38 then
          esc (some ((0,4):Int × Int))
        else
          some (.inl ())) ()) K=if l.Pairwise (· < ·) then K () else some (0,4):=by
    intro _ K
    rw [wKd hl (fun i hi=>by
      rw [show (1:Int) + (i:Int) - 1=(i:Int) by omega,wAS (by omega) (by omega),show (1:Int) + (i:Int)=((i + 1:Nat):Int) by omega,wBZ (l:=l) (k:=i) (by omega),nA,wBZ hi,nA]
      rfl)]
    by_cases c:l.Pairwise (· < ·)
    · rw [if_pos c,if_pos c];rfl
    · rw [if_neg c,if_neg c];rfl
  unfold wAX
  rw [wDT (by omega),wCi.2 G,nA,if_pos rfl,if_neg (by omega),e1 (β:=Unit)]
  by_cases inc:l.Pairwise (· < ·)
  · rw [if_pos inc,wDA (by omega),nB]
    rcases wFj (body:=fun (k77:Nat) (x76:Int) =>
        (idx l (↑k77:Int)).bind fun x97 =>
        (wAc (f.map toS) x97).bind fun x110 =>
        if x110 < 2 then
          (esc (some ((0,6):Int × Int)))
        else
          if x110 < x76 then
            some (.inl x110)
          else
            some (.inl x76)) (fun k s=>∃ w:Nat,s=(w:Int)/\2 <= w/\w <= 60/\(∀ j,j < k->∃ q:Nat,q < 31/\gd l j=q/\2 <= man f q/\w <= man f q)/\(w=60 \/ ∃ j q,j < k/\gd l j=((q:Nat):Int)/\man f q=w)) (fun b=>b=((0,6):Int × Int)/\¬ wQM f l) l.length 0 60 ⟨60,rfl,by omega,by omega,fun j hj=>by omega,.inl rfl⟩ (by
        rintro k s _ hk ⟨w,rfl,w2,w60,i1,i2⟩
        have hk':k < l.length:=by omega
        rw [wBZ hk',nA,wNU (by omega),nA]
        by_cases c:0 <= gd l k/\gd l k <= 30
        · obtain ⟨q,eq⟩:=nJ c.1
          rw [eq,wKc G]
          have hm:=wHG f q
          by_cases c2:((man f q:Nat):Int) < 2
          · rw [if_pos c2]
            refine .inr ⟨_,rfl,rfl,fun h=>?_⟩
            obtain ⟨k',_,e',h'⟩:=h _ (wBl hk')
            have:k'=q:=by omega
            subst this
            omega
          · rw [if_neg c2]
            have i1':∀ w':Nat,w' <= w->w' <= man f q->∀ j,j < k + 1->∃ q:Nat,q < 31/\gd l j=q/\2 <= man f q/\w' <= man f q:=fun w' a1 a2 j hj=>by
              by_cases ej:j=k
              · exact ⟨q,by omega,by rw [ej,eq],by omega,by omega⟩
              · obtain ⟨q',h1,h2,h3,h4⟩:=i1 j (by omega)
                exact ⟨q',h1,h2,h3,by omega⟩
            by_cases cm:((man f q:Nat):Int) < (w:Int)
            · rw [if_pos cm]
              exact .inl ⟨_,rfl,man f q,rfl,by omega,by omega,i1' _ (by omega) (nE _),.inr ⟨k,q,by omega,eq,rfl⟩⟩
            · rw [if_neg cm]
              refine .inl ⟨_,rfl,w,rfl,w2,w60,i1' _ (nE _) (by omega),?_⟩
              rcases i2 with h | ⟨j,q',h1,h2,h3⟩
              · exact .inl h
              · exact .inr ⟨j,q',by omega,h2,h3⟩
        · rw [wOP G c,if_pos (by omega)]
          refine .inr ⟨_,rfl,rfl,fun h=>?_⟩
          obtain ⟨k',h',e',_⟩:=h _ (wBl hk')
          omega) with ⟨s,e2,w,rfl,w2,w60,i1,i2⟩ | ⟨b,e2,rfl,hb⟩
    · rw [nL] at i1 i2
      rw [e2]
      have ok:wQM f l:=fun y hy=>by
        obtain ⟨j,hj,ej⟩:=wHE hy
        obtain ⟨q,h1,h2,h3,_⟩:=i1 j hj
        exact ⟨q,h1,by rw [<- ej,h2],h3⟩
      rcases wFD G h1 hl inc with ⟨_,w',v1,⟨k,v2,v3⟩,v4,v5,e3⟩ | ⟨hn,_⟩
      · have ew:w'=w:=by
          have a1:w <= w':=by
            obtain ⟨j,hj,ej⟩:=wHE v2
            obtain ⟨q,a1,a2,a3,a4⟩:=i1 j hj
            have:q=k:=by omega
            subst this
            omega
          have a2:w' <= w:=by
            rcases i2 with h | ⟨j,q,b1,b2,b3⟩
            · have:=wHG f k
              omega
            · have:=v4 q (by rw [<- b2];exact wBl b1)
              omega
          omega
        subst ew
        rw [e3]
        simp only [jn]
        rw [wAS (by omega) (by omega),wAS (by omega) (by omega),show (f.length:Int) - (l.length:Int)=((f.length - l.length:Nat):Int) by omega,show (w':Int) - 1=((w' - 1:Nat):Int) by omega,wHu (by omega) (by omega)]
        rfl
      · exact absurd ok hn
    · rw [e2]
      rcases wFD G h1 hl inc with ⟨ok,_⟩ | ⟨_,e3⟩
      · exact absurd ok hb
      · rw [e3];rfl
  · rw [if_neg inc,wGb G h1 hl inc]
theorem wLL {f:List wAA} {l:List Int} (hf:f.length <= 1000) (hl:l.length <= 1000):∃ x,wAj f l=some x/\wAX (f.map toS) l=some x:=by
 by_cases h:wIf f=0
 ·have G:=wCi.1 h
  rw [wGc G hl]
  rcases nl l.length with h0 | h1
  ·rw [nH.1 h0,wGa G]
   exact ⟨_,rfl,rfl⟩
  ·by_cases inc:l.Pairwise (· < ·)
   ·rcases wFD G h1 hl inc with ⟨_,w,_,_,_,_,e⟩ | ⟨_,e⟩ <;> exact ⟨_,e,e⟩
   ·exact ⟨_,wGb G h1 hl inc,wGb G h1 hl inc⟩
 ·refine ⟨(0,wIf f),?_,?_⟩
  ·unfold wAj
   rw [wFA hf,nA,if_neg h]
  ·unfold wAX
   rw [wDT hf,nA,if_neg h]
end Go.Proofs.YtghaibkggdecnaaGreat
namespace Go.Proofs.YtghaibkggdecnaaGreat
open Go.KL
theorem wNW {f:Nat->Nat}:∀ {C:Nat},(∀ x,x < C->f x <= 1)->sm f C=C->∀ x,x < C->f x=1
 | 0,_,_,x,hx=>by omega
 | C + 1,h,e,x,hx=>by
  simp only [sm] at e
  have h1:=h C (by omega)
  have h2:sm f C <= C:=by
   have:∀ D,D <= C->sm f D <= D:=by
    intro D
    induction D with
    | zero=>intro _;exact nE _
    | succ D ih =>
     intro hD
     have:=ih (by omega)
     have:=h D (by omega)
     simp only [sm]
     omega
   exact this C (nE _)
  by_cases ex:x=C
  ·rw [ex];omega
  ·exact wNW (C:=C) (fun y hy=>h y (by omega)) (by omega) x (by omega)
theorem wQB {n:Nat} {o:List Int} (hl:o.length=n) (hin:∀ i ∈ o,0 <= i/\i < (n:Int)) (nd:o.Nodup):o.Perm (wCj n):=by
 have e:=wHv (l:=o) (C:=n) nd (fun y hy=>⟨y.toNat,by have:=hin y hy;omega,by have:=hin y hy;omega⟩)
 rw [hl] at e
 have hf:=wNW (fun x _=>by split <;> omega) e
 refine (List.perm_ext_iff_of_nodup nd (nD.2 ((wJd n).imp fun h=>by omega))).2 fun y=>⟨fun hy=>?_,fun hy=>?_⟩
 ·have:=hin y hy
  exact nX.2 ⟨y.toNat,nT.2 (by omega),by omega⟩
 ·have h:=wCS _ hy
  have h2:=hf y.toNat (by omega)
  rw [show ((y.toNat:Nat):Int)=y by omega] at h2
  by_cases c:y ∈ o
  ·exact c
  ·simp [c] at h2
def Fd (f:List wAA) (l:List Int) (x:Int):Prop:=∀ (o:List Int) (A:Nat),o.Perm (wCj f.length)->l <+: o->IsA (pn f o) f.length A->(A:Int) <= x
def Ex (f:List wAA) (x:Int):Prop:=x=0 \/ ∃ (o:List Int) (A:Nat),o.Perm (wCj f.length)/\IsA (pn f o) f.length A/\x=(A:Int)
theorem wKe {f:List wAA} (G:wCE f):∀ (m:Nat) (l:List Int),l.Nodup->(∀ i ∈ l,0 <= i/\i < (f.length:Int))->l.length + m=f.length->∀ fuel,m < fuel->∃ x,wAq fuel (f.map toS) l=some x/\Fd f l x/\Ex f x
 | m,l,nd,hin,hlm,fuel,hfu=>by
  have hf:=G.l2
  obtain ⟨k,rfl⟩:∃ k,fuel=k + 1:=⟨fuel - 1,by omega⟩
  show ∃ x,wBC (wAq k) (f.map toS) l=some x/\Fd f l x/\Ex f x
  unfold wBC
  rw [nB]
  match m,hlm,hfu with
  | 0,hlm,_ =>
   have hp:=wQB (n:=f.length) (by omega) hin nd
   obtain ⟨A,e,I⟩:=wKb G hp
   rw [if_pos (by omega),e,nA]
   refine ⟨_,rfl,fun o B ho ⟨t,ht⟩ J=>?_,.inr ⟨l,A,hp,I,rfl⟩⟩
   have h1:=(wDS ho).1
   rw [<- ht,nM] at h1
   have:t=[]:=nH.1 (by omega)
   rw [this,nS] at ht
   rw [<- ht] at J
   rw [wNT I J]
   omega
  | m + 1,hlm,hfu =>
   rw [if_neg (by omega)]
   obtain ⟨x,e,h1,h2⟩:=wDB (n:=f.length) (s0:=(0:Int)) (body:=fun (k21:Nat) (x20:Int) =>
    (app 8 ([]:List Int) l).bind fun x47 =>
    (app 8 x47 [(↑k21:Int)]).bind fun x61 =>
    (wAl x61).bind fun x74 =>
    if x74=true then
     some x20
    else
     (wAq k (f.map toS) x61).bind fun x92 =>
     some (max x20 x92)) (fun q x=>(∀ i:Nat,i < q->(l ++ [(i:Int)]).Nodup->Fd f (l ++ [(i:Int)]) x)/\Ex f x) (by omega) ⟨fun i hi=>by omega,.inl rfl⟩ (by
    rintro q x hq ⟨i1,i2⟩
    rw [wFV (by simp;omega),nA,List.nil_append,wFV (by simp;omega),nA,wIi (by simp;omega),nA]
    by_cases c:(l ++ [(q:Int)]).Nodup
    ·rw [if_neg (by simp [c])]
     obtain ⟨y,e,y1,y2⟩:=wKe G m (l ++ [(q:Int)]) c (fun i hi=>by
      rcases List.mem_append.1 hi with h | h
      ·exact hin i h
      ·simp at h;omega) (by simp;omega) k (by omega)
     rw [e,nA]
     refine ⟨_,rfl,fun i hi hn o A ho hp J=>?_,?_⟩
     ·by_cases ei:i=q
      ·subst ei
       have:=y1 o A ho hp J
       omega
      ·have:=i1 i (by omega) hn o A ho hp J
       omega
     ·rcases Int.le_total x y with h | h
      ·rw [Int.max_eq_right h];exact y2
      ·rw [Int.max_eq_left h];exact i2
    ·rw [if_pos (by simp [c])]
     refine ⟨_,rfl,fun i hi hn=>?_,i2⟩
     by_cases ei:i=q
     ·subst ei;exact absurd hn c
     ·exact i1 i (by omega) hn)
   rw [e,nA]
   refine ⟨x,rfl,fun o A ho ⟨t,ht⟩ J=>?_,h2⟩
   obtain ⟨p1,p2,p3⟩:=wDS ho
   match t,ht with
   | [],ht =>
    rw [nS] at ht
    rw [<- ht] at p1
    omega
   | i :: t,ht =>
    have hi:=p2 i (by rw [<- ht];simp)
    have hpre:l ++ [i] <+: o:=⟨t,by rw [<- ht];simp⟩
    obtain ⟨q,rfl⟩:=nJ hi.1
    exact h1 q (by omega) (hpre.sublist.nodup p3) o A ho hpre J
theorem wQC {f:List wAA} (G:wCE f) {m:Nat} (hit:∃ x,x < 31/\man f x=m) (top:∀ x,x < 31->man f x <= m) (m1:1 <= m) {o:List Int} (hp:o.Perm (wCj f.length)) (hg:Gap (pn f o) (dd f m) f.length):wAw (f.map toS)=some (((dd f m:Nat):Int),0):=by
 have hf:=G.l2
 have hn1:=G.l1
 have D:=wPy G hit top m1
 have hdn:=D.dn
 have hd1:=D.d1
 unfold wAw
 rw [wDT (by omega),wCi.2 G,nA,if_pos rfl,nB]
 by_cases c6:(f.length:Int) <= 6
 ·obtain ⟨x,e,h1,h2⟩:=wKe G f.length [] (by simp) (by simp) (by simp) 1000 (by omega)
  rw [if_pos c6,e,nA]
  obtain ⟨A,_,I⟩:=wOM G hp
  have hA:=wHI G hit hp I hg hdn
  have a1:=h1 o A hp ⟨o,rfl⟩ I
  have:x=((dd f m:Nat):Int):=by
   rcases h2 with h | ⟨o',B,hp',I',rfl⟩
   ·omega
   ·have:=wKZ G hit hp' I'
    omega
  rw [this]
 ·rw [if_neg c6,wBg,if_pos (by omega)]
  have nbp:∀ k,(m - 1) + 1=m/\(0 < nb 31 (man f) (2 + k)->2 + k <= m):=fun k=>⟨by omega,fun h=>by
   obtain ⟨x,hx,h⟩:=wKR h
   have:=top x hx
   by_cases c:2 + k <= man f x
   ·omega
   ·rw [if_neg c] at h;omega⟩
  have term:∀ k,0 < nb 31 (man f) (2 + k)->nb 31 (man f) (2 + k) + (2 + k - 1) * dd f m <= f.length:=fun k hk=>by
   have e:nb 31 (man f) (2 + k)=sm (fun x=>if decide (2 + k <= man f x)=true then 1 else 0) 31:=wCF fun y _=>by simp
   have:=ub (C:=31) (j:=2 + k - 1) hg (wRO G hp) (fun x=>decide (2 + k <= man f x)) (fun x _ hx=>by
    rw [wOn hp]
    have:=of_decide_eq_true hx
    omega) (by rw [<- e];exact hk)
   rwa [<- e] at this
  obtain ⟨s,e,B,rfl,b1,b2,b3,b4⟩:=wEy (body:=fun (k33:Nat) (x32:Int) =>
    (wBg 0 (30 + 1) (fun k59 x58 =>
     (wAc (f.map toS) (↑k59:Int)).bind fun x84 =>
     if (2 + ↑k33:Int) <= x84 then
      some (w64 (x58 + 1))
     else
      some x58) 0).bind fun y64 =>
    if 0 < y64 then
     (quo (w64 ((↑f.length:Int) - y64)) (w64 ((2 + ↑k33:Int) - 1))).bind fun x114 =>
     if x114 < x32 then
      (quo (w64 ((↑f.length:Int) - y64)) (w64 ((2 + ↑k33:Int) - 1))).bind fun x119 =>
      some x119
     else
      some x32
    else
     some x32) (fun k s=>∃ B:Nat,s=(B:Int)/\dd f m <= B/\B <= f.length/\(2 <= m->m < 2 + k->B=dd f m)/\(m < 2->B=f.length)) ((↑f.length:Int) + 1 - 2).toNat 0 (↑f.length:Int) ⟨f.length,rfl,hdn,nE _,fun _ h=>by omega,fun _=>rfl⟩ (by
    rintro k s _ hk ⟨B,rfl,b1,b2,b3,b4⟩
    have ei:wBg 0 (30 + 1) (fun k59 x58 =>
     (wAc (f.map toS) (↑k59:Int)).bind fun x84 =>
     if (2 + ↑k:Int) <= x84 then
      some (w64 (x58 + 1))
     else
      some x58) (0:Int)=some ((nb 31 (man f) (2 + k):Nat):Int):=by
     rw [show (30 + 1:Int)=((31:Nat):Int) from rfl]
     refine wDs (n:=31) (s0:=(0:Int)) (fun j=>((sm (fun x=>if 2 + k <= man f x then 1 else 0) j:Nat):Int)) rfl (by omega) fun i hi=>?_
     have hs:sm (fun x=>if 2 + k <= man f x then 1 else 0) i <= sm (fun _=>1) i:=wLI fun x _=>by split <;> omega
     have hs2:∀ j,sm (fun _=>1) j=j:=by
      intro j
      induction j with
      | zero=>rfl
      | succ j ih=>simp only [sm,ih]
     rw [hs2] at hs
     rw [wNU (by omega),wKc G,nA]
     simp only [sm]
     by_cases c:2 + k <= man f i
     ·rw [if_pos (by omega),if_pos c,wAS (by omega) (by omega)]
      rfl
     ·rw [if_neg (by omega),if_neg c]
      rfl
    rw [ei,nA]
    have hbn:nb 31 (man f) (2 + k) <= f.length:=by
     have:=wPx (C:=31) (c:=man f) (m:=2 + k) (by omega)
     rwa [wDt G] at this
    by_cases c0:0 < nb 31 (man f) (2 + k)
    ·have hkm:=(nbp k).2 c0
     have ht:=term k c0
     have hq:dd f m <= (f.length - nb 31 (man f) (2 + k)) / (2 + k - 1):=(nO (by omega)).2 (by rw [nk];omega)
     have hqm:2 + k=m->(f.length - nb 31 (man f) (2 + k)) / (2 + k - 1)=dd f m:=fun e=>by
      rw [e]
      unfold dd
      rw [if_pos (by omega)]
     have hql:=na (f.length - nb 31 (man f) (2 + k)) (2 + k - 1)
     rw [if_pos (by omega),wAS (by omega) (by omega),wAS (by omega) (by omega),show (f.length:Int) - (nb 31 (man f) (2 + k):Int)=((f.length - nb 31 (man f) (2 + k):Nat):Int) by omega,show (2 + (k:Int)) - 1=((2 + k - 1:Nat):Int) by omega,wHu (by omega) (by omega),nA]
     generalize (f.length - nb 31 (man f) (2 + k)) / (2 + k - 1)=Q at hq hqm hql ⊢
     by_cases cl:(Q:Int) < (B:Int)
     ·rw [if_pos cl,nA]
      refine ⟨_,rfl,Q,rfl,hq,by omega,fun h1 h2=>?_,fun h=>by omega⟩
      by_cases e:2 + k=m
      ·exact hqm e
      ·have:=b3 h1 (by omega)
       omega
     ·rw [if_neg cl]
      refine ⟨_,rfl,B,rfl,b1,b2,fun h1 h2=>?_,b4⟩
      by_cases e:2 + k=m
      ·have:=hqm e
       omega
      ·exact b3 h1 (by omega)
    ·rw [if_neg (by omega)]
     refine ⟨_,rfl,B,rfl,b1,b2,fun h1 h2=>?_,b4⟩
     by_cases e:2 + k=m
     ·refine absurd ?_ c0
      obtain ⟨x,hx,ex⟩:=hit
      have:=wNQ (f:=fun x=>if 2 + k <= man f x then 1 else 0) hx
      simp only [ex,e,nE,if_true] at this
      unfold nb
      rw [e]
      omega
     ·exact b3 h1 (by omega))
  rw [e,nA]
  have hm:m <= f.length:=by obtain ⟨x,_,ex⟩:=hit;rw [<- ex];exact wHG f x
  have:B=dd f m:=by
   by_cases c:2 <= m
   ·exact b3 c (by omega)
   ·rw [b4 (by omega)]
    exact (if_neg c).symm
  rw [this]
end Go.Proofs.YtghaibkggdecnaaGreat
namespace Go.Proofs.YtghaibkggdecnaaGreat
open Go.KL
theorem wNX (l:List wAA) (hl:l.length <= 1000):wAP l l=some true:=by
 unfold wAP
 exact wFO (by omega)
theorem wHK (l:List Int) (hl:l.length <= 1000):wAV l l=some true:=by
 unfold wAV
 exact wFO (by omega)
theorem wRU {l:List wAA} (hl:l.length <= 1000):wAa l=some l:=by
 unfold wAa
 rw [wFV (by simp;omega)];rfl
theorem wOo {l:List Int} (hl:l.length <= 1000):wAt l=some l:=by
 unfold wAt
 rw [wFV (by simp;omega)];rfl
theorem wJg (p0:List wAA) (p1 p2:List Int) (p3:Int) (_:-9223372036854775808 <= p3) (_:p3 <= 9223372036854775807):wBA p0 p1 p2 p3=some true:=by
 unfold wBA
 by_cases c0:64 < (p0.length:Int)
 ·rw [if_pos c0];rfl
 rw [if_neg c0]
 by_cases c1:64 < (p1.length:Int)
 ·rw [if_pos c1];rfl
 rw [if_neg c1]
 by_cases c2:40 < (p2.length:Int)
 ·rw [if_pos c2];rfl
 rw [if_neg c2,wRU (by omega),nA,wOo (by omega),nA,wOo (by omega),nA,wON (by omega),nA]
 obtain ⟨⟨a1,a2⟩,ea,eb⟩:=wLK (f:=p0) (o:=p1) (by omega) (by omega)
 obtain ⟨⟨b1,b2⟩,ec,ed⟩:=wLL (f:=p0) (l:=p2) (by omega) (by omega)
 obtain ⟨l,e,ee,ef,hl⟩:=wHw (f:=p0) (o:=p1) (by omega) (by omega) p3
 rw [ea,nA]
 simp only
 rw [eb,nA]
 simp only
 rw [if_pos trivial,if_pos trivial,ec,nA]
 simp only
 rw [ed,nA]
 simp only
 rw [if_pos trivial,if_pos trivial,ee,nA]
 simp only
 rw [ef,nA]
 simp only
 rw [if_pos trivial,wOO hl,nA,if_pos rfl]
 by_cases h:wIf p0=0
 ·have G:=wCi.1 h
  obtain ⟨a,m,T⟩:=wRS G
  have D:=wPy G T.hit T.top T.m1
  obtain ⟨o,e1,hp,hg⟩:=wNR G T
  obtain ⟨A,e2,IA⟩:=wKb G hp
  have hA:=wHI G T.hit hp IA hg D.dn
  subst hA
  have hk:1 <= nb 31 (man p0) m:=by
   obtain ⟨x,hx,ex⟩:=T.hit
   have:=wNQ (f:=fun x=>if m <= man p0 x then 1 else 0) hx
   simp only [ex,nE,if_true] at this
   exact this
  rw [e1,nA]
  simp only
  rw [wQC G T.hit T.top T.m1 hp hg,nA]
  simp only
  rw [wOL G T,nA,if_pos trivial,if_pos trivial,if_pos trivial,nA,if_neg (by decide),if_pos trivial,e2,nA]
  simp only
  by_cases c:m < 2
  ·have ed:dd p0 m=p0.length:=if_neg (by omega)
   rw [if_pos c]
   simp only
   rw [wGc G (by simp),wGa G,nA]
   simp only
   rw [if_pos trivial,if_pos trivial,if_pos (by rw [ed];simp)]
   simp [wNX p0 (by omega),wHK p1 (by omega),wHK p2 (by omega)]
   rfl
  ·have h1:1 * dd p0 m <= (m - 1) * dd p0 m:=Nat.mul_le_mul_right _ (by omega)
   have hs:=D.sum
   have hlt:dd p0 m < p0.length:=by omega
   have htl:(wFl a (m:Int) 31).length <= 1000:=by
    rw [T.len]
    omega
   rw [if_neg c]
   simp only
   rw [wGc G htl,wJf G T (by omega),nA]
   simp only
   rw [if_pos trivial,if_pos trivial,if_pos (by simp;omega)]
   simp [wNX p0 (by omega),wHK p1 (by omega),wHK p2 (by omega)]
   rfl
 ·have e1:wBp p0=some ([],0,wIf p0):=by
   rw [wFC,wFA (by omega),nA,if_neg h]
  have e2:wAw (p0.map toS)=some (0,wIf p0):=by
   unfold wAw
   rw [wDT (by omega),nA,if_neg h]
  have e3:wBk p0=some ([],wIf p0):=by
   unfold wBk
   rw [wFA (by omega),nA,if_neg h]
  rw [e1,nA]
  simp only
  rw [e2,nA]
  simp only
  rw [e3,nA]
  simp only
  rw [if_pos trivial,if_pos trivial,if_neg h,if_neg (by simp),if_neg (by simp),nA,if_neg (by simp),if_neg h,wNX p0 (by omega),nA,if_pos rfl,wHK p1 (by omega),nA,if_pos rfl,wHK p2 (by omega),nA,if_pos rfl]
  rfl
end Go.Proofs.YtghaibkggdecnaaGreat
