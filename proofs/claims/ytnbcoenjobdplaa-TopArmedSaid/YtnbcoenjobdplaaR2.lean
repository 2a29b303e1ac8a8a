import Derived.Test.YtnbcoenjobdplaaR0
import Derived.Test.YtnbcoenjobdplaaR1
import Derived.Test.YtnbcoenjobdplaaProg
import Derived.Lib.Overlaps
import Derived.Lib.AppendZerosOnto
set_option linter.all false
open Option renaming bind_some->hD,getD_some->nu
open List renaming all_eq_true->hM,nodup_iff_pairwise_ne->nA,length_map->nB,getElem_map->nD,length_filter_le->nG,pairwise_iff_getElem->nH,replicate->nI,filter_append->nJ,range->nL,range_succ->nM,getElem?_eq_getElem->nN,length_append->nO,length_eq_zero_iff->nP,filter_cons_of_pos->nQ,take_append_drop->nR,map_append->nS,mem_filter->nT,mem_range->nV,countP_eq_length_filter->nW,getD_eq_getElem?_getD->nX,append_assoc->nZ,mem_map->nc,take_length->nf,filter_cons_of_neg->ng,not_all_eq_any_not->nh,mem_of_mem_drop->nj,mergeSort_perm->nk,filter_eq_self->nl,getElem?_drop->nm,all_map->nn,countP_append->np,nodup_append->nq,filter_congr->nr,countP_congr->ns
open Nat renaming le_refl->nE,zero_add->nK,mul_one->ni
open Int renaming mul_le_mul_of_nonneg_left->nU,tmod_eq_emod_of_nonneg->nY,le_refl->nt
open Bool renaming and_eq_true->na
open Option.some renaming inj->nv
namespace Go.Proofs.Ytnbcoenjobdplaa
open Go.KL
noncomputable section
structure wAE where
 bytes:List Int
 next:Int
 state:Int
deriving DecidableEq,Inhabited,Repr
structure wAB where
 Bib:Int
 Nation:Int
 Rank:Int
deriving DecidableEq,Inhabited,Repr
structure wAG where
 of:(wAB->Option Int)
 lo:Int
 hi:Int
structure wAA where
 Bib:Int
 Time:Int
 Gate:Int
deriving DecidableEq,Inhabited,Repr
structure wAF where
 Mass:Int
 Reading:Int
deriving DecidableEq,Inhabited,Repr
structure wAM where
 Error:Int
 Least:Int
 Tests:List wAF
 Rifles:List Int
deriving DecidableEq,Inhabited,Repr
structure wAP where
 Lo:Int
 Hi:Int
deriving DecidableEq,Inhabited,Repr
structure wAh where
 offset:wAP
 pass:Arr Bool 8
 fail:Arr Bool 8
structure wAW where
 Scale:wAM
 first:wAh
structure wBN where
 of:(wAP->Option Int)
def wCA (p0:List Int):Option (wAE) :=
 some (⟨p0,0,17⟩:wAE)
def wAJ (p0:wAE) (p1:Int):Option (Int × wAE) :=
 if p1 <= 1 then
  some (0,p0)
 else
  if (↑p0.bytes.length:Int)=0 then
   some (0,p0)
  else
   (rem p0.next (↑p0.bytes.length:Int)).bind fun x10 =>
   (idx p0.bytes x10).bind fun x13 =>
   (quo p0.next (↑p0.bytes.length:Int)).bind fun x20 =>
   (rem (wDT ((wDT ((wDT ((wDT (p0.state * 45)) + (wDT x13))) + (wDT (77 * (wDT x20))))) + 1)) 65519).bind fun x32 =>
   if (wDT x20)=0 then
    if p1 <= 256 then
     (rem (w64 (wDT x13)) p1).bind fun x42 =>
     some (x42,(⟨p0.bytes,w64 (p0.next + 1),x32⟩:wAE))
    else
     (rem (w64 (wDT ((wDT (x32 * 256)) + (wDT x13)))) p1).bind fun x46 =>
     some (x46,(⟨p0.bytes,w64 (p0.next + 1),x32⟩:wAE))
   else
    (rem (w64 (wDT ((wDT (x32 * 256)) + (wDT x13)))) p1).bind fun x50 =>
    some (x50,(⟨p0.bytes,w64 (p0.next + 1),x32⟩:wAE))
def wAK (p0:wAE) (p1:Int) (p2:Int):Option (Int × wAE) :=
 (wAJ p0 (w64 ((w64 (p2 - p1)) + 1))).bind fun (x2,x3) =>
 some (w64 (p1 + x2),x3)
def wBU (p0:Int) (p1:Int) (p2:Int):Option (Bool) :=
 if p1 <= p0 then
  some (decide (p0 <= p2))
 else
  some false
def wAS (p0:wAB):Option (Int) :=
 some p0.Bib
def wAT (p0:wAB):Option (Int) :=
 some p0.Rank
def wAY (p0:wAB):Option (Int) :=
 some p0.Nation
def wCN :Option (Unit) :=
 some ()
def wAa (p0:wAG) (p1:List wAB):Option ((List Int)) :=
 (wBx 0 (↑p1.length:Int) (fun k22 l18 =>
  (idx p1 (↑k22:Int)).bind fun x46 =>
  (p0.of x46).bind fun x61 =>
  (app 8 l18 [x61]).bind fun x77 =>
  some x77) []).bind fun y27 =>
 some y27
def wAZ (p0:Int) (p1:wAG):Option (Bool) :=
 (wBU p0 p1.lo p1.hi).bind fun x1 =>
 some x1
def wAn (p0:List Int) (p1:(Int->Option Bool)):Option (Bool) :=
 jn (wDm 0 (↑p0.length:Int) (fun k2 _ =>
  (idx p0 (↑k2:Int)).bind fun x22 =>
  (p1 x22).bind fun x30 =>
  if x30=true then
   some (.inl ())
  else
   esc (some false)) ()) fun _ =>
 some true
def wBa (p0:List Int):Option (Bool) :=
 jn (wDm 0 (↑p0.length:Int) (fun k20 l17 =>
  (idx p0 (↑k20:Int)).bind fun x41 =>
  if (wCL l17 x41 false)=true then
   esc (some true)
  else
   some (.inl (wFi l17 x41 true))) ([]:List (Int × Bool))) fun y68 =>
 some false
def wBb (p0:List wAB):Option (Int) :=
 (wBU (↑p0.length:Int) 1 60).bind fun x1 =>
 if x1=true then
  (wCN).bind fun _ =>
  (wAa (⟨wAS,1,999⟩:wAG) p0).bind fun x39 =>
  (wAn x39 (fun x=>wAZ x (⟨wAS,1,999⟩:wAG))).bind fun x65 =>
  if x65=true then
   (wAa (⟨wAT,1,9999⟩:wAG) p0).bind fun x89 =>
   (wAn x89 (fun x=>wAZ x (⟨wAT,1,9999⟩:wAG))).bind fun x115 =>
   if x115=true then
    (wAa (⟨wAY,0,30⟩:wAG) p0).bind fun x139 =>
    (wAn x139 (fun x=>wAZ x (⟨wAY,0,30⟩:wAG))).bind fun x165 =>
    if x165=true then
     (wAa (⟨wAS,1,999⟩:wAG) p0).bind fun x195 =>
     (wBa x195).bind fun x213 =>
     if x213=true then
      some 5
     else
      (wAa (⟨wAT,1,9999⟩:wAG) p0).bind fun x237 =>
      (wBa x237).bind fun x255 =>
      if x255=true then
       some 5
      else
       some 0
    else
     some 3
   else
    some 3
  else
   some 3
 else
  some 2
def wBO (p0:List wAB):Option ((Arr Int 31)) :=
 (wBx 0 (↑p0.length:Int) (fun k17 a16 =>
  (idx p0 (↑k17:Int)).bind fun x39 =>
  (chk x39.Nation 31).bind fun _ =>
  some (a16.set x39.Nation.toNat (w64 ((a16.get x39.Nation.toNat) + 1)))) (Arr.fill 31 0)).bind fun y22 =>
 some y22
def wBI (p0:List Int):Option (Int) :=
 if (↑p0.length:Int) < 1 then
  none
 else
  (idx p0 0).bind fun x4 =>
  (wBx 1 (↑p0.length:Int) (fun k17 x16 =>
   (idx p0 (1 + ↑k17:Int)).bind fun x37 =>
   some (max x16 x37)) x4).bind fun y22 =>
  some y22
def wAb (p0:Arr Int 31):Option ((List Int) × Int) :=
 (wBI p0.l).bind fun x12 =>
 (wBx 0 31 (fun k43 l39 =>
  (idx (p0.l:List Int) (↑k43:Int)).bind fun x66 =>
  if x66=x12 then
   (app 8 l39 [(↑k43:Int)]).bind fun x76 =>
   some x76
  else
   some l39) []).bind fun y48 =>
 some (y48,x12)
def wBG (p0:Int):Option (Bool) :=
 some (decide (¬ (p0=p0)))
def wBh (p0:Int) (p1:Int):Option (Int) :=
 (wBG p0).bind fun x1 =>
 (wBG p1).bind fun x11 =>
 if x1=true then
  if x11=true then
   some 0
  else
   some (-1)
 else
  if x11=true then
   some 1
  else
   if p0 < p1 then
    some (-1)
   else
    if p1 < p0 then
     some 1
    else
     some 0
def wAc (p0:Int) (p1:Int) (p2:List wAB):Option (Int) :=
 (idx p2 p0).bind fun x3 =>
 (idx p2 p1).bind fun x10 =>
 (wBh x3.Rank x10.Rank).bind fun x17 =>
 some x17
noncomputable def wBd (p0:List Int) (p1:((Int × Int)->Option Int)):Option (List Int):=wIQ p1 p0
def wBK (p0:List wAB):Option ((List Int)) :=
 (mkz 8 (↑p0.length:Int) (0:Int)).bind fun x10 =>
 (wBx 0 (↑p0.length:Int) (fun k24 l23 =>
  (chk (↑k24:Int) l23.length).bind fun _ =>
  some (List.set l23 k24 (↑k24:Int))) x10).bind fun y29 =>
 (wBd y29 (fun x=>wAc x.1 x.2 p0)).bind fun x70 =>
 some x70
def wAd (p0:Int) (p1:List wAB) (p2:Int):Option (Bool) :=
 (idx p1 p0).bind fun x3 =>
 some (decide (x3.Nation=p2))
def wAN (p0:List Int) (p1:(Int->Option Bool)):Option (Int) :=
 jn (wDm 0 (↑p0.length:Int) (fun k2 _ =>
  (idx p0 (↑k2:Int)).bind fun x22 =>
  (p1 x22).bind fun x30 =>
  if x30=true then
   esc (some (↑k2:Int))
  else
   some (.inl ())) ()) fun _ =>
 some (-1)
def wAu (p0:List Int) (p1:Int) (p2:Int):Option (List Int):=wKk p0 p1 p2
def wBs (p0:List wAB):Option ((List Int) × Int × Int) :=
 (wBb p0).bind fun x11 =>
 if x11=0 then
  (wBO p0).bind fun x25 =>
  (wAb x25).bind fun (x43,x44) =>
  if 1 < x44 then
   (quo (w64 ((↑p0.length:Int) - (↑x43.length:Int))) (w64 (x44 - 1))).bind fun x61 =>
   (wBK p0).bind fun x66 =>
   (wBx 0 (↑p0.length:Int) (fun k130 (l119,a122,l123,l126) =>
    (wBx 0 31 (fun k174 x173 =>
     ((idx (a122.l:List Int) (↑k174:Int)).bind fun x207 =>
     if 0 < x207 then
      if (wID l119 (↑k174:Int))=true then
       if x61 <= (w64 ((↑k130:Int) - (wCL l119 (↑k174:Int) 0))) then
        if x173 < 0 then
         some (↑k174:Int)
        else
         (chk x173 31).bind fun _ =>
         if (a122.get x173.toNat) < x207 then
          some (↑k174:Int)
         else
          some x173
       else
        some x173
      else
       if x173 < 0 then
        some (↑k174:Int)
       else
        (chk x173 31).bind fun _ =>
        if (a122.get x173.toNat) < x207 then
         some (↑k174:Int)
        else
         some x173
     else
      some x173).bind fun x203 =>
     some x203) (-1)).bind fun y179 =>
    (wAN l123 (fun x=>wAd x p0 y179)).bind fun x317 =>
    (chk x317 l123.length).bind fun _ =>
    (app 8 l126 [(gd l123 x317.toNat)]).bind fun x341 =>
    (wAu l123 x317 (w64 (x317 + 1))).bind fun x349 =>
    (chk y179 31).bind fun _ =>
    some ((wFi l119 y179 (↑k130:Int)),(a122.set y179.toNat (w64 ((a122.get y179.toNat) - 1))),x349,x341)) (([]:List (Int × Int)),x25,x66,[])).bind fun (y135,y136,y137,y138) =>
   some (y138,x61,0)
  else
   (wBK p0).bind fun x423 =>
   (wBx 0 (↑p0.length:Int) (fun k487 (l476,a479,l480,l483) =>
    (wBx 0 31 (fun k531 x530 =>
     ((idx (a479.l:List Int) (↑k531:Int)).bind fun x564 =>
     if 0 < x564 then
      if (wID l476 (↑k531:Int))=true then
       if (↑p0.length:Int) <= (w64 ((↑k487:Int) - (wCL l476 (↑k531:Int) 0))) then
        if x530 < 0 then
         some (↑k531:Int)
        else
         (chk x530 31).bind fun _ =>
         if (a479.get x530.toNat) < x564 then
          some (↑k531:Int)
         else
          some x530
       else
        some x530
      else
       if x530 < 0 then
        some (↑k531:Int)
       else
        (chk x530 31).bind fun _ =>
        if (a479.get x530.toNat) < x564 then
         some (↑k531:Int)
        else
         some x530
     else
      some x530).bind fun x560 =>
     some x560) (-1)).bind fun y536 =>
    (wAN l480 (fun x=>wAd x p0 y536)).bind fun x674 =>
    (chk x674 l480.length).bind fun _ =>
    (app 8 l483 [(gd l480 x674.toNat)]).bind fun x698 =>
    (wAu l480 x674 (w64 (x674 + 1))).bind fun x706 =>
    (chk y536 31).bind fun _ =>
    some ((wFi l476 y536 (↑k487:Int)),(a479.set y536.toNat (w64 ((a479.get y536.toNat) - 1))),x706,x698)) (([]:List (Int × Int)),x25,x423,[])).bind fun (y492,y493,y494,y495) =>
   some (y495,(↑p0.length:Int),0)
 else
  some ([],0,x11)
def wBi (p0:Int) (p1:Int):Option (Int) :=
 if p1 <= 0 then
  some 0
 else
  (rem p0 p1).bind fun x4 =>
  (rem (w64 (x4 + p1)) p1).bind fun x7 =>
  some x7
def wAe (p0:Int) (p1:Int):Option (Int) :=
 (wBi p0 p1).bind fun x1 =>
 some x1
def wBC (p0:Int) (p1:List wAB):Option (Bool) :=
 (wBU p0 0 (w64 ((↑p1.length:Int) - 1))).bind fun x1 =>
 some x1
def wCB (p0:List wAB) (p1:List Int):Option (Int) :=
 (wBb p0).bind fun x11 =>
 if x11=0 then
  if (↑p1.length:Int)=(↑p0.length:Int) then
   (wAn p1 (fun x=>wBC x p0)).bind fun x30 =>
   if x30=true then
    (wBa p1).bind fun x43 =>
    if x43=true then
     some 5
    else
     some 0
   else
    some 1
  else
   some 2
 else
  some x11
def wBV (p0:List wAB) (p1:List Int) (p2:Int):Option ((List wAA) × Int) :=
 (wCB p0 p1).bind fun x1 =>
 if x1=0 then
  (wBU p2 1 360000).bind fun x13 =>
  if x13=true then
   if 360000 < (w64 (p2 * (w64 ((↑p0.length:Int) - 1)))) then
    some ([],3)
   else
    (wBx 0 (↑p1.length:Int) (fun k47 l43 =>
     (idx p1 (↑k47:Int)).bind fun x72 =>
     (idx p0 x72).bind fun x82 =>
     (app 24 l43 [(⟨x82.Bib,w64 ((↑k47:Int) * p2),0⟩:wAA)]).bind fun x97 =>
     some x97) []).bind fun y52 =>
    some (y52,0)
  else
   some ([],3)
 else
  some ([],x1)
def wAs (p0:Int) (p1:Int) (p2:Int):Option (Bool) :=
 if p1 <= p0 then
  some (decide (p0 <= p2))
 else
  some false
def wAi (p0:wAF) (p1:(wAF->Option Bool)):Option (Bool) :=
 (p1 p0).bind fun x5 =>
 some (!x5)
def wAQ (p0:List wAF) (p1:(wAF->Option Bool)):Option (Int) :=
 jn (wDm 0 (↑p0.length:Int) (fun k2 _ =>
  (idx p0 (↑k2:Int)).bind fun x22 =>
  (p1 x22).bind fun x30 =>
  if x30=true then
   esc (some (↑k2:Int))
  else
   some (.inl ())) ()) fun _ =>
 some (-1)
def wAV (p0:List wAF) (p1:(wAF->Option Bool)):Option (Bool) :=
 (wAQ p0 p1).bind fun x1 =>
 some (decide (0 <= x1))
def wAy (p0:List wAF) (p1:(wAF->Option Bool)):Option (Bool) :=
 (wAV p0 (fun x=>wAi x p1)).bind fun x13 =>
 some (!x13)
def wBj (p0:wAF):Option (Bool) :=
 (wAs p0.Mass 1 10000).bind fun x5 =>
 if x5=true then
  (wAs p0.Reading 0 20000).bind fun x17 =>
  some x17
 else
  some false
def wBL (p0:Int) (p1:(Int->Option Bool)):Option (Bool) :=
 (p1 p0).bind fun x1 =>
 some (!x1)
def wAp (p0:List Int) (p1:(Int->Option Bool)):Option (Bool) :=
 (wAN p0 p1).bind fun x1 =>
 some (decide (0 <= x1))
def wCC (p0:List Int) (p1:(Int->Option Bool)):Option (Bool) :=
 (wAp p0 (fun x=>wBL x p1)).bind fun x13 =>
 some (!x13)
def wBk (p0:Int):Option (Bool) :=
 (wAs p0 0 20000).bind fun x1 =>
 some x1
def wCO (p0:wAM):Option (Int) :=
 if 10 < (↑p0.Tests.length:Int) then
  some 2
 else
  (wAs (↑p0.Rifles.length:Int) 1 8).bind fun x8 =>
  if x8=true then
   (wAs p0.Error 0 100).bind fun x20 =>
   if x20=true then
    (wAs p0.Least 1 10000).bind fun x32 =>
    if x32=true then
     (wAy p0.Tests wBj).bind fun x48 =>
     if x48=true then
      (wCC p0.Rifles wBk).bind fun x65 =>
      if x65=true then
       some 0
      else
       some 3
     else
      some 3
    else
     some 3
   else
    some 3
  else
   some 2
def wBJ (p0:wAM) (p1:wAF):Option (wAP) :=
 some (⟨max (-1000) (w64 ((w64 (p1.Reading - p1.Mass)) - p0.Error)),min 1000 (w64 ((w64 (p1.Reading - p1.Mass)) + p0.Error))⟩:wAP)
def wBr (p0:Int) (p1:List Int):Option (Int) :=
 (wBx 0 (↑p1.length:Int) (fun k7 x6 =>
  (idx p1 (↑k7:Int)).bind fun x28 =>
  some (max x6 x28)) p0).bind fun y12 =>
 some y12
def wCH (p0:wAP) (p1:wAP):Option (wAP) :=
 (wBr p0.Lo [p1.Lo]).bind fun x25 =>
 some (⟨x25,min p0.Hi p1.Hi⟩:wAP)
def wCE (p0:wAM):Option ((Option wAW) × Int) :=
 (wCO p0).bind fun x5 =>
 if x5=0 then
  (wBx 0 (↑p0.Tests.length:Int) (fun k34 (x32,x33) =>
   (idx p0.Tests (↑k34:Int)).bind fun x57 =>
   (wBJ p0 x57).bind fun x77 =>
   (wCH (⟨x32,x33⟩:wAP) x77).bind fun x87 =>
   some (x87.Lo,x87.Hi)) (-1000,1000)).bind fun (y39,y40) =>
  if y40 < y39 then
   some (none,7)
  else
   some ((some (⟨p0,(⟨(⟨y39,y40⟩:wAP),(⟨[false,false,false,false,false,false,false,false],rfl⟩:Arr Bool 8),(⟨[false,false,false,false,false,false,false,false],rfl⟩:Arr Bool 8)⟩:wAh)⟩:wAW)),0)
 else
  some (none,x5)
def wAj (p0:wAP):Option (Int) :=
 some p0.Lo
def wBn :Option (Unit) :=
 some ()
def wBP (p0:wAW) (p1:Int) (p2:wAP):Option (wAP) :=
 (idx p0.Scale.Rifles p1).bind fun x10 =>
 some (⟨w64 ((w64 (x10 - p2.Hi)) - p0.Scale.Error),w64 ((w64 (x10 - p2.Lo)) + p0.Scale.Error)⟩:wAP)
def wBS (p0:wAW) (p1:Int) (p2:wAP):Option (wAP) :=
 (idx p0.Scale.Rifles p1).bind fun x9 =>
 some (⟨w64 ((w64 (x9 - p2.Hi)) - p0.Scale.Error),w64 ((w64 (x9 - p2.Lo)) + p0.Scale.Error)⟩:wAP)
def wBW (p0:wAW) (p1:Int) (p2:wAh) (p3:wBN):Option (Bool) :=
 (wBP p0 p1 p2.offset).bind fun x62 =>
 (p3.of x62).bind fun x73 =>
 some (decide (p0.Scale.Least <= x73))
def wAk (p0:wAW) (p1:Int) (p2:wAh) (p3:wBN):Option (Bool) :=
 (wBS p0 p1 p2.offset).bind fun x36 =>
 (p3.of x36).bind fun x46 =>
 some (decide (p0.Scale.Least <= x46))
def wBt (p0:wAM):Option ((List Int) × Int) :=
 (wCE p0).bind fun (x5,x6) =>
 match x5 with
 | none =>
  if x6=0 then
   none
  else
   some ([],x6)
 | some x21 =>
  if x6=0 then
   (wBx 0 (↑x21.Scale.Rifles.length:Int) (fun k51 l47 =>
    (wBn).bind fun _ =>
    (wBW x21 (↑k51:Int) x21.first (⟨wAj⟩:wBN)).bind fun x90 =>
    if x90=true then
     (app 8 l47 [(↑k51:Int)]).bind fun x107 =>
     some x107
    else
     some l47) []).bind fun y56 =>
   some (y56,0)
  else
   some ([],x6)
def wBl (p0:wAP):Option (Int) :=
 some p0.Hi
def wCh :Option (Unit) :=
 some ()
def wBo {S E:Type} (f:S->Int->Option (S ⊕ E)) (s0:S) (p1:wAW) (p2:wAh):Option (S ⊕ E) :=
 jn (wDm 0 (↑p1.Scale.Rifles.length:Int) (fun k12 s10 =>
  (chk (↑k12:Int) 8).bind fun _ =>
  if (p2.pass.get k12)=true then
   some (.inl s10)
  else
   if (p2.fail.get k12)=true then
    some (.inl s10)
   else
    (wBn).bind fun _ =>
    (wAk p1 (↑k12:Int) p2 (⟨wAj⟩:wBN)).bind fun x66 =>
    if x66=true then
     some (.inl s10)
    else
     (wCh).bind fun _ =>
     (wAk p1 (↑k12:Int) p2 (⟨wBl⟩:wBN)).bind fun x95 =>
     if x95=true then
      (f s10 (↑k12:Int)).bind fun yr109 =>
      match yr109 with
      | .inl s119 =>
       some (.inl s119)
      | .inr s119 =>
       esc (some (.inr s119))
     else
      some (.inl s10)) s0) fun y136 =>
 some (.inl y136)
def wCF (p0:wAW) (p1:wAh):Option (Unit) :=
 some ()
def wAx (p0:List Int) (p1:(wAW × wAh)):Option ((List Int)) :=
 (wBo (S:=(List Int)) (E:=Empty) (fun l59 x74 =>
  (app 8 l59 [x74]).bind fun x102 =>
  some (.inl x102)) [] p1.1 p1.2).bind fun rr68 =>
 match rr68 with
 | .inl y122 =>
  some y122
 | .inr e125 =>
  e125.elim
def wBf (p0:(wAW × wAh)):Option ((List Int)) :=
 (wAx [] (p0.1,p0.2)).bind fun x1 =>
 some x1
def wCJ (p0:wAM):Option ((List Int) × Int) :=
 (wCE p0).bind fun (x5,x6) =>
 match x5 with
 | none =>
  if x6=0 then
   none
  else
   some ([],x6)
 | some x21 =>
  if x6=0 then
   (wCF x21 x21.first).bind fun _ =>
   (wBf (x21,x21.first)).bind fun x57 =>
   some (x57,0)
  else
   some ([],x6)
def wAv (p0:List wAA) (p1:(wAA->Option Bool)):Option (Bool) :=
 jn (wDm 0 (↑p0.length:Int) (fun k2 _ =>
  (idx p0 (↑k2:Int)).bind fun x22 =>
  (p1 x22).bind fun x37 =>
  if x37=true then
   some (.inl ())
  else
   esc (some false)) ()) fun _ =>
 some true
def wAq (p0:wAA):Option (Bool) :=
 (wBU p0.Bib 1 999).bind fun x5 =>
 if x5=true then
  (wBU p0.Time 0 360000).bind fun x17 =>
  if x17=true then
   (wBU p0.Gate 0 60).bind fun x29 =>
   some x29
  else
   some false
 else
  some false
def wBu (p0:Int) (p1:Int):Option (Bool) :=
 (wBG p0).bind fun x1 =>
 if x1=true then
  (wBG p1).bind fun x13 =>
  if x13=true then
   some (decide (p0 < p1))
  else
   some true
 else
  some (decide (p0 < p1))
def wAo (p0:List Int):Option (Bool) :=
 iter (fun x4 =>
  if 0 < x4 then
   (idx p0 x4).bind fun x21 =>
   (idx p0 (w64 (x4 - 1))).bind fun x29 =>
   (wBu x21 x29).bind fun x36 =>
   if x36=true then
    esc (some false)
   else
    some (.inl (w64 (x4 - 1)))
  else
   esc (some true)) big (w64 ((↑p0.length:Int) - 1))
def wBM (p0:List wAA):Option (Int) :=
 (wBx 0 (↑p0.length:Int) (fun k33 (l25,l29) =>
  ((idx p0 (↑k33:Int)).bind fun x70 =>
  (app 8 l25 [x70.Bib]).bind fun x90 =>
  (app 8 l29 [x70.Time]).bind fun x103 =>
  some (x90,x103)).bind fun (l61,l64) =>
  some (l61,l64)) ([],[])).bind fun (y38,y39) =>
 if 60 < (↑p0.length:Int) then
  some 2
 else
  (wAv p0 wAq).bind fun x301 =>
  if x301=true then
   (wBa y38).bind fun x318 =>
   if x318=true then
    some 5
   else
    (wAo y39).bind fun x336 =>
    if x336=true then
     some 0
    else
     some 4
  else
   some 3
def wBH (p0:wAA) (p1:Int):Option (Bool) :=
 some (decide (p0.Bib=p1))
def wAH (p0:List wAA) (p1:(wAA->Option Bool)):Option (Int) :=
 jn (wDm 0 (↑p0.length:Int) (fun k2 _ =>
  (idx p0 (↑k2:Int)).bind fun x22 =>
  (p1 x22).bind fun x30 =>
  if x30=true then
   esc (some (↑k2:Int))
  else
   some (.inl ())) ()) fun _ =>
 some (-1)
def wAU (p0:List wAA):Option ((List wAA)) :=
 (app 24 ([]:List wAA) p0).bind fun x11 =>
 some x11
def wAX (p0:List wAA) (p1:Int) (p2:Int):Option (List wAA):=wKk p0 p1 p2
def wBX (p0:List wAA) (p1:Int):Option ((List wAA) × Int) :=
 (wBM p0).bind fun x11 =>
 if x11=0 then
  (wAH p0 (fun x=>wBH x p1)).bind fun x26 =>
  if x26 < 0 then
   some ([],1)
  else
   (wAU p0).bind fun x42 =>
   (wAX x42 x26 (w64 (x26 + 1))).bind fun x55 =>
   some (x55,0)
 else
  some ([],x11)
def wCP (p0:List wAA) (p1:Int):Option (Int) :=
 (wBM p0).bind fun x1 =>
 if x1=0 then
  (wBU p1 1 6000).bind fun x13 =>
  if x13=true then
   some x1
  else
   some 3
 else
  some x1
def wAf (p0:Int) (p1:wAA) (p2:wAA):Option (Bool) :=
 some (decide ((max (w64 (p1.Time - p2.Time)) (w64 (p2.Time - p1.Time))) < p0))
def wBQ (p0:wAA) (p1:((wAA × wAA)->Option Bool)) (p2:wAA):Option (Bool) :=
 (p1 (p0,p2)).bind fun x5 =>
 some x5
def wCQ (p0:List wAA) (p1:Int):Option ((List wAA)) :=
 (wBx 0 (↑p0.length:Int) (fun k28 l25 =>
  (idx p0 (↑k28:Int)).bind fun x52 =>
  (cut p0 0 (↑(k28 + 1):Int)).bind fun x68 =>
  (wAH x68 (fun x=>wBQ x (fun x=>wAf p1 x.1 x.2) x52)).bind fun x90 =>
  if (↑l25.length:Int) < (w64 ((↑(k28 + 1):Int) - x90)) then
   (cut p0 x90 (↑(k28 + 1):Int)).bind fun x102 =>
   some x102
  else
   some l25) []).bind fun y33 =>
 some y33
def wBD (p0:List wAA) (p1:Int):Option (Int × Int) :=
 (wCP p0 p1).bind fun x1 =>
 if x1=0 then
  (wCQ p0 p1).bind fun x14 =>
  some ((↑x14.length:Int),0)
 else
  some (0,x1)
def wBc (p0:List Int) (p1:Int) (p2:Int):Option (Bool) :=
 (wCA p0).bind fun x1 =>
 (wAJ x1 5).bind fun (x16,x17) =>
 (wAK x17 (-9) 9).bind fun (x37,x38) =>
 (wAK x38 1 8).bind fun (x52,x53) =>
 (wBx 0 x52 (fun k118 (l105,x108,x109,l110,l114) =>
  (wAJ (⟨l105,x108,x109⟩:wAE) 3).bind fun (x152,x153) =>
  (wAJ x153 10).bind fun (x166,x167) =>
  (app 24 l114 [(⟨(↑(k118 + 1):Int),x152,w64 ((w64 ((w64 (10 * (↑k118:Int))) + x166)) + 1)⟩:wAB)]).bind fun x185 =>
  (wAJ x167 40).bind fun (x228,x229) =>
  (app 8 l110 [w64 ((w64 (3490 + x228)) + x37)]).bind fun x248 =>
  some (x229.bytes,x229.next,x229.state,x248,x185)) (x53.bytes,x53.next,x53.state,[],[])).bind fun (y123,y124,y125,y126,y127) =>
 (wAJ (⟨y123,y124,y125⟩:wAE) 3).bind fun (x303,x304) =>
 (wBx 0 x303 (fun k354 (l345,x348,x349,l350) =>
  (wAK (⟨l345,x348,x349⟩:wAE) 1 3).bind fun (x385,x386) =>
  (wAK x386 (w64 (-x16)) x16).bind fun (x433,x434) =>
  (app 16 l350 [(⟨w64 (1000 * x385),w64 ((w64 ((w64 (1000 * x385)) + x37)) + x433)⟩:wAF)]).bind fun x452 =>
  some (x434.bytes,x434.next,x434.state,x452)) (x304.bytes,x304.next,x304.state,[])).bind fun (y359,y360,y361,y362) =>
 (wBs y127).bind fun (x504,x505,x506) =>
 (wAe p1 300).bind fun x519 =>
 (wBV y127 x504 (w64 (x519 + 1))).bind fun (x537,x538) =>
 (wBt (⟨x16,3500,y362,y126⟩:wAM)).bind fun (x562,x563) =>
 (wCJ (⟨x16,3500,y362,y126⟩:wAM)).bind fun (x578,x579) =>
 if x506=0 then
  if x538=0 then
   if x563=0 then
    if x579=0 then
     if (↑x537.length:Int)=(↑y127.length:Int) then
      jn (wDm 0 (↑x562.length:Int) (fun k632 l629 =>
       (chk (↑k632:Int) x562.length).bind fun _ =>
       if (gd x562 k632) < 0 then
        esc (some false)
       else
        if (↑y127.length:Int) <= (gd x562 k632) then
         esc (some false)
        else
         (idx y127 (gd x562 k632)).bind fun x675 =>
         some (.inl (wFi l629 x675.Bib true))) ([]:List (Int × Bool))) fun y701 =>
      jn (wDm 0 (↑x578.length:Int) (fun k720 _ =>
       (chk (↑k720:Int) x578.length).bind fun _ =>
       if (gd x578 k720) < 0 then
        esc (some false)
       else
        if (↑y127.length:Int) <= (gd x578 k720) then
         esc (some false)
        else
         (idx y127 (gd x578 k720)).bind fun x761 =>
         if (wCL y701 x761.Bib false)=true then
          esc (some false)
         else
          some (.inl ())) ()) fun _ =>
      jn (wDm 0 (↑y127.length:Int) (fun k828 l825 =>
       (idx y127 (↑k828:Int)).bind fun x853 =>
       if (wCL y701 x853.Bib false)=true then
        some (.inl l825)
       else
        (wBX l825 x853.Bib).bind fun (x882,x883) =>
        if x883=0 then
         some (.inl x882)
        else
         esc (some false)) x537) fun y914 =>
      if (↑y914.length:Int)=(↑x562.length:Int) then
       jn (wDm 0 (↑x537.length:Int) (fun k938 x937 =>
        (idx x537 (↑k938:Int)).bind fun x962 =>
        if (wCL y701 x962.Bib false)=true then
         if (↑y914.length:Int) <= x937 then
          esc (some false)
         else
          (idx y914 x937).bind fun x988 =>
          if x988=x962 then
           some (.inl (w64 (x937 + 1)))
          else
           esc (some false)
        else
         some (.inl x937)) 0) fun y1009 =>
       (wAe p2 900).bind fun x1022 =>
       (wBD x537 (w64 (x1022 + 1))).bind fun (x1035,x1036) =>
       (wBD y914 (w64 (x1022 + 1))).bind fun (x1049,x1050) =>
       if x1036=0 then
        if x1050=0 then
         some (decide (x1049 <= x1035))
        else
         some false
       else
        some false
      else
       some false
     else
      some false
    else
     some false
   else
    some false
  else
   some false
 else
  some false
end
end Go.Proofs.Ytnbcoenjobdplaa
namespace Go.Proofs
open Go.RowKit Go.Lib
set_option maxHeartbeats 4000000 in
set_option maxRecDepth 100000 in
theorem delCalls20 (b c n i j:Nat) (cs:List Value) (w:World) (hcs:cs.length=n * 1) (h1:∀ v ∈ cs,v.oneCell'=true)
  (hcell:∀ k v,cs[k]?=some v->w.cell? ⟨b,k,none⟩=some v) (hfz:∀ k,k < n * 1->w.frozen? ⟨b,k,none⟩=false) (hn:n <= c) (_:c <= 9223372036854775807) (hij:i < j) (hj:j <= n) :
  Calls Try.prog 20 #[.slice (some ⟨b,0,none⟩) n c,.int .i64 i,.int .i64 j] w fun e w'=>e=.returned (.slice (some ⟨b,0,none⟩) (n - (j - i)) c) /\
   w'=(w.drew.setCells b (i * 1) (cs.drop (j * 1))).setCells b ((n - (j - i)) * 1) (nI ((j - i) * 1) (.int .i64 0)):=by
 obtain ⟨news,hnews⟩:∃ news,news=cs.drop (j * 1):=⟨_,rfl⟩
 have hlen:news.length=(n - j) * 1:=by rw [hnews,List.length_drop,hcs];omega
 obtain ⟨A,hA,hsrc⟩:∃ A:Addr,(if c=j then some (⟨b,0,none⟩:Addr) else some ⟨b,j * 1,none⟩)=some A/\Hid (∀ t u,news[t]?=some u->w.drew.cell? (A.add t)=some u):=by
  by_cases h:c=j
  ·refine ⟨⟨b,0,none⟩,by simp [h],fun t u hu=>?_⟩
   have h0:news.length=0:=by rw [hlen];omega
   rw [nP.1 h0] at hu
   simp at hu
  ·refine ⟨⟨b,j * 1,none⟩,by simp [h],fun t u hu=>?_⟩
   rw [hnews,nm] at hu
   rw [Addr.add_lit]
   exact hcell _ _ hu
 have s1:Hid (news.length=(n - j) * 1):=hlen
 have s2:Hid (∀ u ∈ news,u.oneCell'=true):=by
  intro u hu
  rw [hnews] at hu
  exact h1 u (nj hu)
 have hsome:∀ k,k < n * 1->(w.cell? ⟨b,k,none⟩).isSome=true:=fun k hk=>by
  rw [hcell k _ (nN (by omega))];rfl
 have s3:Hid (∀ t,t < news.length->(w.drew.cell? ⟨b,0 + i * 1 + t,none⟩).isSome=true/\w.drew.frozen? ⟨b,0 + i * 1 + t,none⟩=false):=by
  intro t ht
  rw [hlen] at ht
  exact ⟨hsome _ (by omega),hfz _ (by omega)⟩
 obtain ⟨W1,hW1⟩:∃ W1,W1=w.drew.setCells b (i * 1) news:=⟨_,rfl⟩
 have hcl:∀ ty,(Builtin.clear_ #[28] ty #[.slice (some ⟨b,(i + (n - j)) * 1,none⟩) (n - (i + (n - j))) (c - (i + (n - j)))]).run Try.prog W1=.ok (.tuple #[]) (W1.setCells b ((i + (n - j)) * 1) (nI ((n - (i + (n - j))) * 1) (.int .i64 0))) :=
  fun ty=>Go.KL.run_clear_sliceK W1 _ _ ty _ (.int .i64 0) 1 Try.underlying28 Try.zeroValue3 rfl (by omega) rfl b _ _ _ (by omega) (fun t ht=>by
   rw [hW1]
   exact Go.KL.isSome_setCells' b news (i * 1) w.drew (fun q hq=>hsome _ (by rw [hlen] at hq;omega)) _ (hsome ((i + (n - j)) * 1 + t) (by omega))) (fun t ht=>by rw [hW1,World.frozen?_setCells];exact hfz ((i + (n - j)) * 1 + t) (by omega))
 have hW:Hid (W1=w.drew.setCells b (0 + i * 1) news):=by rw [nK];exact hW1
 have hic:i <= c:=by omega
 have hjc:j <= c:=by omega
 have ty30:=Try.typeInfo3
 have mixed:Try.prog.follows .mixedOrders=true:=rfl
 have hnews':Hid (news=cs.drop (j * 1)):=hnews
 try simp only [ni] at hcl
 clear hW1 hsome hlen hnews
 go_enter Try.func20,Try.ntmps20
 go_wp2_with fail
 go_region_law_o (refine step_append_room rfl (.tmp 22) (.tmp 25) 28 rfl 3 _ 1 Try.underlying28 Try.type3 rfl b 0 i c (by simp [Act.eval,Act.put]) A (n - j) (c - j) news (by simp [Act.eval,Act.put] <;> first | assumption | simpa using hA) s1.out hsrc.out s2.out (by omega) s3.out ?_;rw [<- hW.out])
 go_wp2
 all_goals
  go_ret
  have e1:n - (j - i)=i + (n - j):=by omega
  have e2:n - (i + (n - j))=j - i:=by omega
  have hw:=hW.out
  rw [nK,hnews'.out] at hw
  refine ⟨by rw [e1];rfl,?_⟩
  first
  | (rw [e1,hw,e2];done)
  | (simp only [ni] at hw ⊢;rw [e1,hw,e2])
set_option maxHeartbeats 4000000 in
set_option maxRecDepth 100000 in
theorem delCalls32 (b c n i j:Nat) (cs:List Value) (w:World) (hcs:cs.length=n * 3) (h1:∀ v ∈ cs,v.oneCell'=true)
  (hcell:∀ k v,cs[k]?=some v->w.cell? ⟨b,k,none⟩=some v) (hfz:∀ k,k < n * 3->w.frozen? ⟨b,k,none⟩=false) (hn:n <= c) (_:c <= 9223372036854775807) (hij:i < j) (hj:j <= n) :
  Calls Try.prog 32 #[.slice (some ⟨b,0,none⟩) n c,.int .i64 i,.int .i64 j] w fun e w'=>e=.returned (.slice (some ⟨b,0,none⟩) (n - (j - i)) c) /\
   w'=(w.drew.setCells b (i * 3) (cs.drop (j * 3))).setCells b ((n - (j - i)) * 3) (nI ((j - i) * 3) (.int .i64 0)):=by
 obtain ⟨news,hnews⟩:∃ news,news=cs.drop (j * 3):=⟨_,rfl⟩
 have hlen:news.length=(n - j) * 3:=by rw [hnews,List.length_drop,hcs];omega
 obtain ⟨A,hA,hsrc⟩:∃ A:Addr,(if c=j then some (⟨b,0,none⟩:Addr) else some ⟨b,j * 3,none⟩)=some A/\Hid (∀ t u,news[t]?=some u->w.drew.cell? (A.add t)=some u):=by
  by_cases h:c=j
  ·refine ⟨⟨b,0,none⟩,by simp [h],fun t u hu=>?_⟩
   have h0:news.length=0:=by rw [hlen];omega
   rw [nP.1 h0] at hu
   simp at hu
  ·refine ⟨⟨b,j * 3,none⟩,by simp [h],fun t u hu=>?_⟩
   rw [hnews,nm] at hu
   rw [Addr.add_lit]
   exact hcell _ _ hu
 have s1:Hid (news.length=(n - j) * 3):=hlen
 have s2:Hid (∀ u ∈ news,u.oneCell'=true):=by
  intro u hu
  rw [hnews] at hu
  exact h1 u (nj hu)
 have hsome:∀ k,k < n * 3->(w.cell? ⟨b,k,none⟩).isSome=true:=fun k hk=>by
  rw [hcell k _ (nN (by omega))];rfl
 have s3:Hid (∀ t,t < news.length->(w.drew.cell? ⟨b,0 + i * 3 + t,none⟩).isSome=true/\w.drew.frozen? ⟨b,0 + i * 3 + t,none⟩=false):=by
  intro t ht
  rw [hlen] at ht
  exact ⟨hsome _ (by omega),hfz _ (by omega)⟩
 obtain ⟨W1,hW1⟩:∃ W1,W1=w.drew.setCells b (i * 3) news:=⟨_,rfl⟩
 have hcl:∀ ty,(Builtin.clear_ #[39] ty #[.slice (some ⟨b,(i + (n - j)) * 3,none⟩) (n - (i + (n - j))) (c - (i + (n - j)))]).run Try.prog W1=.ok (.tuple #[]) (W1.setCells b ((i + (n - j)) * 3) (nI ((n - (i + (n - j))) * 3) (.int .i64 0))) :=
  fun ty=>Go.KL.run_clear_sliceK W1 _ _ ty _ (.int .i64 0) 3 Try.underlying39 Try.zeroValue47 rfl (by omega) rfl b _ _ _ (by omega) (fun t ht=>by
   rw [hW1]
   exact Go.KL.isSome_setCells' b news (i * 3) w.drew (fun q hq=>hsome _ (by rw [hlen] at hq;omega)) _ (hsome ((i + (n - j)) * 3 + t) (by omega))) (fun t ht=>by rw [hW1,World.frozen?_setCells];exact hfz ((i + (n - j)) * 3 + t) (by omega))
 have hW:Hid (W1=w.drew.setCells b (0 + i * 3) news):=by rw [nK];exact hW1
 have hic:i <= c:=by omega
 have hjc:j <= c:=by omega
 have ty30:=Try.typeInfo47
 have mixed:Try.prog.follows .mixedOrders=true:=rfl
 have hnews':Hid (news=cs.drop (j * 3)):=hnews
 try simp only [ni] at hcl
 clear hW1 hsome hlen hnews
 go_enter Try.func32,Try.ntmps32
 go_wp2_with fail
 go_region_law_o (refine step_append_room rfl (.tmp 22) (.tmp 25) 39 rfl 47 _ 3 Try.underlying39 Try.type47 rfl b 0 i c (by simp [Act.eval,Act.put]) A (n - j) (c - j) news (by simp [Act.eval,Act.put] <;> first | assumption | simpa using hA) s1.out hsrc.out s2.out (by omega) s3.out ?_;rw [<- hW.out])
 go_wp2
 all_goals
  go_ret
  have e1:n - (j - i)=i + (n - j):=by omega
  have e2:n - (i + (n - j))=j - i:=by omega
  have hw:=hW.out
  rw [nK,hnews'.out] at hw
  refine ⟨by rw [e1];rfl,?_⟩
  first
  | (rw [e1,hw,e2];done)
  | (simp only [ni] at hw ⊢;rw [e1,hw,e2])
end Go.Proofs
namespace Go.Proofs.Ytnbcoenjobdplaa
open Go.KL
theorem wHj (x a b:Int):wBU x a b=some (decide (a <= x) && decide (x <= b)):=by
 unfold wBU
 by_cases h:a <= x <;> simp [h]
theorem wFu {K V:Type} [DecidableEq K] {m:List (K × V)} {x y:K} {v:V}:wGa (wFi m x v) y=if y=x then some v else wGa m y:=by
 induction m with
 | nil=>simp only [wFi,wGa]
 | cons p m ih =>
  obtain ⟨a,u⟩:=p
  rw [wFi]
  by_cases h:x=a
  ·subst h
   rw [if_pos rfl,wGa,wGa]
   split <;> rfl
  ·rw [if_neg h,wGa,wGa,ih]
   by_cases h2:y=a
   ·rw [if_pos h2,if_neg (fun e:y=x=>h (e.symm.trans h2)),if_pos h2]
   ·rw [if_neg h2,if_neg h2]
theorem wEs {l:List Int} (hl:l.length <= 1000):wBa l=some (!decide l.Nodup):=by
 unfold wBa
 rw [wDX (by omega)]
 have key:∀ (m k:Nat) (t:List (Int × Bool)),k + m=l.length->(∀ n,wCL t n false=decide (n ∈ l.take k))->(l.take k).Nodup ->
   jn (forN (fun k20 l17 =>
  (idx l (↑k20:Int)).bind fun x41 =>
  if (wCL l17 x41 false)=true then
   esc (some true)
  else
   some (.inl (wFi l17 x41 true))) m k t) (fun _=>some false)=some (!decide l.Nodup):=by
  intro m
  induction m with
  | zero =>
   intro k t hk _ hn
   rw [List.take_of_length_le (by omega)] at hn
   simp [forN,hn]
  | succ m ih =>
   intro k t hk ht hn
   have hlt:k < l.length:=by omega
   rw [forN,wBw hlt,hD,ht]
   by_cases c:gd l k ∈ l.take k
   ·have:¬ l.Nodup:=fun h=>by
     rw [<- nR k l,wGl hlt] at h
     exact (nq.1 h).2.2 _ c _ (by simp) rfl
    simp [c,this]
   ·rw [if_neg (by simpa using c)]
    simp only
    refine ih (k + 1) _ (by omega) (fun n=>?_) ?_
    ·unfold wCL at ht ⊢
     rw [wFu,wET hlt]
     by_cases e:n=gd l k
     ·rw [if_pos e];simp [e]
     ·rw [if_neg e,ht];simp [e]
    ·rw [wET hlt,nq]
     exact ⟨hn,by simp,fun a ha b hb e=>by simp at hb;subst hb;subst e;exact c ha⟩
 exact key l.length 0 [] (by omega) (fun n=>by simp [wCL,wGa]) (by simp)
theorem wCt {S:Type} {body:Nat->S->Option S} {n:Nat} {s0:S} (I:Nat->S->Prop) (hn:n <= 1000) (h0:I 0 s0) (h:∀ i s,i < n->I i s->∃ s',body i s=some s'/\I (i + 1) s'):∃ s,wBx 0 (n:Int) body s0=some s/\I n s:=by
 rw [wES (by omega)]
 have:=wFL (body:=body) I n 0 s0 h0 fun i s _ h2 h3=>h i s (by omega) h3
 rwa [nK] at this
theorem wHM {α:Type} [Inhabited α] {p:α->Bool}:∀ {l:List α} {j k:Nat},j < l.length->p (gd l j)=true->(∀ i,i < j->p (gd l i)=false)->first p l k=(k:Int) + j
 | [],j,k,h,_,_=>by simp at h
 | a :: l,0,k,h,h1,_=>by
  rw [first,if_pos (show p a=true from h1)];omega
 | a :: l,j + 1,k,h,h1,h2=>by
  have:=h2 0 (by omega)
  rw [first,if_neg (by rw [show p a=false from this];decide),wHM (j:=j) (by simpa using h) h1 fun i hi=>h2 (i + 1) (by omega)]
  omega
theorem wLH {α:Type} [Inhabited α] {l:List α} {n i:Nat} (h:i < n) (h2:i < l.length):gd (l.take n) i=gd l i:=by
 have h1:=wCu (xs:=l.take n) (k:=i) (by simp;omega)
 rw [List.getElem?_take_of_lt h,wCu h2] at h1
 exact (nv h1).symm
theorem wHN {α:Type} {p:α->Bool}:∀ {l:List α} {k:Nat},first p l k=-1 \/ ((k:Int) <= first p l k/\first p l k < k + l.length)
 | [],k=>.inl rfl
 | a :: l,k=>by
  rw [first]
  split
  ·right;simp;omega
  ·rcases wHN (p:=p) (l:=l) (k:=k + 1) with h | h
   ·exact .inl h
   ·right;simp at h ⊢;omega
theorem wEV {α:Type} [Inhabited α] {l:List α} {a:α} (h:a ∈ l):∃ i,i < l.length/\gd l i=a:=by
 obtain ⟨i,hi,e⟩:=List.getElem_of_mem h
 exact ⟨i,hi,by rw [wEo hi,e]⟩
theorem wGR {α:Type} [Inhabited α] {l:List α} {p:α->Int}:(l.map p).Nodup ↔ ∀ i,i < l.length->∀ j,j < i->p (gd l i) ≠ p (gd l j):=by
 rw [nA,nH]
 constructor
 ·intro h i hi j hj e
  have:=h j i (by simp;omega) (by simpa using hi) hj
  rw [nD,nD,<- wEo (by omega),<- wEo hi] at this
  exact this e.symm
 ·intro h i j hi hj hij e
  rw [nB] at hi hj
  rw [nD,nD,<- wEo hi,<- wEo hj] at e
  exact h j hj i hij e.symm
theorem wHk (a b:Int):wBh a b=some (if a < b then -1 else if b < a then 1 else 0):=by
 unfold wBh wBG
 simp only [not_true_eq_false,decide_false,hD,Bool.false_eq_true,if_false]
 split
 ·rfl
 ·split <;> rfl
end Go.Proofs.Ytnbcoenjobdplaa
namespace Go.Proofs.Ytnbcoenjobdplaa
open Go.KL
theorem wFv {f:wAB->Option Int} {p:wAB->Int} (hf:∀ s,f s=some (p s)) (a b:Int) {l:List wAB} (hl:l.length <= 1000):wAa (⟨f,a,b⟩:wAG) l=some (l.map p):=by
 unfold wAa
 rw [wJf (bytes:=8) (f:=p) (fun s _ r=>by simp only [hf,hD,wGm]) (by omega) (by omega)]
 rfl
theorem wGp {f:wAB->Option Int} {a b:Int} {l:List Int} (hl:l.length <= 1000):wAn l (fun x=>wAZ x (⟨f,a,b⟩:wAG))=some (l.all fun x=>decide (a <= x) && decide (x <= b)):=by
 unfold wAn
 rw [wFr (p:=fun x=>decide (a <= x) && decide (x <= b)) (z:=false) (fun x _=>by
  unfold wAZ
  simp only [wHj,hD]
  split <;> rfl) (by omega)]
 cases l.all fun x=>decide (a <= x) && decide (x <= b) <;> rfl
structure wDZ (f:List wAB):Prop where
 l1:1 <= f.length
 l2:f.length <= 60
 bib:∀ s ∈ f,1 <= s.Bib/\s.Bib <= 999
 rank:∀ s ∈ f,1 <= s.Rank/\s.Rank <= 9999
 nat:∀ s ∈ f,0 <= s.Nation/\s.Nation <= 30
 bibs:(f.map (·.Bib)).Nodup
 ranks:(f.map (·.Rank)).Nodup
def okB (s:wAB):Bool:=decide (1 <= s.Bib) && decide (s.Bib <= 999)
def okR (s:wAB):Bool:=decide (1 <= s.Rank) && decide (s.Rank <= 9999)
def okN (s:wAB):Bool:=decide (0 <= s.Nation) && decide (s.Nation <= 30)
def okF (s:wAB):Bool:=okB s && (okN s && okR s)
def wKQ (f:List wAB):Int:=if 1 <= f.length/\f.length <= 60 then (if f.all okF=true then (if (f.map (·.Bib)).Nodup/\(f.map (·.Rank)).Nodup then 0 else 5) else 3) else 2
theorem wGS {f:List wAB}:wKQ f=0 ↔ wDZ f:=by
 unfold wKQ
 constructor
 ·intro h
  by_cases h1:1 <= f.length/\f.length <= 60
  ·rw [if_pos h1] at h
   by_cases h2:f.all okF=true
   ·rw [if_pos h2] at h
    by_cases h3:(f.map (·.Bib)).Nodup/\(f.map (·.Rank)).Nodup
    ·have:=fun s hs=>hM.1 h2 s hs
     simp only [okF,okB,okN,okR,na,decide_eq_true_iff] at this
     exact ⟨h1.1,h1.2,fun s hs=>(this s hs).1,fun s hs=>(this s hs).2.2,fun s hs=>(this s hs).2.1,h3.1,h3.2⟩
    ·rw [if_neg h3] at h;omega
   ·rw [if_neg h2] at h;omega
  ·rw [if_neg h1] at h;omega
 ·intro G
  rw [if_pos ⟨G.l1,G.l2⟩,if_pos (hM.2 fun s hs=>by
   have h1:=G.bib s hs
   have h2:=G.nat s hs
   have h3:=G.rank s hs
   simp only [okF,okB,okN,okR,na,decide_eq_true_iff]
   exact ⟨h1,h2,h3⟩),if_pos ⟨G.bibs,G.ranks⟩]
theorem wHO {f:List wAB} (hl:f.length <= 1000):wBb f=some (wKQ f):=by
 unfold wBb wKQ
 rw [wHj,hD]
 by_cases h1:1 <= f.length/\f.length <= 60
 case neg=>rw [if_neg h1,if_neg (by simp;omega)]
 rw [if_pos h1,if_pos (by simp;omega)]
 unfold wCN
 rw [hD]
 have hall:f.all okF=(f.all okB && (f.all okN && f.all okR)):=by
  rw [Bool.eq_iff_iff]
  simp only [na,hM,okF]
  constructor
  ·exact fun h=>⟨fun s hs=>(h s hs).1,fun s hs=>(h s hs).2.1,fun s hs=>(h s hs).2.2⟩
  ·exact fun h s hs=>⟨h.1 s hs,h.2.1 s hs,h.2.2 s hs⟩
 have mB:(f.map (·.Bib)).all (fun x=>decide (1 <= x) && decide (x <= 999))=f.all okB:=by rw [nn];rfl
 have mR:(f.map (·.Rank)).all (fun x=>decide (1 <= x) && decide (x <= 9999))=f.all okR:=by rw [nn];rfl
 have mN:(f.map (·.Nation)).all (fun x=>decide (0 <= x) && decide (x <= 30))=f.all okN:=by rw [nn];rfl
 rw [wFv (f:=wAS) (p:=(·.Bib)) (fun _=>rfl) _ _ hl,hD,wGp (by simpa using hl),hD,mB]
 rw [wFv (f:=wAT) (p:=(·.Rank)) (fun _=>rfl) _ _ hl,hD,wGp (by simpa using hl),hD,mR]
 rw [wFv (f:=wAY) (p:=(·.Nation)) (fun _=>rfl) _ _ hl,hD,wGp (by simpa using hl),hD,mN]
 rw [hD,wEs (by simpa using hl),hD,hD,wEs (by simpa using hl),hD,hall]
 cases f.all okB with
 | false=>rfl
 | true =>
  cases f.all okR with
  | false=>cases f.all okN <;> rfl
  | true =>
   cases f.all okN with
   | false=>rfl
   | true =>
    simp only [if_true,Bool.true_and]
    by_cases hb:(f.map (·.Bib)).Nodup
    ·by_cases hr:(f.map (·.Rank)).Nodup
     ·simp [hb,hr]
     ·simp [hb,hr]
    ·simp [hb]
theorem wJi {f:List wAB} (G:wDZ f):wBb f=some 0:=by
 rw [wHO (by have:=G.l2;omega),wGS.2 G]
def rk (f:List wAB) (i:Int):Int:=(gd f i.toNat).Rank
theorem wFw {f:List wAB} {a b:Int} (ha:0 <= a/\a < f.length) (hb:0 <= b/\b < f.length):wAc a b f=some (if rk f a < rk f b then -1 else if rk f b < rk f a then 1 else 0):=by
 unfold wAc
 have e:∀ {i:Int},0 <= i->i < f.length->idx f i=some (gd f i.toNat):=fun h1 h2=>by
  unfold idx
  rw [if_pos h1,wCu (by omega)]
 rw [e ha.1 ha.2,hD,e hb.1 hb.2,hD,wHk,wGm]
 rfl
theorem wKD {f:List wAB} (G:wDZ f) {a b:Int} (ha:0 <= a/\a < f.length) (hb:0 <= b/\b < f.length) (e:rk f a=rk f b):a=b:=by
 unfold rk at e
 have pw:=nH.1 G.ranks
 have hi:a.toNat < (f.map (·.Rank)).length:=by simp;omega
 have hj:b.toNat < (f.map (·.Rank)).length:=by simp;omega
 have e':(f.map (·.Rank))[a.toNat]=(f.map (·.Rank))[b.toNat]:=by
  rw [nD,nD,<- wEo (by omega),<- wEo (by omega)]
  exact e
 rcases Int.lt_trichotomy a b with c | c | c
 ·exact absurd e' (pw _ _ hi hj (by omega))
 ·exact c
 ·exact absurd e'.symm (pw _ _ hj hi (by omega))
def wCw (n:Nat):List Int:=(nL n).map fun (k:Nat)=>(k:Int)
theorem wIe (n:Nat):(wCw n).Pairwise (· < ·):=by
 unfold wCw
 rw [List.pairwise_map]
 exact List.pairwise_lt_range.imp fun h=>by omega
theorem wCe {n:Nat}:∀ i ∈ wCw n,0 <= i/\i < n:=by
 intro i hi
 obtain ⟨k,hk,e⟩:=nc.1 hi
 have:=nV.1 hk
 omega
structure Rk (f:List wAB) (r:List Int):Prop where
 perm:r.Perm (wCw f.length)
 ord:r.Pairwise fun a b=>rk f a < rk f b
theorem wIf {f:List wAB} (G:wDZ f):∃ r,wBK f=some r/\Rk f r:=by
 unfold wBK
 have h1:=G.l1
 have h2:=G.l2
 rw [mkz,if_pos (by omega),hD]
 have e:=wEE (body:=fun (k24:Nat) (l23:List Int) =>
  (chk (↑k24:Int) l23.length).bind fun _ =>
  some (List.set l23 k24 (↑k24:Int))) (n:=f.length) (s0:=nI (f.length:Int).toNat 0) (fun k=>wCw k ++ nI (f.length - k) 0) (by simp [wCw]) (by omega) (fun i hi=>by
   have hl:(wCw i ++ nI (f.length - i) (0:Int)).length=f.length:=by simp [wCw];omega
   rw [wEa (by omega) (by omega),hD]
   congr 1
   have hn:(wCw i).length=i:=by simp [wCw]
   rw [List.set_append_right _ _ (by omega),hn,Nat.sub_self,show f.length - i=(f.length - (i + 1)) + 1 by omega,List.replicate_succ,List.set_cons_zero]
   have:wCw (i + 1)=wCw i ++ [(i:Int)]:=by unfold wCw;rw [nM,nS];rfl
   rw [this,nZ]
   rfl)
 rw [e,hD]
 simp only [Nat.sub_self,List.replicate_zero,List.append_nil]
 have C:Cmp (fun x:Int × Int=>wAc x.1 x.2 f) (wCw f.length):=by
  have lt:∀ x ∈ wCw f.length,∀ y ∈ wCw f.length,ltB (fun x:Int × Int=>wAc x.1 x.2 f) x y=decide (rk f x < rk f y):=fun x hx y hy=>by
   unfold ltB
   simp only
   rw [wFw (wCe x hx) (wCe y hy)]
   by_cases c:rk f x < rk f y
   ·simp [c]
   ·by_cases c2:rk f y < rk f x <;> simp [c,c2]
  refine ⟨by simp [wCw];omega,fun x hx y hy=>by simp only;rw [wFw (wCe x hx) (wCe y hy)];rfl,fun x hx=>by rw [lt x hx x hx];simp,fun x hx y hy z hz a b=>?_,fun x hx y hy z hz a b=>?_,fun x hx y hy a b=>?_⟩
  ·rw [lt x hx y hy] at a;rw [lt y hy z hz] at b;rw [lt x hx z hz]
   simp at a b ⊢;omega
  ·rw [lt x hx y hy] at a;rw [lt y hy z hz] at b;rw [lt x hx z hz]
   simp at a b ⊢;omega
  ·rw [lt x hx y hy] at a;rw [lt y hy x hx] at b
   simp at a b
   exact wKD G (wCe x hx) (wCe y hy) (by omega)
 unfold wBd
 rw [wJW C,hD]
 refine ⟨_,rfl,nk _ _,?_⟩
 have hp:=nk (wCw f.length) fun x y=>!ltB (fun x:Int × Int=>wAc x.1 x.2 f) y x
 have lt:∀ x ∈ wCw f.length,∀ y ∈ wCw f.length,ltB (fun x:Int × Int=>wAc x.1 x.2 f) x y=decide (rk f x < rk f y):=fun x hx y hy=>by
  unfold ltB
  simp only
  rw [wFw (wCe x hx) (wCe y hy)]
  by_cases c:rk f x < rk f y
  ·simp [c]
  ·by_cases c2:rk f y < rk f x <;> simp [c,c2]
 rw [wDr (le':=fun x y=>decide (rk f x <= rk f y)) (wCw f.length) (fun x hx y hy=>by
  rw [lt y hy x hx,<- decide_not]
  exact decide_eq_decide.2 (by omega))] at hp ⊢
 have so:=List.pairwise_mergeSort (le:=fun x y:Int=>decide (rk f x <= rk f y)) (fun a b c h1 h2=>by simp at h1 h2 ⊢;omega) (fun a b=>by simp;omega) (wCw f.length)
 have nd:((wCw f.length).mergeSort fun x y=>decide (rk f x <= rk f y)).Pairwise (· ≠ ·):=nA.1 (hp.nodup_iff.2 (nA.2 ((wIe _).imp fun h=>by omega)))
 refine (so.and nd).imp_of_mem fun {a b} ha hb h=>?_
 have h1:rk f a <= rk f b:=by simpa using h.1
 have h2:rk f a ≠ rk f b:=fun e=>h.2 (wKD G (wCe a (hp.mem_iff.1 ha)) (wCe b (hp.mem_iff.1 hb)) e)
 omega
end Go.Proofs.Ytnbcoenjobdplaa
namespace Go.Proofs.Ytnbcoenjobdplaa
open Go.KL
def col (f:List wAB) (i:Nat):Nat:=(gd f i).Nation.toNat
def man (f:List wAB) (x:Nat):Nat:=cnt (col f) f.length x
theorem wEt {p:Nat->Nat} {x:Nat}:∀ {t:Nat},cnt p t x <= t
 | 0=>nE _
 | t + 1=>by
  have:=wEt (p:=p) (x:=x) (t:=t)
  simp only [cnt]
  split <;> omega
theorem wIg (a:Arr Int 31) {i j:Nat} (hi:i < 31) (v:Int):(a.set i v).get j=if j=i then v else a.get j:=by
 unfold Arr.set Arr.get
 simp only [nX]
 by_cases e:j=i
 ·rw [if_pos e,e,List.getElem?_set_self (by rw [a.h];exact hi)]
  rfl
 ·rw [if_neg e,List.getElem?_set_ne (Ne.symm e)]
theorem wJj {x:Nat} (hx:x < 31):(Arr.fill 31 (0:Int)).get x=0:=by
 unfold Arr.fill Arr.get
 simp only [nX]
 rw [List.getElem?_replicate,if_pos hx]
 rfl
theorem wKE {f:List wAB} (G:wDZ f) {i:Nat} (hi:i < f.length):col f i < 31:=by
 have:=G.nat _ (wBq hi)
 unfold col
 omega
theorem wLI {f:List wAB} (G:wDZ f) {i:Nat} (hi:i < f.length):((col f i:Nat):Int)=(gd f i).Nation:=by
 have:=G.nat _ (wBq hi)
 unfold col
 omega
theorem wHl {f:List wAB} (G:wDZ f):∃ a,wBO f=some a/\∀ x,x < 31->a.get x=((man f x:Nat):Int):=by
 have h2:=G.l2
 obtain ⟨a,e,h⟩:=wCt (n:=f.length) (s0:=Arr.fill 31 0) (body:=fun (k17:Nat) (a16:Arr Int 31) =>
  (idx f (↑k17:Int)).bind fun x39 =>
  (chk x39.Nation 31).bind fun _ =>
  some (a16.set x39.Nation.toNat (w64 ((a16.get x39.Nation.toNat) + 1)))) (fun k a=>∀ x,x < 31->a.get x=((cnt (col f) k x:Nat):Int)) (by omega) (fun x hx=>by rw [wJj hx];rfl) (fun k a hk I=>by
   have hn:=G.nat _ (wBq hk)
   have hc:=wKE G hk
   rw [wBw hk,hD,wEa (by omega) (by omega),hD]
   refine ⟨_,rfl,fun x hx=>?_⟩
   rw [show (gd f k).Nation.toNat=col f k from rfl,wIg a hc]
   have hl:=wEt (p:=col f) (x:=col f k) (t:=k)
   by_cases e:x=col f k
   ·rw [if_pos e,I _ hc,wAR (by omega) (by omega),e]
    simp only [cnt,if_true]
    omega
   ·rw [if_neg e,I x hx]
    simp only [cnt,if_neg (Ne.symm e),Nat.add_zero])
 unfold wBO
 rw [e]
 exact ⟨a,rfl,h⟩
theorem wLJ {l:List Int} (h:1 <= l.length) (h2:l.length <= 1000):∃ M,wBI l=some M/\M ∈ l/\∀ x ∈ l,x <= M:=by
 unfold wBI
 rw [if_neg (by omega),show (0:Int)=((0:Nat):Int) from rfl,wBw (by omega),hD,wBx,if_pos (by omega)]
 obtain ⟨M,e,h⟩:=wFL (body:=fun (k17:Nat) (x16:Int) =>
   (idx l (1 + ↑k17:Int)).bind fun x37 =>
   some (max x16 x37)) (fun k M=>M ∈ l/\∀ i,i < k + 1->gd l i <= M) ((↑l.length:Int) - 1).toNat 0 (gd l 0) ⟨wBq (by omega),fun i hi=>by
    rw [show i=0 by omega];omega⟩ (fun k M _ hk ⟨i1,i2⟩=>by
    have hk':1 + k < l.length:=by omega
    refine ⟨max M (gd l (1 + k)),?_,?_,fun i hi=>?_⟩
    ·rw [show (1 + (k:Int))=((1 + k:Nat):Int) by omega,wBw hk',hD]
    ·have:=wBq hk'
     rcases Int.le_total M (gd l (1 + k)) with c | c
     ·rw [Int.max_eq_right c];exact this
     ·rw [Int.max_eq_left c];exact i1
    ·by_cases e:i=1 + k
     ·rw [e];omega
     ·have:=i2 i (by omega)
      omega)
 rw [e]
 refine ⟨M,rfl,h.1,fun x hx=>?_⟩
 obtain ⟨i,hi,ei⟩:=wEV hx
 rw [<- ei]
 exact h.2 i (by omega)
theorem wIh {S:Type} {body:Nat->S->Option S} {s0:S} (I:Nat->S->Prop) (h0:I 0 s0) (h:∀ i s,i < 31->I i s->∃ s',body i s=some s'/\I (i + 1) s'):∃ s,wBx 0 31 body s0=some s/\I 31 s:=wCt (n:=31) I (by omega) h0 h
theorem wHP {q:Nat->Bool}:∀ {C:Nat},((nL C).filter q).length=sm (fun x=>if q x=true then 1 else 0) C
 | 0=>rfl
 | C + 1=>by
  rw [nM,nJ,nO,wHP (C:=C)]
  simp only [sm]
  by_cases e:q C=true
  ·simp [e]
  ·simp [e]
def wHw (a:Arr Int 31) (M:Int) (k:Nat):List Int:=((nL k).filter fun x=>decide (a.get x=M)).map fun (x:Nat)=>(x:Int)
theorem wIi (a:Arr Int 31) {k:Nat} (h:k < 31):idx a.l (k:Int)=some (a.get k):=by
 rw [wEx]
 exact a.at_ h
theorem wKR {a:Arr Int 31} {x:Int} (h:x ∈ a.l):∃ k,k < 31/\a.get k=x:=by
 obtain ⟨k,hk,e⟩:=wEV h
 have:=a.h
 exact ⟨k,by omega,e⟩
theorem wGq (a:Arr Int 31):∃ M,wAb a=some (wHw a M 31,M)/\(∃ x,x < 31/\a.get x=M)/\∀ x,x < 31->a.get x <= M:=by
 have hl:=a.h
 obtain ⟨M,e1,e2,e3⟩:=wLJ (l:=a.l) (by omega) (by omega)
 unfold wAb
 rw [e1,hD]
 obtain ⟨s,e,hs⟩:=wIh (s0:=([]:List Int)) (body:=fun (k43:Nat) (l39:List Int) =>
  (idx (a.l:List Int) (↑k43:Int)).bind fun x66 =>
  if x66=M then
   (app 8 l39 [(↑k43:Int)]).bind fun x76 =>
   some x76
  else
   some l39) (fun k l=>l=wHw a M k) rfl (fun k l hk I=>by
   subst I
   have hlen:(wHw a M k).length <= 31:=by
    unfold wHw
    rw [nB]
    have:=nG (fun x=>decide (a.get x=M)) (nL k)
    rw [List.length_range] at this
    omega
   have e:wHw a M (k + 1)=if a.get k=M then wHw a M k ++ [(k:Int)] else wHw a M k:=by
    unfold wHw
    rw [nM,nJ,nS]
    by_cases e:a.get k=M
    ·simp [e]
    ·simp [e]
   rw [wIi a hk,hD,e]
   by_cases c:a.get k=M
   ·rw [if_pos c,if_pos c,wDY (by simp;omega)]
    exact ⟨_,rfl,rfl⟩
   ·rw [if_neg c,if_neg c]
    exact ⟨_,rfl,rfl⟩)
 rw [e,hD,hs]
 refine ⟨M,rfl,wKR e2,fun x hx=>e3 _ ?_⟩
 exact List.mem_of_getElem? (a.at_ hx)
theorem wJk {a:Arr Int 31} {M:Int} {k:Nat}:(wHw a M k).length=sm (fun x=>if a.get x=M then 1 else 0) k:=by
 unfold wHw
 rw [nB,wHP]
 exact wCX fun x _=>by simp
theorem wHQ {α:Type} [Inhabited α] (g:α->Nat) (l:List α) (x:Nat):cnt (fun r=>g (gd l r)) l.length x=l.countP (fun i=>decide (g i=x)):=by
 have key:∀ k,k <= l.length->cnt (fun r=>g (gd l r)) k x=(l.take k).countP (fun i=>decide (g i=x)):=by
  intro k
  induction k with
  | zero=>intro _;simp [cnt]
  | succ k ih =>
   intro hk
   rw [wET (by omega),np]
   simp only [cnt]
   rw [ih (by omega)]
   by_cases e:g (gd l k)=x
   ·simp [e]
   ·simp [e]
 rw [key _ (nE _),nf]
theorem wKS {n k:Nat} (h:k < n):gd (wCw n) k=(k:Int):=by
 rw [wEo (by simpa [wCw] using h)]
 simp [wCw]
theorem wLK {f:List wAB} {o:List Int} (h:o.Perm (wCw f.length)) (x:Nat):man f x=o.countP (fun i=>decide (col f i.toNat=x)):=by
 rw [h.countP_eq]
 have:=wHQ (fun i:Int=>col f i.toNat) (wCw f.length) x
 rw [<- this,show (wCw f.length).length=f.length by simp [wCw]]
 exact wEF fun r hr=>by rw [wKS hr];rfl
def pn (f:List wAB) (o:List Int) (r:Nat):Nat:=col f (gd o r).toNat
theorem wEW {f:List wAB} (G:wDZ f):sm (man f) 31=f.length:=wIa fun _ hr=>wKE G hr
end Go.Proofs.Ytnbcoenjobdplaa
namespace Go.Proofs.Ytnbcoenjobdplaa
open Go.KL
def Elg (a:Arr Int 31) (l:List (Int × Int)) (t d:Int) (k:Nat):Prop:=0 < a.get k/\(wID l (k:Int)=true->d <= w64 (t - wCL l (k:Int) 0))
def bRd (a:Arr Int 31) (l:List (Int × Int)) (t d:Int) (k174:Nat) (x173:Int):Option Int :=
  ((idx (a.l:List Int) (↑k174:Int)).bind fun x207 =>
          if 0 < x207 then
            if (wID l (↑k174:Int))=true then
              if d <= (w64 (t - (wCL l (↑k174:Int) 0))) then
                if x173 < 0 then
                  some (↑k174:Int)
                else
                  (chk x173 31).bind fun _ =>
                  if (a.get x173.toNat) < x207 then
                    some (↑k174:Int)
                  else
                    some x173
              else
                some x173
            else
              if x173 < 0 then
                some (↑k174:Int)
              else
                (chk x173 31).bind fun _ =>
                if (a.get x173.toNat) < x207 then
                  some (↑k174:Int)
                else
                  some x173
          else
            some x173).bind fun x203 =>
          some x203
def BI (a:Arr Int 31) (l:List (Int × Int)) (t d:Int) (k:Nat) (s:Int):Prop :=
 (s=-1/\∀ x,x < k->¬ Elg a l t d x) \/ ∃ b:Nat,b < k/\s=b/\Elg a l t d b/\∀ x,x < k->Elg a l t d x->a.get x <= a.get b
theorem wLL (a:Arr Int 31) (l:List (Int × Int)) (t d:Int) {k:Nat} (hk:k < 31) {s:Int} (I:BI a l t d k s):∃ s',bRd a l t d k s=some s'/\BI a l t d (k + 1) s':=by
 have no:¬ Elg a l t d k->BI a l t d (k + 1) s:=fun c=>by
  rcases I with ⟨i1,i2⟩ | ⟨b,b1,b2,b3,b4⟩
  ·refine .inl ⟨i1,fun x hx=>?_⟩
   by_cases e:x=k
   ·rw [e];exact c
   ·exact i2 x (by omega)
  ·refine .inr ⟨b,by omega,b2,b3,fun x hx ex=>?_⟩
   by_cases e:x=k
   ·rw [e] at ex;exact absurd ex c
   ·exact b4 x (by omega) ex
 have yes:Elg a l t d k->∃ s',(if s < 0 then some (k:Int) else (chk s 31).bind fun _=>if a.get s.toNat < a.get k then some (k:Int) else some s)=some s'/\BI a l t d (k + 1) s':=fun c=>by
  rcases I with ⟨i1,i2⟩ | ⟨b,b1,b2,b3,b4⟩
  ·rw [if_pos (by omega)]
   refine ⟨_,rfl,.inr ⟨k,by omega,rfl,c,fun x hx ex=>?_⟩⟩
   by_cases e:x=k
   ·rw [e];omega
   ·exact absurd ex (i2 x (by omega))
  ·rw [if_neg (by omega),wEa (by omega) (by omega),hD,show s.toNat=b by omega]
   by_cases h:a.get b < a.get k
   ·rw [if_pos h]
    refine ⟨_,rfl,.inr ⟨k,by omega,rfl,c,fun x hx ex=>?_⟩⟩
    by_cases e:x=k
    ·rw [e];omega
    ·have:=b4 x (by omega) ex
     omega
   ·rw [if_neg h]
    refine ⟨_,rfl,.inr ⟨b,by omega,b2,b3,fun x hx ex=>?_⟩⟩
    by_cases e:x=k
    ·rw [e];omega
    ·exact b4 x (by omega) ex
 unfold bRd
 rw [wIi a hk,hD]
 by_cases h1:0 < a.get k
 ·rw [if_pos h1]
  by_cases h2:wID l (k:Int)=true
  ·rw [if_pos h2]
   by_cases h3:d <= w64 (t - wCL l (k:Int) 0)
   ·rw [if_pos h3]
    obtain ⟨s',e,h⟩:=yes ⟨h1,fun _=>h3⟩
    rw [e]
    exact ⟨s',rfl,h⟩
   ·rw [if_neg h3]
    exact ⟨s,rfl,no fun c=>h3 (c.2 h2)⟩
  ·rw [if_neg h2]
   obtain ⟨s',e,h⟩:=yes ⟨h1,fun c=>absurd c h2⟩
   rw [e]
   exact ⟨s',rfl,h⟩
 ·rw [if_neg h1]
  exact ⟨s,rfl,no fun c=>h1 c.1⟩
theorem wKT (a:Arr Int 31) (l:List (Int × Int)) (t d:Int):∃ s,wBx 0 31 (bRd a l t d) (-1)=some s/\BI a l t d 31 s :=
 wIh (BI a l t d) (.inl ⟨rfl,fun x hx=>by omega⟩) fun i s hi I=>wLL a l t d hi I
def gRd (p0:List wAB) (d:Int) (k130:Nat):List (Int × Int) × Arr Int 31 × List Int × List Int->Option (List (Int × Int) × Arr Int 31 × List Int × List Int)
  | (l119,a122,l123,l126) =>
        (wBx 0 31 (bRd a122 l119 (↑k130:Int) d) (-1)).bind fun y179 =>
        (wAN l123 (fun x=>wAd x p0 y179)).bind fun x317 =>
        (chk x317 l123.length).bind fun _ =>
        (app 8 l126 [(gd l123 x317.toNat)]).bind fun x341 =>
        (wAu l123 x317 (w64 (x317 + 1))).bind fun x349 =>
        (chk y179 31).bind fun _ =>
        some ((wFi l119 y179 (↑k130:Int)),(a122.set y179.toNat (w64 ((a122.get y179.toNat) - 1))),x349,x341)
theorem wFx (p0:List wAB):wBs p0=(wBb p0).bind fun x11 =>
 if x11=0 then
  (wBO p0).bind fun x25 =>
  (wAb x25).bind fun (x43,x44) =>
  if 1 < x44 then
   (quo (w64 ((↑p0.length:Int) - (↑x43.length:Int))) (w64 (x44 - 1))).bind fun x61 =>
   (wBK p0).bind fun x66 =>
   (wBx 0 (↑p0.length:Int) (gRd p0 x61) (([]:List (Int × Int)),x25,x66,[])).bind fun (y135,y136,y137,y138) =>
   some ((y138,x61,0):List Int × Int × Int)
  else
   (wBK p0).bind fun x423 =>
   (wBx 0 (↑p0.length:Int) (gRd p0 (↑p0.length:Int)) (([]:List (Int × Int)),x25,x423,[])).bind fun (y492,y493,y494,y495) =>
   some ((y495,(↑p0.length:Int),0):List Int × Int × Int)
 else
  some (([],0,x11):List Int × Int × Int):=rfl
theorem wGT {α:Type} [Inhabited α] {p:α->Bool}:∀ {l:List α} {k:Nat},(∃ x ∈ l,p x=true)->∃ j,j < l.length/\first p l k=((k + j:Nat):Int)/\p (gd l j)=true
 | [],_,h=>by obtain ⟨x,hx,_⟩:=h;simp at hx
 | a :: l,k,h=>by
  rw [first]
  by_cases c:p a=true
  ·rw [if_pos c]
   exact ⟨0,by simp,rfl,c⟩
  ·rw [if_neg c]
   obtain ⟨x,hx,e⟩:=h
   rcases List.mem_cons.1 hx with rfl | hx
   ·exact absurd e c
   ·obtain ⟨j,j1,j2,j3⟩:=wGT (l:=l) (k:=k + 1) ⟨x,hx,e⟩
    refine ⟨j + 1,by simp;omega,by rw [j2];omega,?_⟩
    rw [show gd (a :: l) (j + 1)=gd l j from rfl]
    exact j3
theorem Gr.snoc {C d t:Nat} {c p p':Nat->Nat} (G:Gr C d c p t) (e:∀ r,r < t->p' r=p r) (h1:p' t < C) (h2:cnt p t (p' t) < c (p' t)) (h3:∀ r,r < t->p r=p' t->d <= t - r)
  (h4:∀ x,x < C->cnt p t x < c x->(∀ r,r < t->p r=x->d <= t - r)->c x - cnt p t x <= c (p' t) - cnt p t (p' t)):Gr C d c p' (t + 1):=by
 have ec:∀ s x,s <= t->cnt p' s x=cnt p s x:=fun s x hs=>wEF fun r hr=>e r (by omega)
 refine ⟨fun s hs=>?_,fun s hs=>?_,fun s hs r hr er=>?_,fun s hs x hx hx2 hx3=>?_⟩
 ·by_cases es:s=t
  ·rw [es];exact h1
  ·rw [e s (by omega)];exact G.lt s (by omega)
 ·rw [ec s _ (by omega)]
  by_cases es:s=t
  ·rw [es];exact h2
  ·rw [e s (by omega)];exact G.pos s (by omega)
 ·rw [e r (by omega)] at er
  by_cases es:s=t
  ·rw [es] at er hr ⊢;exact h3 r hr er
  ·rw [e s (by omega)] at er;exact G.gap s (by omega) r hr er
 ·rw [ec s _ (by omega)] at hx2 ⊢
  rw [ec s _ (by omega)]
  have hx3':∀ r,r < s->p r=x->d <= s - r:=fun r hr er=>hx3 r hr (by rw [e r (by omega)];exact er)
  by_cases es:s=t
  ·subst es;exact h4 x hx hx2 hx3'
  ·rw [e s (by omega)];exact G.best s (by omega) x hx hx2 hx3'
theorem Gr.zero {C d:Nat} {c p:Nat->Nat}:Gr C d c p 0:=⟨fun _ h=>by omega,fun _ h=>by omega,fun _ h=>by omega,fun _ h=>by omega⟩
structure SI (f:List wAB) (d:Nat) (t:Nat) (s:List (Int × Int) × Arr Int 31 × List Int × List Int):Prop where
 len:s.2.2.2.length=t
 perm:(s.2.2.2 ++ s.2.2.1).Perm (wCw f.length)
 gr:Gr 31 d (man f) (pn f s.2.2.2) t
 left:∀ x,x < 31->s.2.1.get x=((man f x - cnt (pn f s.2.2.2) t x:Nat):Int)
 last:∀ x:Nat,x < 31->(wGa s.1 (x:Int)=none/\∀ r,r < t->pn f s.2.2.2 r ≠ x) \/ ∃ r,r < t/\wGa s.1 (x:Int)=some (r:Int)/\pn f s.2.2.2 r=x/\∀ q,q < t->pn f s.2.2.2 q=x->q <= r
theorem wKU {f:List wAB} {d t:Nat} {s:List (Int × Int) × Arr Int 31 × List Int × List Int} (I:SI f d t s) (ht:t <= 1000) {x:Nat} (hx:x < 31) :
  Elg s.2.1 s.1 t d x ↔ cnt (pn f s.2.2.2) t x < man f x/\∀ r,r < t->pn f s.2.2.2 r=x->d <= t - r:=by
 unfold Elg
 rw [I.left x hx]
 constructor
 ·rintro ⟨h1,h2⟩
  refine ⟨by omega,fun r hr er=>?_⟩
  rcases I.last x hx with ⟨_,i2⟩ | ⟨q,q1,q2,q3,q4⟩
  ·exact absurd er (i2 r hr)
  ·have:=h2 (by rw [wID,q2];rfl)
   rw [wCL,q2,nu,wAR (by omega) (by omega)] at this
   have:=q4 r hr er
   omega
 ·rintro ⟨h1,h2⟩
  refine ⟨by omega,fun h=>?_⟩
  rcases I.last x hx with ⟨i1,_⟩ | ⟨q,q1,q2,q3,q4⟩
  ·rw [wID,i1] at h;exact absurd h (by decide)
  ·rw [wCL,q2,nu,wAR (by omega) (by omega)]
   have:=h2 q q1 q3
   omega
theorem wLM {f:List wAB} {o m:List Int} {r:Nat} (h:r < o.length):pn f (o ++ m) r=pn f o r:=by
 unfold pn
 rw [wHK h]
theorem wLN {f:List wAB} (G:wDZ f) {d:Nat} (hd:1 <= d) (h0:∀ u,0 < lv 31 (man f) (man f) 0 u->lv 31 (man f) (man f) 0 u + u * d <= f.length) {t:Nat} (ht:t < f.length) {s:List (Int × Int) × Arr Int 31 × List Int × List Int} (I:SI f d t s) :
  ∃ s',gRd f d t s=some s'/\SI f d (t + 1) s':=by
 have hf:=G.l2
 obtain ⟨l,a,sk,o⟩:=s
 have hlen:=I.len
 have hperm:=I.perm
 have hgr:=I.gr
 have hleft:=I.left
 have hlast:=I.last
 have hel:=fun (x:Nat) (hx:x < 31)=>wKU I (by omega) hx
 simp only at hlen hperm hgr hleft hlast hel
 unfold gRd
 simp only
 obtain ⟨y,ey,hy⟩:=wKT a l (t:Int) (d:Int)
 rw [ey,hD]
 obtain ⟨x,hx,hx2,hx3⟩:=wJg hgr hd h0 (wEW G) ht
 have hb:∃ b:Nat,b < 31/\y=b/\Elg a l t d b/\∀ x,x < 31->Elg a l t d x->a.get x <= a.get b:=by
  rcases hy with ⟨_,h2⟩ | h
  ·exact absurd ((hel x hx).2 ⟨hx2,hx3⟩) (h2 x hx)
  ·exact h
 clear hy hx hx2 hx3
 obtain ⟨b,b1,rfl,b2,b3⟩:=hb
 obtain ⟨c1,c2⟩:=(hel b b1).1 b2
 have hsk:∀ i ∈ sk,0 <= i/\i < (f.length:Int):=fun i hi=>wCe _ (hperm.mem_iff.1 (List.mem_append_right _ hi))
 have hnat:∀ i ∈ sk,(decide (col f i.toNat=b))=decide ((gd f i.toNat).Nation=b):=fun i hi=>by
  have:=hsk i hi
  have:=wLI G (i:=i.toNat) (by omega)
  rw [<- this]
  refine decide_eq_decide.2 ⟨fun h=>by omega,fun h=>by omega⟩
 have hex:∃ i ∈ sk,decide ((gd f i.toNat).Nation=b)=true:=by
  have e1:=wLK hperm b
  rw [np,<- wHQ (fun i:Int=>col f i.toNat) o b,hlen] at e1
  have e2:cnt (fun r=>col f (gd o r).toNat) t b=cnt (pn f o) t b:=rfl
  rw [e2] at e1
  have:0 < sk.countP (fun i=>decide (col f i.toNat=b)):=by omega
  obtain ⟨i,hi,e⟩:=List.countP_pos_iff.1 this
  exact ⟨i,hi,by rw [<- hnat i hi];exact e⟩
 have hskl:o.length + sk.length=f.length:=by
  rw [<- nO,hperm.length_eq];simp [wCw]
 have eI:wAN sk (fun x=>wAd x f (b:Int))=some (first (fun i:Int=>decide ((gd f i.toNat).Nation=b)) sk 0):=by
  unfold wAN
  refine wDc (z:=fun x=>x) (fun i hi=>?_) (by omega)
  have h:=hsk i hi
  unfold wAd
  obtain ⟨k,rfl⟩:=Int.eq_ofNat_of_zero_le h.1
  rw [wBw (by omega),hD]
  rfl
 obtain ⟨j,j1,j2,j3⟩:=wGT (k:=0) hex
 rw [nK] at j2
 have hi:=hsk _ (wBq j1)
 have ec:col f (gd sk j).toNat=b:=by
  have:=hnat _ (wBq j1)
  rw [j3] at this
  simpa using this
 rw [eI,j2,hD,wEa (by omega) (by omega),hD,wDY (by simp;omega),hD,wAR (by omega) (by omega),wAu,wKk,if_pos (by omega),hD,wEa (by omega) (by omega),hD]
 have e1:((j:Int)).toNat=j:=by omega
 have e2:((j:Int) + 1).toNat=j + 1:=by omega
 have e3:((b:Int)).toNat=b:=by omega
 rw [e1,e2,e3]
 refine ⟨_,rfl,?_⟩
 have old:∀ r,r < t->pn f (o ++ [gd sk j]) r=pn f o r:=fun r hr=>wLM (by omega)
 have new:pn f (o ++ [gd sk j]) t=b:=by
  unfold pn
  rw [<- hlen,wFs]
  exact ec
 have oc:∀ x,cnt (pn f (o ++ [gd sk j])) t x=cnt (pn f o) t x:=fun x=>wEF old
 refine ⟨by simp [hlen],?_,?_,fun x hx=>?_,fun x hx=>?_⟩
 ·simp only
  refine List.Perm.trans ?_ hperm
  have:sk=sk.take j ++ gd sk j :: sk.drop (j + 1):=by
   rw [<- wGl j1,nR]
  rw [nZ]
  refine List.Perm.append_left o ?_
  conv=>rhs;rw [this]
  rw [List.singleton_append]
  exact List.perm_middle.symm
 ·simp only
  refine hgr.snoc old (by rw [new];exact b1) (by rw [new];exact c1) (by rw [new];exact c2) fun x hx h1 h2=>?_
  rw [new]
  have:=b3 x hx ((hel x hx).2 ⟨h1,h2⟩)
  rw [hleft x hx,hleft b b1] at this
  omega
 ·simp only
  rw [wIg a b1]
  have hx2:=hleft b b1
  by_cases e:x=b
  ·have hm:man f b <= f.length:=wEt
   rw [if_pos e,hx2,wAR (by omega) (by omega),e]
   simp only [cnt,new,if_true,oc]
   omega
  ·rw [if_neg e,hleft x hx]
   simp only [cnt,new,if_neg (Ne.symm e),oc,Nat.add_zero]
 ·simp only
  rw [wFu]
  by_cases e:x=b
  ·rw [if_pos (by omega)]
   exact .inr ⟨t,by omega,rfl,by rw [new,e],fun q hq _=>by omega⟩
  ·rw [if_neg (by omega)]
   rcases hlast x hx with ⟨i1,i2⟩ | ⟨r,r1,r2,r3,r4⟩
   ·refine .inl ⟨i1,fun r hr=>?_⟩
    by_cases er:r=t
    ·rw [er,new];exact Ne.symm e
    ·rw [old r (by omega)];exact i2 r (by omega)
   ·refine .inr ⟨r,by omega,r2,by rw [old r r1];exact r3,fun q hq eq=>?_⟩
    by_cases er:q=t
    ·rw [er,new] at eq;exact absurd eq.symm e
    ·rw [old q (by omega)] at eq;exact r4 q (by omega) eq
theorem wIj {f:List wAB} (G:wDZ f) {d:Nat} (hd:1 <= d) (h0:∀ u,0 < lv 31 (man f) (man f) 0 u->lv 31 (man f) (man f) 0 u + u * d <= f.length) {a:Arr Int 31} (ha:∀ x,x < 31->a.get x=((man f x:Nat):Int)) {r:List Int} (R:Rk f r) :
  ∃ l a' sk o,wBx 0 (↑f.length:Int) (gRd f (d:Int)) (([]:List (Int × Int)),a,r,[])=some (l,a',sk,o)/\o.Perm (wCw f.length)/\Gap (pn f o) d f.length:=by
 have hf:=G.l2
 obtain ⟨⟨l,a',sk,o⟩,e,I⟩:=wCt (SI f d) (by omega) (s0:=(([]:List (Int × Int)),a,r,([]:List Int))) ⟨rfl,by simpa using R.perm,Gr.zero,fun x hx=>by simp only [cnt];rw [ha x hx];omega,fun x hx=>.inl ⟨rfl,fun r hr=>by omega⟩⟩ fun t s ht I=>wLN G hd h0 ht I
 have hperm:=I.perm
 have hlen:=I.len
 have hgr:=I.gr
 simp only at hperm hlen hgr
 have:sk=[]:=by
  have h:=hperm.length_eq
  rw [nO,hlen,show (wCw f.length).length=f.length by simp [wCw]] at h
  exact nP.1 (by omega)
 rw [this,List.append_nil] at hperm
 exact ⟨l,a',sk,o,e,hperm,hgr.gap⟩
end Go.Proofs.Ytnbcoenjobdplaa
namespace Go.Proofs.Ytnbcoenjobdplaa
open Go.KL
theorem wJl (n:Nat):(wCw n).length=n:=by simp [wCw]
theorem wLO {f:Nat->Nat} {x:Nat}:∀ {C:Nat},x < C->f x <= sm f C
 | 0,h=>by omega
 | C + 1,h=>by
  simp only [sm]
  by_cases e:x=C
  ·rw [e];omega
  ·have:=wLO (f:=f) (x:=x) (C:=C) (by omega)
   omega
theorem wLP (f:List wAB) (x:Nat):man f x <= f.length:=wEt
structure Grt (f:List wAB) (a:Arr Int 31) (m:Nat):Prop where
 cnt:wBO f=some a
 get:∀ x,x < 31->a.get x=((man f x:Nat):Int)
 grt:wAb a=some (wHw a m 31,(m:Int))
 hit:∃ x,x < 31/\man f x=m
 top:∀ x,x < 31->man f x <= m
 m1:1 <= m
 len:(wHw a m 31).length=nb 31 (man f) m
theorem wLQ {f:List wAB} (G:wDZ f):∃ a m,Grt f a m:=by
 have h1:=G.l1
 obtain ⟨a,e,ha⟩:=wHl G
 obtain ⟨M,e2,⟨x,hx,ex⟩,ht⟩:=wGq a
 rw [ha x hx] at ex
 subst ex
 have top:∀ y,y < 31->man f y <= man f x:=fun y hy=>by
  have:=ht y hy
  rw [ha y hy] at this
  omega
 refine ⟨a,man f x,e,ha,e2,⟨x,hx,rfl⟩,top,?_,?_⟩
 ·have h:=wIZ (f:=man f) (C:=31) (by rw [wEW G];omega)
  obtain ⟨y,hy,h⟩:=h
  have:=top y hy
  omega
 ·rw [wJk]
  refine wCX fun y hy=>?_
  have:=top y hy
  have:=ha y hy
  by_cases c:man f x <= man f y
  ·rw [if_pos (by omega),if_pos c]
  ·rw [if_neg (by omega),if_neg c]
def dd (f:List wAB) (m:Nat):Nat:=if 2 <= m then (f.length - nb 31 (man f) m) / (m - 1) else f.length
theorem wLR {C m:Nat} {c:Nat->Nat} (h:1 <= m):nb C c m <= sm c C:=wKO fun x _=>by
 split <;> omega
structure DD (f:List wAB) (m d:Nat):Prop where
 sum:(m - 1) * d + nb 31 (man f) m <= f.length
 d1:1 <= d
 dn:d <= f.length
theorem dd_ok {f:List wAB} (G:wDZ f) {m:Nat} (hit:∃ x,x < 31/\man f x=m) (top:∀ x,x < 31->man f x <= m) (m1:1 <= m):DD f m (dd f m):=by
 have h1:=G.l1
 have hb:=wLR (C:=31) (c:=man f) m1
 rw [wEW G] at hb
 unfold dd
 by_cases h2:2 <= m
 ·rw [if_pos h2]
  obtain ⟨x,hx,ex⟩:=hit
  have hk:1 <= nb 31 (man f) m:=by
   have:=wLO (f:=fun x=>if m <= man f x then 1 else 0) hx
   simp only [ex,nE,if_true] at this
   exact this
  have eg:gl 31 (man f) m=f.length:=by
   rw [<- wEW G]
   exact wCX fun y hy=>by have:=top y hy;omega
  have e2:=wFt (C:=31) (c:=man f) (m - 1)
  rw [Nat.sub_add_cancel m1,eg] at e2
  have hu:=wKP (C:=31) (c:=man f) (d:=nb 31 (man f) m) (m - 1) (fun i hi=>wId (by omega))
  have hq:nb 31 (man f) m <= (f.length - nb 31 (man f) m) / (m - 1):=(Nat.le_div_iff_mul_le (by omega)).2 (by rw [Nat.mul_comm];omega)
  have hm:=Nat.mul_div_le (f.length - nb 31 (man f) m) (m - 1)
  refine ⟨by omega,by omega,?_⟩
  have:=Nat.div_le_self (f.length - nb 31 (man f) m) (m - 1)
  omega
 ·rw [if_neg h2]
  have:m - 1=0:=by omega
  exact ⟨by rw [this];omega,by omega,by omega⟩
theorem wKV {a b:Nat} (ha:a <= 1000) (hb:0 < b):quo (a:Int) (b:Int)=some ((a / b:Nat):Int):=by
 unfold quo
 rw [if_neg (by omega)]
 have e:(a:Int).tdiv (b:Int)=((a / b:Nat):Int):=rfl
 rw [e]
 have:=Nat.div_le_self a b
 generalize a / b=q at this ⊢
 rw [wAR (by omega) (by omega)]
theorem wIk {f:List wAB} (G:wDZ f) {a:Arr Int 31} {m:Nat} (T:Grt f a m):∃ o,wBs f=some (o,((dd f m:Nat):Int),0)/\o.Perm (wCw f.length)/\Gap (pn f o) (dd f m) f.length:=by
 have h2:=G.l2
 have D:=dd_ok G T.hit T.top T.m1
 have h0:=wJh (p:=man f) T.m1 T.top (wEW G) D.sum
 obtain ⟨r,er,R⟩:=wIf G
 obtain ⟨l,a',sk,o,e,hp,hg⟩:=wIj G D.d1 h0 T.get R
 have hx:m <= f.length:=by obtain ⟨x,_,ex⟩:=T.hit;rw [<- ex];exact wLP f x
 have hb:=wLR (C:=31) (c:=man f) T.m1
 rw [wEW G] at hb
 rw [wFx,wJi G,hD,if_pos rfl,T.cnt,hD,T.grt,hD]
 simp only
 by_cases c:2 <= m
 ·have ed:dd f m=(f.length - nb 31 (man f) m) / (m - 1):=if_pos c
  rw [if_pos (by omega),T.len,wAR (by omega) (by omega),wAR (by omega) (by omega)]
  rw [show (f.length:Int) - (nb 31 (man f) m:Int)=((f.length - nb 31 (man f) m:Nat):Int) by omega,show (m:Int) - 1=((m - 1:Nat):Int) by omega,wKV (by omega) (by omega),hD,er,hD,<- ed,e,hD]
  exact ⟨o,rfl,hp,hg⟩
 ·have ed:dd f m=f.length:=if_neg c
  rw [if_neg (by omega),er,hD]
  rw [ed] at e hg ⊢
  rw [e,hD]
  exact ⟨o,rfl,hp,hg⟩
end Go.Proofs.Ytnbcoenjobdplaa
namespace Go.Proofs.Ytnbcoenjobdplaa
open Go.KL
theorem wHR {a b:Int} (h0:0 <= a) (hb:0 < b):∃ x,rem a b=some x/\0 <= x/\x < b:=by
 refine ⟨a.tmod b,if_neg (by omega),?_,?_⟩
 ·rw [nY h0];exact Int.emod_nonneg _ (by omega)
 ·rw [nY h0];exact Int.emod_lt_of_pos _ hb
theorem wGr (x:Int):0 <= wDT x:=by unfold wDT;omega
theorem wKW (x:Int):wDT x < 4294967296:=by unfold wDT;omega
theorem w64u (x:Int):w64 (wDT x)=wDT x:=by
 have:=wGr x
 have:=wKW x
 exact wAR (by omega) (by omega)
theorem wJm (a:Int) {b:Int} (hb:b ≠ 0):∃ x,quo a b=some x:=⟨_,if_neg hb⟩
theorem wEX (d:wAE) (n:Int) (h0:0 <= d.next) (h1:d.next <= 1000000):∃ x d',wAJ d n=some (x,d')/\0 <= d'.next/\d'.next <= d.next + 1/\0 <= x/\(x < n \/ (n <= 1/\x=0)):=by
 unfold wAJ
 by_cases hn:n <= 1
 ·exact ⟨0,d,by rw [if_pos hn],h0,by omega,by omega,.inr ⟨hn,rfl⟩⟩
 rw [if_neg hn]
 by_cases hl:(d.bytes.length:Int)=0
 ·exact ⟨0,d,by rw [if_pos hl],h0,by omega,by omega,.inl (by omega)⟩
 rw [if_neg hl]
 obtain ⟨r,e1,r0,r1⟩:=wHR h0 (show (0:Int) < d.bytes.length by omega)
 obtain ⟨b,e2⟩:∃ b,idx d.bytes r=some b:=by
  unfold idx
  rw [if_pos r0,nN (by omega)]
  exact ⟨_,rfl⟩
 obtain ⟨q,e3⟩:=wJm d.next (b:=d.bytes.length) hl
 obtain ⟨st,e4,_,_⟩:=wHR (wGr ((wDT ((wDT ((wDT (d.state * 45)) + (wDT b))) + (wDT (77 * (wDT q))))) + 1)) (b:=65519) (by decide)
 rw [e1,hD,e2,hD,e3,hD,e4,hD,wAR (x:=d.next + 1) (by omega) (by omega)]
 have fin:∀ z:Int,∃ x d',((rem (w64 (wDT z)) n).bind fun x=>some (x,(⟨d.bytes,d.next + 1,st⟩:wAE)))=some (x,d')/\0 <= d'.next/\d'.next <= d.next + 1/\0 <= x/\(x < n \/ (n <= 1/\x=0)):=by
  intro z
  obtain ⟨x,e5,x0,x1⟩:=wHR (a:=w64 (wDT z)) (b:=n) (by rw [w64u];exact wGr z) (by omega)
  exact ⟨x,_,by rw [e5];rfl,by show 0 <= d.next + 1;omega,by show d.next + 1 <= _;omega,x0,.inl x1⟩
 by_cases c1:wDT q=0
 ·rw [if_pos c1]
  by_cases c2:n <= 256
  ·rw [if_pos c2];exact fin _
  ·rw [if_neg c2];exact fin _
 ·rw [if_neg c1];exact fin _
theorem wFy (d:wAE) (a b:Int) (h0:0 <= d.next) (h1:d.next <= 1000000) (ha:-1000000 <= a) (hab:a <= b) (hb:b <= 1000000):∃ x d',wAK d a b=some (x,d')/\0 <= d'.next/\d'.next <= d.next + 1/\a <= x/\x <= b:=by
 unfold wAK
 rw [wAR (x:=b - a) (by omega) (by omega),wAR (x:=b - a + 1) (by omega) (by omega)]
 obtain ⟨x,d',e,n0,n1,x0,x1⟩:=wEX d (b - a + 1) h0 h1
 refine ⟨a + x,d',?_,n0,n1,by omega,by omega⟩
 rw [e,hD]
 simp only
 rw [wAR (by omega) (by omega)]
end Go.Proofs.Ytnbcoenjobdplaa
namespace Go.Proofs.Ytnbcoenjobdplaa
open Go.KL
def okS (s:wAA):Bool:=(decide (1 <= s.Bib) && decide (s.Bib <= 999)) && ((decide (0 <= s.Time) && decide (s.Time <= 360000)) && (decide (0 <= s.Gate) && decide (s.Gate <= 60)))
theorem wFz (s:wAA):okS s=true ↔ (1 <= s.Bib/\s.Bib <= 999)/\(0 <= s.Time/\s.Time <= 360000)/\0 <= s.Gate/\s.Gate <= 60:=by
 unfold okS
 simp
theorem wIl (s:wAA):wAq s=some (okS s):=by
 unfold wAq okS
 simp only [wHj,hD]
 by_cases h:(decide (1 <= s.Bib) && decide (s.Bib <= 999))=true
 ·rw [h]
  by_cases h2:(decide (0 <= s.Time) && decide (s.Time <= 360000))=true
  ·rw [h2];simp
  ·have:(decide (0 <= s.Time) && decide (s.Time <= 360000))=false:=by simpa using h2
   rw [this];simp
 ·have:(decide (1 <= s.Bib) && decide (s.Bib <= 999))=false:=by simpa using h
  rw [this];simp
theorem wKX {l:List wAA} {f:wAA->Option Bool} {p:wAA->Bool} (hf:∀ a,f a=some (p a)) (hn:l.length <= 1000):wAv l f=some (l.all p):=by
 unfold wAv
 rw [wFr (p:=p) (z:=false) (fun a _=>by rw [hf,hD];split <;> rfl) (by omega)]
 cases l.all p <;> rfl
theorem wKY (a b:Int):wBu a b=some (decide (a < b)):=by
 unfold wBu wBG
 simp
instance ascInt (l:List Int):Decidable (∀ k,k + 1 < l.length->gd l k <= gd l (k + 1)) :=
 decidable_of_iff (∀ k,k < l.length - 1->gd l k <= gd l (k + 1)) ⟨fun h k hk=>h k (by omega),fun h k hk=>h k (by omega)⟩
theorem wIm {l:List Int} (hl:l.length <= 1000):wAo l=some (decide (∀ k,k + 1 < l.length->gd l k <= gd l (k + 1))):=by
 unfold wAo
 rw [wAR (by omega) (by omega)]
 have key:∀ (m F:Nat) (x:Int),x=(m:Int) - 1->m <= l.length->(∀ k,m <= k + 1->k + 1 < l.length->gd l k <= gd l (k + 1))->m < F->iter (fun x4 =>
  if 0 < x4 then
   (idx l x4).bind fun x21 =>
   (idx l (w64 (x4 - 1))).bind fun x29 =>
   (wBu x21 x29).bind fun x36 =>
   if x36=true then
    esc (some false)
   else
    some (.inl (w64 (x4 - 1)))
  else
   esc (some true)) F x=some (decide (∀ k,k + 1 < l.length->gd l k <= gd l (k + 1))):=by
  intro m
  induction m with
  | zero =>
   intro F x hx _ h hF
   obtain ⟨F,rfl⟩:∃ G,F=G + 1:=⟨F - 1,by omega⟩
   rw [iter,if_neg (by omega)]
   have:(∀ k,k + 1 < l.length->gd l k <= gd l (k + 1)):=fun k hk=>h k (by omega) hk
   simp only [wFh,decide_eq_true this]
  | succ m ih =>
   intro F x hx hm h hF
   obtain ⟨F,rfl⟩:∃ G,F=G + 1:=⟨F - 1,by omega⟩
   rw [iter]
   by_cases c:0 < x
   ·obtain ⟨j,rfl⟩:∃ j,m=j + 1:=⟨m - 1,by omega⟩
    have ex:x=((j + 1:Nat):Int):=by omega
    rw [if_pos c,wAR (x:=x - 1) (by omega) (by omega),show x - 1=(j:Int) by omega,ex,wBw (by omega),hD,wBw (by omega),hD,wKY,hD]
    by_cases c2:gd l (j + 1) < gd l j
    ·have:¬ (∀ k,k + 1 < l.length->gd l k <= gd l (k + 1)):=fun hh=>by have:=hh j (by omega);omega
     rw [if_pos (by simpa using c2)]
     simp only [wFh,decide_eq_false this]
    ·rw [if_neg (by simpa using c2)]
     simp only
     refine ih F _ (by omega) (by omega) (fun k h1 h2=>?_) (by omega)
     by_cases e:k=j
     ·subst e;omega
     ·exact h k (by omega) h2
   ·rw [if_neg c]
    have:(∀ k,k + 1 < l.length->gd l k <= gd l (k + 1)):=fun k hk=>h k (by omega) hk
    simp only [wFh,decide_eq_true this]
 exact key l.length big _ rfl (nE _) (fun k h1 h2=>by omega) (by unfold big;omega)
def Asc (l:List wAA):Prop:=∀ k,k + 1 < l.length->(gd l k).Time <= (gd l (k + 1)).Time
instance (l:List wAA):Decidable (Asc l) :=
 decidable_of_iff (∀ k,k < l.length - 1->(gd l k).Time <= (gd l (k + 1)).Time) ⟨fun h k hk=>h k (by omega),fun h k hk=>h k (by omega)⟩
def wIn (l:List wAA):Int:=if 60 < l.length then 2 else if l.all okS then (if (l.map (·.Bib)).Nodup then (if Asc l then 0 else 4) else 5) else 3
theorem wEf {l:List wAA} (hl:l.length <= 1000):wBM l=some (wIn l):=by
 unfold wBM
 have e:(wBx 0 (↑l.length:Int) (fun k33 (l25,l29) =>
  ((idx l (↑k33:Int)).bind fun x70 =>
  (app 8 l25 [x70.Bib]).bind fun x90 =>
  (app 8 l29 [x70.Time]).bind fun x103 =>
  some (x90,x103)).bind fun (l61,l64) =>
  some (l61,l64)) (([]:List Int),([]:List Int)))=some (l.map (·.Bib),l.map (·.Time)):=by
  have:=wEE (body:=fun (k33:Nat) ((l25,l29):List Int × List Int) =>
   ((idx l (↑k33:Int)).bind fun x70 =>
   (app 8 l25 [x70.Bib]).bind fun x90 =>
   (app 8 l29 [x70.Time]).bind fun x103 =>
   some (x90,x103)).bind fun (l61,l64) =>
   some (l61,l64)) (n:=l.length) (s0:=(([]:List Int),([]:List Int))) (fun k=>((l.take k).map (·.Bib),(l.take k).map (·.Time))) rfl (by omega) (by
    intro i hi
    simp only
    rw [wBw hi,hD,wDY (by simp;omega),hD,wDY (by simp;omega),hD,hD,wET hi]
    simp)
  rw [nf] at this
  exact this
 rw [e,hD]
 simp only
 unfold wIn
 by_cases h60:60 < l.length
 ·rw [if_pos (by omega),if_pos h60]
 rw [if_neg (by omega),if_neg h60,wKX wIl hl,hD]
 by_cases ha:l.all okS=true
 ·rw [if_pos ha,if_pos ha,wEs (by simpa using hl),hD]
  by_cases hd:(l.map (·.Bib)).Nodup
  ·rw [if_neg (by simpa using hd),if_pos hd,wIm (by simpa using hl),hD]
   have:(∀ k,k + 1 < (l.map (·.Time)).length->gd (l.map (·.Time)) k <= gd (l.map (·.Time)) (k + 1)) ↔ Asc l:=by
    unfold Asc
    rw [nB]
    constructor
    ·intro h k hk
     have:=h k hk
     rwa [wEU _ (by omega),wEU _ hk] at this
    ·intro h k hk
     rw [wEU _ (by omega),wEU _ hk]
     exact h k hk
   simp only [this]
   by_cases hs:Asc l <;> simp [hs]
  ·rw [if_pos (by simpa using hd),if_neg hd]
 ·rw [if_neg ha,if_neg ha]
structure wGU (l:List wAA):Prop where
 len:l.length <= 60
 ok:∀ s ∈ l,(1 <= s.Bib/\s.Bib <= 999)/\(0 <= s.Time/\s.Time <= 360000)/\0 <= s.Gate/\s.Gate <= 60
 one:(l.map (·.Bib)).Nodup
 asc:Asc l
theorem wIo {l:List wAA}:wIn l=0 ↔ wGU l:=by
 unfold wIn
 constructor
 ·intro h
  by_cases h60:60 < l.length
  ·simp [h60] at h
  rw [if_neg h60] at h
  by_cases ha:l.all okS=true
  ·rw [if_pos ha] at h
   by_cases hd:(l.map (·.Bib)).Nodup
   ·rw [if_pos hd] at h
    by_cases hs:Asc l
    ·exact ⟨by omega,fun s hs=>(wFz s).1 (hM.1 ha s hs),hd,hs⟩
    ·rw [if_neg hs] at h;omega
   ·rw [if_neg hd] at h;omega
  ·rw [if_neg ha] at h;omega
 ·intro h
  rw [if_neg (by have:=h.len;omega),if_pos (hM.2 fun s hs=>(wFz s).2 (h.ok s hs)),if_pos h.one,if_pos h.asc]
theorem wHS {l:List wAA} (h:Asc l):∀ {j i:Nat},i <= j->j < l.length->(gd l i).Time <= (gd l j).Time
 | 0,i,h1,_=>by
  have:i=0:=by omega
  subst this;exact nt _
 | j + 1,i,h1,h2=>by
  by_cases e:i=j + 1
  ·subst e;exact nt _
  ·exact Int.le_trans (wHS h (show i <= j by omega) (by omega)) (h j h2)
theorem gd_in {l:List wAA} {k:Nat} (h:k < l.length):gd l k ∈ l:=wBq h
theorem wIp {l:List wAA} {f:wAA->Option Bool} {p:wAA->Bool} (hf:∀ a ∈ l,f a=some (p a)) (hn:l.length <= 1000):wAH l f=some (first p l 0):=by
 unfold wAH
 exact wDc (p:=p) hf (by omega) id
end Go.Proofs.Ytnbcoenjobdplaa
namespace Go.Proofs.Ytnbcoenjobdplaa
open Go.KL
def errC (l:List wAA) (c:Int):Int:=if wIn l=0 then (if 1 <= c/\c <= 6000 then 0 else 3) else wIn l
theorem wJn {l:List wAA} (hl:l.length <= 1000) (c:Int):wCP l c=some (errC l c):=by
 unfold wCP errC
 rw [wEf hl,hD]
 by_cases h:wIn l=0
 ·rw [if_pos h,if_pos h,wHj,hD,h]
  by_cases h1:1 <= c <;> by_cases h2:c <= 6000 <;> simp [h1,h2]
 ·rw [if_neg h,if_neg h]
structure wFN (l:List wAA) (c:Int):Prop where
 len:l.length <= 60
 ok:∀ s ∈ l,(1 <= s.Bib/\s.Bib <= 999)/\(0 <= s.Time/\s.Time <= 360000)/\0 <= s.Gate/\s.Gate <= 60
 one:(l.map (·.Bib)).Nodup
 asc:Asc l
 c1:1 <= c
 c2:c <= 6000
theorem wJo {l:List wAA} {c:Int}:errC l c=0 ↔ wFN l c:=by
 unfold errC wIn
 constructor
 ·intro h
  by_cases h60:60 < l.length
  ·simp [h60] at h
  by_cases ha:l.all okS=true
  ·by_cases hd:(l.map (·.Bib)).Nodup
   ·by_cases hs:Asc l
    ·simp only [h60,ha,hd,hs,if_true,if_false] at h
     by_cases hc:1 <= c/\c <= 6000
     ·exact ⟨by omega,fun s hs=>(wFz s).1 (hM.1 ha s hs),hd,hs,hc.1,hc.2⟩
     ·simp [hc] at h
    ·simp [h60,ha,hd,hs] at h
   ·simp [h60,ha,hd] at h
  ·simp [h60,ha] at h
 ·intro G
  have ha:l.all okS=true:=hM.2 fun s hs=>(wFz s).2 (G.ok s hs)
  have:=G.len
  rw [if_neg (show ¬ 60 < l.length by omega),if_pos ha,if_pos G.one,if_pos G.asc,if_pos rfl,if_pos ⟨G.c1,G.c2⟩]
def cl (c:Int) (a b:wAA):Prop:=a.Time - b.Time < c/\b.Time - a.Time < c
instance (c:Int) (a b:wAA):Decidable (cl c a b):=by unfold cl;exact inferInstance
theorem wJp {l:List wAA} {c:Int} (G:wFN l c) {a b:wAA} (ha:a ∈ l) (hb:b ∈ l):wAf c a b=some (decide (cl c a b)):=by
 have h1:=G.ok a ha
 have h2:=G.ok b hb
 unfold wAf cl
 rw [wAR (by omega) (by omega),wAR (by omega) (by omega)]
 congr 1
 exact decide_eq_decide.2 (by omega)
def wKF (l:List wAA) (c:Int) (k:Nat):Nat->Nat->Nat
 | 0,j=>j
 | m + 1,j=>if cl c (gd l j) (gd l k) then j else wKF l c k m (j + 1)
theorem wFO {l:List wAA} {c:Int} {k:Nat} (hk:cl c (gd l k) (gd l k)):∀ (m j:Nat),j + m=k->j <= wKF l c k m j/\wKF l c k m j <= k/\cl c (gd l (wKF l c k m j)) (gd l k)/\∀ i,j <= i->i < wKF l c k m j->¬ cl c (gd l i) (gd l k)
 | 0,j,h=>by
  obtain rfl:j=k:=by omega
  rw [wKF]
  exact ⟨nE _,nE _,hk,fun i h1 h2=>by omega⟩
 | m + 1,j,h=>by
  rw [wKF]
  by_cases c1:cl c (gd l j) (gd l k)
  ·rw [if_pos c1]
   exact ⟨nE _,by omega,c1,fun i h1 h2=>by omega⟩
  ·rw [if_neg c1]
   obtain ⟨a,b,d,e⟩:=wFO hk m (j + 1) (by omega)
   refine ⟨by omega,b,d,fun i h1 h2=>?_⟩
   by_cases e1:i=j
   ·subst e1;exact c1
   ·exact e i (by omega) h2
def fs (l:List wAA) (c:Int) (k:Nat):Nat:=wKF l c k k 0
theorem wIq {c:Int} (h:1 <= c) (a:wAA):cl c a a:=by unfold cl;omega
theorem wJq {l:List wAA} {c:Int} (G:wFN l c) {k:Nat}:fs l c k <= k:=(wFO (wIq G.c1 _) k 0 (by omega)).2.1
theorem wHT {l:List wAA} {c:Int} (G:wFN l c) {k i:Nat} (hk:k < l.length) (hi:i <= k):cl c (gd l i) (gd l k) ↔ fs l c k <= i:=by
 obtain ⟨a,b,d,e⟩:=wFO (l:=l) (wIq G.c1 (gd l k)) k 0 (by omega)
 constructor
 ·intro h
  rcases Nat.lt_or_ge i (fs l c k) with h1 | h1
  ·exact absurd h (e i (by omega) h1)
  ·exact h1
 ·intro h
  have h1:=wHS G.asc h (by omega)
  have h2:=wHS G.asc hi hk
  have hc:=G.c1
  have d':cl c (gd l (fs l c k)) (gd l k):=d
  unfold cl at d' ⊢
  omega
def mx (l:List wAA) (c:Int):Nat->Nat
 | 0=>0
 | k + 1=>max (mx l c k) (k + 1 - fs l c k)
theorem wLS {l:List wAA} {c:Int}:∀ {n k:Nat},k < n->k + 1 - fs l c k <= mx l c n
 | n + 1,k,h=>by
  rw [mx]
  by_cases e:k=n
  ·subst e;omega
  ·have:=wLS (l:=l) (c:=c) (n:=n) (k:=k) (by omega)
   omega
theorem wLT {l:List wAA} {c:Int} (G:wFN l c):∀ {n:Nat},n ≠ 0->∃ k,k < n/\mx l c n=k + 1 - fs l c k
 | 0,h=>absurd rfl h
 | n + 1,_=>by
  rw [mx]
  have hf:=wJq G (k:=n)
  by_cases e:mx l c n <= n + 1 - fs l c n
  ·exact ⟨n,by omega,by omega⟩
  ·have h0:n ≠ 0:=fun h=>by subst h;simp [mx] at e
   obtain ⟨k,h1,h2⟩:=wLT G h0
   exact ⟨k,by omega,by omega⟩
theorem wLU {l:List wAA} {c:Int}:∀ {n:Nat},mx l c n <= n
 | 0=>nE _
 | n + 1=>by
  rw [mx]
  have:=wLU (l:=l) (c:=c) (n:=n)
  omega
theorem wKG {α:Type} {l:List α} {a b:Nat} (h1:a <= b) (h2:b <= l.length):cut l (a:Int) (b:Int)=some ((l.drop a).take (b - a)):=by
 unfold cut
 rw [if_pos (by omega)]
 rfl
def sg (l:List wAA) (a b:Nat):List wAA:=(l.drop a).take (b - a)
theorem wLV {l:List wAA} {a b:Nat} (h1:a <= b) (h2:b <= l.length):(sg l a b).length=b - a:=by
 unfold sg;simp;omega
theorem wJr {l:List wAA} {c:Int} (G:wFN l c) {k:Nat} (hk:k < l.length):wAH (l.take (k + 1)) (fun x=>wBQ x (fun x=>wAf c x.1 x.2) (gd l k))=some (fs l c k:Int):=by
 have hl:=G.len
 have hf:=wJq G (k:=k)
 rw [wIp (p:=fun a=>decide (cl c a (gd l k))) (fun a ha=>by
  unfold wBQ
  dsimp only
  rw [wJp G (List.mem_of_mem_take ha) (gd_in hk)]
  rfl) (by simp;omega)]
 congr 1
 have:=wHM (p:=fun a=>decide (cl c a (gd l k))) (l:=l.take (k + 1)) (j:=fs l c k) (k:=0) (by simp;omega) (by
  rw [wLH (by omega) (by omega)]
  simpa using (wHT G hk hf).2 (nE _)) (fun i hi=>by
  rw [wLH (by omega) (by omega)]
  have:=mt (wHT G hk (show i <= k by omega)).1 (by omega)
  simpa using this)
 rw [this];omega
theorem wJs {l:List wAA} {c:Int} (G:wFN l c):∃ s,wCQ l c=some s/\s.length=mx l c l.length/\(l.length=0 \/ ∃ k,k < l.length/\s=sg l (fs l c k) (k + 1)):=by
 have hl:=G.len
 unfold wCQ
 simp only [wGm]
 refine wCt (n:=l.length) (s0:=([]:List wAA)) (fun n s=>s.length=mx l c n/\(n=0 \/ ∃ k,k < n/\s=sg l (fs l c k) (k + 1))) (by omega) ⟨rfl,.inl rfl⟩ ?_
 rintro k s hk ⟨h1,h2⟩
 have hf:=wJq G (k:=k)
 have hm:=wLU (l:=l) (c:=c) (n:=k)
 rw [wBw hk,hD]
 have e0:cut l 0 (↑(k + 1):Int)=some (l.take (k + 1)):=by
  have:=wKG (l:=l) (a:=0) (b:=k + 1) (by omega) (by omega)
  simpa using this
 rw [e0,hD,wJr G hk,hD,wAR (by omega) (by omega)]
 by_cases hc:(s.length:Int) < (↑(k + 1):Int) - (fs l c k:Int)
 ·rw [if_pos hc,wKG (by omega) (by omega)]
  refine ⟨_,rfl,?_,.inr ⟨k,by omega,rfl⟩⟩
  have:=wLV (l:=l) (a:=fs l c k) (b:=k + 1) (by omega) (by omega)
  unfold sg at this
  rw [this,mx]
  omega
 ·rw [if_neg hc]
  refine ⟨s,rfl,by rw [mx,<- h1];omega,.inr ?_⟩
  rcases h2 with h2 | ⟨j,h2,h3⟩
  ·subst h2
   rw [mx] at h1
   omega
  ·exact ⟨j,by omega,h3⟩
theorem wHU {l:List wAA} {c:Int} (G:wFN l c):wBD l c=some ((mx l c l.length:Int),0):=by
 unfold wBD
 have hl:=G.len
 obtain ⟨s,e,h,_⟩:=wJs G
 rw [wJn (by omega),wJo.2 G,hD,if_pos rfl,e,hD,h]
theorem wGs {l:List wAA} (hl:l.length <= 1000):wAU l=some l:=by
 unfold wAU
 rw [wDY (by simp;omega)];rfl
def wd (l:List wAA) (b:Int):List wAA × Int :=
 if wIn l=0 then (if first (fun s=>decide (s.Bib=b)) l 0 < 0 then ([],1) else (l.take (first (fun s=>decide (s.Bib=b)) l 0).toNat ++ l.drop ((first (fun s=>decide (s.Bib=b)) l 0).toNat + 1),0)) else ([],wIn l)
theorem wIr {l:List wAA} {k:Int} (h0:0 <= k) (h1:k < l.length) (hl:l.length <= 1000):wAX l k (w64 (k + 1))=some (l.take k.toNat ++ l.drop (k.toNat + 1)):=by
 unfold wAX wKk
 rw [wAR (by omega) (by omega),if_pos (by omega)]
 congr 3
 omega
theorem wGt {l:List wAA} (hl:l.length <= 1000) (b:Int):wBX l b=some (wd l b):=by
 unfold wBX wd
 rw [wEf hl,hD]
 by_cases h:wIn l=0
 ·rw [if_pos h,if_pos h,wIp (f:=fun x=>wBH x b) (p:=fun s=>decide (s.Bib=b)) (fun a _=>rfl) hl,hD]
  by_cases h2:first (fun s=>decide (s.Bib=b)) l 0 < 0
  ·rw [if_pos h2,if_pos h2]
  ·rw [if_neg h2,if_neg h2,wGs hl,hD]
   have:=wHN (p:=fun s:wAA=>decide (s.Bib=b)) (l:=l) (k:=0)
   rw [wIr (by omega) (by omega) hl,hD]
 ·rw [if_neg h,if_neg h]
end Go.Proofs.Ytnbcoenjobdplaa
namespace Go.Proofs.Ytnbcoenjobdplaa
open Go.KL
structure Emb (l' l:List wAA) (e:Nat->Nat):Prop where
 at_:∀ i,i < l'.length->e i < l.length/\gd l' i=gd l (e i)
 up:∀ j i,i < j->j < l'.length->e i + (j - i) <= e j
theorem wEY (p:wAA->Bool):∀ l:List wAA,∃ e,Emb (l.filter p) l e
 | []=>⟨id,fun i h=>by simp at h,fun j i _ h=>by simp at h⟩
 | a :: l=>by
  obtain ⟨e,E⟩:=wEY p l
  by_cases h:p a=true
  ·refine ⟨fun i=>match i with | 0=>0 | i + 1=>e i + 1,?_,?_⟩
   ·rw [nQ h]
    intro i hi
    cases i with
    | zero=>exact ⟨by simp,rfl⟩
    | succ i =>
     have:=E.at_ i (by simpa using hi)
     exact ⟨by simp;omega,this.2⟩
   ·rw [nQ h]
    intro j i hij hj
    cases j with
    | zero=>omega
    | succ j =>
     cases i with
     | zero =>
      simp only
      have hj':j < (l.filter p).length:=by simpa using hj
      cases j with
      | zero=>omega
      | succ j=>have:=E.up (j + 1) 0 (by omega) hj';omega
     | succ i =>
      have:=E.up j i (by omega) (by simpa using hj)
      simp only;omega
  ·rw [ng h]
   exact ⟨fun i=>e i + 1,fun i hi=>⟨by have:=(E.at_ i hi).1;simp;omega,(E.at_ i hi).2⟩,fun j i h1 h2=>by have:=E.up j i h1 h2;omega⟩
theorem wHm {l:List wAA} (h:Asc l) (p:wAA->Bool):Asc (l.filter p):=by
 obtain ⟨e,E⟩:=wEY p l
 intro k hk
 rw [(E.at_ k (by omega)).2,(E.at_ (k + 1) hk).2]
 exact wHS h (by have:=E.up (k + 1) k (by omega) hk;omega) (E.at_ (k + 1) hk).1
theorem wEg {l:List wAA} (G:wGU l) (p:wAA->Bool):wGU (l.filter p) :=
 ⟨Nat.le_trans (nG _ _) G.len,fun s hs=>G.ok s ((nT.1 hs).1),List.Sublist.nodup (List.filter_sublist.map _) G.one,wHm G.asc p⟩
theorem wHV {l:List wAA} (G:wGU l) {c:Int} (h1:1 <= c) (h2:c <= 6000):wFN l c:=⟨G.len,G.ok,G.one,G.asc,h1,h2⟩
theorem wIs {l:List wAA} {c:Int} (G:wFN l c) (p:wAA->Bool) (G':wFN (l.filter p) c):mx (l.filter p) c (l.filter p).length <= mx l c l.length:=by
 obtain ⟨e,E⟩:=wEY p l
 by_cases h0:(l.filter p).length=0
 ·rw [h0];simp [mx]
 obtain ⟨k,h1,h2⟩:=wLT G' h0
 rw [h2]
 have hf:=wJq G' (k:=k)
 have hk:=E.at_ k h1
 have hi:=E.at_ (fs (l.filter p) c k) (by omega)
 have hc:cl c (gd (l.filter p) (fs (l.filter p) c k)) (gd (l.filter p) k):=(wHT G' h1 hf).2 (nE _)
 rw [hk.2,hi.2] at hc
 have hup:e (fs (l.filter p) c k) + (k - fs (l.filter p) c k) <= e k:=by
  by_cases e1:fs (l.filter p) c k=k
  ·rw [e1];omega
  ·exact E.up k _ (by omega) h1
 have:=(wHT G hk.1 (show e (fs (l.filter p) c k) <= e k by omega)).1 hc
 have h3:=wLS (l:=l) (c:=c) hk.1
 omega
theorem wEh {b:Int}:∀ {l:List wAA},(l.map (·.Bib)).Nodup->(∃ s ∈ l,s.Bib=b) ->
  ∃ j,j < l.length/\(∀ k:Nat,first (fun s=>decide (s.Bib=b)) l k=((k + j:Nat):Int))/\l.take j ++ l.drop (j + 1)=l.filter fun s=>decide (s.Bib ≠ b)
 | [],_,h=>by obtain ⟨s,hs,_⟩:=h;cases hs
 | a :: l,hn,h=>by
  rw [List.map_cons,List.nodup_cons] at hn
  by_cases e:a.Bib=b
  ·refine ⟨0,by simp,fun k=>by rw [first,if_pos (by simpa using e)];omega,?_⟩
   rw [ng (by simpa using e)]
   have:∀ s ∈ l,decide (s.Bib ≠ b)=true:=fun s hs=>by
    have:s.Bib ≠ b:=fun h2=>hn.1 (by rw [e,<- h2];exact List.mem_map_of_mem hs)
    simpa using this
   rw [nl.2 this];rfl
  ·obtain ⟨s,hs,h2⟩:=h
   have hs':s ∈ l:=by
    rcases List.mem_cons.1 hs with rfl | h3
    ·exact absurd h2 e
    ·exact h3
   obtain ⟨j,h3,h4,h5⟩:=wEh (b:=b) hn.2 ⟨s,hs',h2⟩
   refine ⟨j + 1,by simpa using h3,fun k=>by rw [first,if_neg (by simpa using e),h4];omega,?_⟩
   rw [nQ (by simpa using e),<- h5];rfl
theorem wIt {l:List wAA} (G:wGU l) {b:Int} (h:∃ s ∈ l,s.Bib=b):wd l b=(l.filter fun s=>decide (s.Bib ≠ b),0):=by
 obtain ⟨j,h1,h2,h3⟩:=wEh G.one h
 unfold wd
 rw [if_pos (wIo.2 G),h2 0,if_neg (by omega),<- h3]
 rw [show ((0 + j:Nat):Int).toNat=j by omega]
theorem wGV (p:wAA->Bool) {l:List wAA} {k:Nat} (hk:k < l.length):l.filter p=(l.take k).filter p ++ (if p (gd l k)=true then [gd l k] else []) ++ (l.drop (k + 1)).filter p:=by
 have:l=l.take k ++ (gd l k :: l.drop (k + 1)):=by rw [<- wGl hk,nR]
 conv=>lhs;rw [this]
 rw [nJ,List.filter_cons]
 split <;> simp
theorem wGu (p:wAA->Bool) {l:List wAA} {k:Nat} (hk:k < l.length):((l.take (k + 1)).filter p).length=((l.take k).filter p).length + if p (gd l k)=true then 1 else 0:=by
 rw [wET hk,nJ,nO]
 by_cases h:p (gd l k)=true <;> simp [h]
end Go.Proofs.Ytnbcoenjobdplaa
namespace Go.Proofs.Ytnbcoenjobdplaa
open Go.KL
def errO (f:List wAB) (o:List Int):Int:=if wKQ f=0 then (if o.length=f.length then (if o.all (fun x=>decide (0 <= x) && decide (x <= (f.length:Int) - 1))=true then (if o.Nodup then 0 else 5) else 1) else 2) else wKQ f
theorem wHn {f:List wAB} {o:List Int} (hf:f.length <= 1000) (ho:o.length <= 1000):wCB f o=some (errO f o):=by
 have ea:wAn o (fun x=>wBC x f)=some (o.all fun x=>decide (0 <= x) && decide (x <= (f.length:Int) - 1)):=by
  unfold wAn
  rw [wFr (p:=fun x=>decide (0 <= x) && decide (x <= (f.length:Int) - 1)) (z:=false) (fun x _=>by
   unfold wBC
   rw [wAR (by omega) (by omega)]
   simp only [wHj,hD]
   split <;> rfl) (by omega)]
  cases o.all fun x=>decide (0 <= x) && decide (x <= (f.length:Int) - 1) <;> rfl
 unfold wCB errO
 rw [wHO hf,hD]
 by_cases h1:wKQ f=0
 ·rw [if_pos h1,if_pos h1]
  by_cases h2:o.length=f.length
  ·rw [if_pos (by omega),if_pos h2,ea,hD]
   by_cases h3:(o.all fun x=>decide (0 <= x) && decide (x <= (f.length:Int) - 1))=true
   ·rw [if_pos h3,if_pos h3,wEs ho,hD]
    by_cases h4:o.Nodup
    ·simp [h4]
    ·simp [h4]
   ·rw [if_neg h3,if_neg h3]
  ·rw [if_neg (by omega),if_neg h2]
 ·rw [if_neg h1,if_neg h1]
theorem wDd {n:Nat} {o:List Int} (h:o.Perm (wCw n)):o.length=n/\(∀ i ∈ o,0 <= i/\i < (n:Int))/\o.Nodup :=
 ⟨by rw [h.length_eq,wJl],fun i hi=>wCe _ (h.mem_iff.1 hi),h.nodup_iff.2 (nA.2 ((wIe n).imp fun h=>by omega))⟩
theorem wIu {f:List wAB} (G:wDZ f) {o:List Int} (h:o.Perm (wCw f.length)):errO f o=0:=by
 obtain ⟨h1,h2,h3⟩:=wDd h
 unfold errO
 rw [if_pos (wGS.2 G),if_pos h1,if_pos (hM.2 fun x hx=>by
  have:=h2 x hx
  simp
  omega),if_pos h3]
def iv (f:List wAB) (o:List Int) (p:Int) (k:Nat):List wAA:=(nL k).map fun i=>⟨(gd f (gd o i).toNat).Bib,w64 ((i:Int) * p),0⟩
theorem wGA {α:Type} {l:List α} [Inhabited α] {g:α->Int} (h:∀ i j,i < j->j < l.length->g (gd l i) ≠ g (gd l j)):(l.map g).Nodup:=by
 rw [nA,nH]
 intro i j hi hj hij e
 rw [nB] at hi hj
 rw [nD,nD,<- wEo hi,<- wEo hj] at e
 exact h i j hij hj e
theorem wIv (v:Int) {n:Int} (h1:1 <= n) (h2:n <= 1000):∃ x,wBi v n=some x/\0 <= x/\x < n:=by
 unfold wBi
 rw [if_neg (by omega),rem,if_neg (by omega),hD]
 have a1:=Int.lt_tmod_of_pos v (show 0 < n by omega)
 have a2:=Int.tmod_lt_of_pos v (show 0 < n by omega)
 rw [wAR (by omega) (by omega)]
 obtain ⟨x,e,x0,x1⟩:=wHR (a:=v.tmod n + n) (b:=n) (by omega) (by omega)
 rw [e,hD]
 exact ⟨x,rfl,x0,x1⟩
theorem wFZ (f:List wAB) (o:List Int) (p:Int) (k:Nat):(iv f o p k).length=k:=by simp [iv]
theorem wHo {f:List wAB} {o:List Int} {p:Int} {n k:Nat} (h:k < n):gd (iv f o p n) k=⟨(gd f (gd o k).toNat).Bib,w64 ((k:Int) * p),0⟩:=by
 unfold iv
 rw [wEU _ (by simpa using h)]
 have:gd (nL n) k=k:=by
  have h1:=wCu (xs:=nL n) (k:=k) (by simpa using h)
  rw [List.getElem?_range h] at h1
  exact (nv h1).symm
 rw [this]
theorem wGv {f:List wAB} (G:wDZ f) {o:List Int} (h:o.Perm (wCw f.length)) {p:Int} (p1:1 <= p) (p2:p <= 1000):wBV f o p=some (iv f o p f.length,0):=by
 have hf:=G.l2
 obtain ⟨h1,h2,_⟩:=wDd h
 unfold wBV
 rw [wHn (by omega) (by omega),hD,wIu G h,if_pos rfl,wHj,hD,if_pos (by simp;omega)]
 have hm:p * ((f.length:Int) - 1) <= 1000 * 60:=by
  have a1:p * ((f.length:Int) - 1) <= p * 60:=nU (by omega) (by omega)
  omega
 have hm0:0 <= p * ((f.length:Int) - 1):=Int.mul_nonneg (by omega) (by have:=G.l1;omega)
 rw [wAR (x:=(f.length:Int) - 1) (by omega) (by omega),wAR (by omega) (by omega),if_neg (by omega)]
 have hs:∀ k,iv f o p (k + 1)=iv f o p k ++ [⟨(gd f (gd o k).toNat).Bib,w64 ((k:Int) * p),0⟩]:=fun k=>by
  unfold iv
  rw [nM,nS]
  rfl
 have e1:wBx 0 (↑f.length:Int) (fun k47 l43 =>
  (idx o (↑k47:Int)).bind fun x72 =>
  (idx f x72).bind fun x82 =>
  (app 24 l43 [(⟨x82.Bib,w64 ((↑k47:Int) * p),0⟩:wAA)]).bind fun x97 =>
  some x97) []=some (iv f o p f.length):=wEE (iv f o p) rfl (by omega) (fun i hi=>by
  have hi2:=h2 _ (wBq (l:=o) (k:=i) (by omega))
  have e:gd o i=(((gd o i).toNat:Nat):Int):=by omega
  rw [wBw (by omega),hD,show idx f (gd o i)=idx f (((gd o i).toNat:Nat):Int) by rw [<- e],wBw (by omega),hD,wDY (by rw [wFZ];simp;omega),hD,hs])
 rw [h1,e1,hD]
theorem wKZ {f:List wAB} (G:wDZ f) {o:List Int} (h:o.Perm (wCw f.length)) {p:Int} (p1:1 <= p) (p2:p <= 1000):wGU (iv f o p f.length):=by
 have hf:=G.l2
 obtain ⟨h1,h2,h3⟩:=wDd h
 have ht:∀ k:Nat,k < f.length->w64 ((k:Int) * p)=(k:Int) * p/\0 <= (k:Int) * p/\(k:Int) * p <= 60000:=fun k hk=>by
  have a1:(k:Int) * p <= (k:Int) * 1000:=nU p2 (by omega)
  have a0:0 <= (k:Int) * p:=Int.mul_nonneg (by omega) (by omega)
  exact ⟨wAR (by omega) (by omega),a0,by omega⟩
 have hi:∀ k,k < f.length->0 <= gd o k/\gd o k < f.length:=fun k hk=>h2 _ (wBq (by omega))
 refine ⟨by rw [wFZ];exact hf,fun s hs=>?_,?_,fun k hk=>?_⟩
 ·obtain ⟨k,hk,rfl⟩:=wEV hs
  rw [wFZ] at hk
  rw [wHo hk]
  have:=hi k hk
  have hb:=G.bib _ (wBq (l:=f) (k:=(gd o k).toNat) (by omega))
  have:=ht k hk
  simp only
  omega
 ·refine wGA fun i j hij hj e=>?_
  rw [wFZ] at hj
  rw [wHo (by omega),wHo hj] at e
  simp only at e
  have a:=hi i (by omega)
  have b:=hi j hj
  have hb:=G.bibs
  have e2:(gd o i).toNat=(gd o j).toNat:=by
   rcases Nat.lt_trichotomy (gd o i).toNat (gd o j).toNat with c | c | c
   ·exact absurd e.symm (wGR.1 hb _ (by omega) _ c)
   ·exact c
   ·exact absurd e (wGR.1 hb _ (by omega) _ c)
  have:=nH.1 (nA.1 h3) i j (by omega) (by omega) hij
  rw [<- wEo,<- wEo] at this
  exact this (by omega)
 ·rw [wFZ] at hk
  rw [wHo (by omega),wHo hk]
  simp only
  rw [(ht k (by omega)).1,(ht (k + 1) hk).1]
  have:(k:Int) * p <= ((k + 1:Nat):Int) * p:=Int.mul_le_mul_of_nonneg_right (by omega) (by omega)
  exact this
end Go.Proofs.Ytnbcoenjobdplaa
namespace Go.Proofs.Ytnbcoenjobdplaa
open Go.KL
theorem wDK (x a b:Int):wAs x a b=some (decide (a <= x) && decide (x <= b)):=by
 unfold wAs
 by_cases h:a <= x <;> simp [h]
theorem wKa {l:List wAF} {f:wAF->Option Bool} {p:wAF->Bool} (hf:∀ a ∈ l,f a=some (p a)) (hn:l.length <= 1000):wAQ l f=some (first p l 0):=by
 unfold wAQ
 exact wDc (p:=p) hf (by omega) id
theorem wKb {l:List Int} {f:Int->Option Bool} {p:Int->Bool} (hf:∀ a ∈ l,f a=some (p a)) (hn:l.length <= 1000):wAN l f=some (first p l 0):=by
 unfold wAN
 exact wDc (p:=p) hf (by omega) id
theorem wKc {l:List wAF} {f:wAF->Option Bool} {p:wAF->Bool} (hf:∀ a ∈ l,f a=some (p a)) (hn:l.length <= 1000):wAy l f=some (l.all p):=by
 unfold wAy wAV
 rw [wKa (p:=fun a=>!p a) (fun a ha=>by unfold wAi;rw [hf a ha];rfl) hn,hD,hD,wFM,<- nh,Bool.not_not]
theorem wKd {l:List Int} {f:Int->Option Bool} {p:Int->Bool} (hf:∀ a ∈ l,f a=some (p a)) (hn:l.length <= 1000):wCC l f=some (l.all p):=by
 unfold wCC wAp
 rw [wKb (p:=fun a=>!p a) (fun a ha=>by unfold wBL;rw [hf a ha];rfl) hn,hD,hD,wFM,<- nh,Bool.not_not]
structure wIw (s:wAM) (off:Int):Prop where
 e0:0 <= s.Error
 e1:s.Error <= 100
 least:s.Least=3500
 o0:-9 <= off
 o1:off <= 9
 tl:s.Tests.length <= 10
 t:∀ t ∈ s.Tests,1 <= t.Mass/\t.Mass <= 10000/\0 <= t.Reading/\t.Reading <= 20000/\t.Reading - t.Mass - off <= s.Error/\-s.Error <= t.Reading - t.Mass - off
 r1:1 <= s.Rifles.length
 r8:s.Rifles.length <= 8
 r:∀ x ∈ s.Rifles,0 <= x/\x <= 20000
theorem wIx {s:wAM} {off:Int} (G:wIw s off):wCO s=some 0:=by
 have h8:=G.r8
 have h1:=G.r1
 have ht:=G.tl
 unfold wCO
 rw [if_neg (by omega),wDK,hD,if_pos (by simp;omega),wDK,hD,if_pos (by simp;exact ⟨G.e0,G.e1⟩),wDK,hD,G.least,if_pos (by decide),
  wKc (p:=fun t=>(decide (1 <= t.Mass) && decide (t.Mass <= 10000)) && (decide (0 <= t.Reading) && decide (t.Reading <= 20000))) (fun a _=>by
   unfold wBj
   rw [wDK,wDK,hD,hD]
   cases (decide (1 <= a.Mass) && decide (a.Mass <= 10000)) <;> rfl) (by omega),hD,if_pos (hM.2 fun t ht=>by
   have:=G.t t ht
   simp;omega),
  wKd (p:=fun x=>decide (0 <= x) && decide (x <= 20000)) (fun a _=>by unfold wBk;rw [wDK];rfl) (by omega),hD,if_pos (hM.2 fun x hx=>by
   have:=G.r x hx
   simp;omega)]
def noB:Arr Bool 8:=⟨[false,false,false,false,false,false,false,false],rfl⟩
theorem wKe:∀ k,k < 8->noB.get k=false:=by decide
def wDB (s:wAM) (lo hi:Int):wAW:=⟨s,⟨⟨lo,hi⟩,noB,noB⟩⟩
theorem wGW (a b:Int):wBr a [b]=some (max a b):=by
 unfold wBr
 rfl
theorem wIy {s:wAM} {off:Int} (G:wIw s off):∃ lo hi,wCE s=some (some (wDB s lo hi),0)/\-1000 <= lo/\lo <= off/\off <= hi/\hi <= 1000:=by
 unfold wCE
 have ht:=G.tl
 have h0:=G.o0
 have h1:=G.o1
 have he0:=G.e0
 have he1:=G.e1
 rw [wIx G,hD,if_pos rfl]
 obtain ⟨r,e,h⟩:=wCt (n:=s.Tests.length) (s0:=((-1000,1000):Int × Int)) (body:=fun k34 (x32,x33) =>
   (idx s.Tests (↑k34:Int)).bind fun x57 =>
   (wBJ s x57).bind fun x77 =>
   (wCH (⟨x32,x33⟩:wAP) x77).bind fun x87 =>
   some (x87.Lo,x87.Hi)) (fun _ x=>-1000 <= x.1/\x.1 <= off/\off <= x.2/\x.2 <= 1000) (by omega) (by simp only;omega) (by
  rintro i ⟨a,b⟩ hi ⟨i1,i2,i3,i4⟩
  simp only at i1 i2 i3 i4
  have hT:=G.t _ (wBq hi)
  refine ⟨(max a (max (-1000) (w64 (w64 ((gd s.Tests i).Reading - (gd s.Tests i).Mass) - s.Error))),min b (min 1000 (w64 (w64 ((gd s.Tests i).Reading - (gd s.Tests i).Mass) + s.Error)))),?_,?_⟩
  ·simp only
   rw [wBw hi,hD]
   unfold wBJ wCH
   rw [hD,wGW]
   rfl
  ·simp only
   rw [wAR (x:=(gd s.Tests i).Reading - (gd s.Tests i).Mass) (by omega) (by omega),wAR (by omega) (by omega),wAR (by omega) (by omega)]
   omega)
 obtain ⟨a,b⟩:=r
 simp only at h
 rw [e,hD]
 simp only
 rw [if_neg (by omega)]
 exact ⟨a,b,rfl,h⟩
def pL (s:wAM) (hi:Int) (k:Nat):Bool:=decide (s.Least <= gd s.Rifles k - hi - s.Error)
def pH (s:wAM) (lo:Int) (k:Nat):Bool:=decide (s.Least <= gd s.Rifles k - lo + s.Error)
section
variable {s:wAM} {off lo hi:Int} (G:wIw s off) (h0:-1000 <= lo) (h1:lo <= off) (h2:off <= hi) (h3:hi <= 1000)
include G h0 h1 h2 h3
theorem wGX {k:Nat} (hk:k < s.Rifles.length):wBP (wDB s lo hi) (k:Int) ⟨lo,hi⟩=some ⟨gd s.Rifles k - hi - s.Error,gd s.Rifles k - lo + s.Error⟩:=by
 have hr:=G.r _ (wBq hk)
 have:=G.e0
 have:=G.e1
 have:=G.o0
 have:=G.o1
 unfold wBP wDB
 simp only
 rw [wBw hk,hD,wAR (x:=gd s.Rifles k - hi) (by omega) (by omega),wAR (x:=gd s.Rifles k - hi - s.Error) (by omega) (by omega),wAR (x:=gd s.Rifles k - lo) (by omega) (by omega),wAR (x:=gd s.Rifles k - lo + s.Error) (by omega) (by omega)]
theorem wFa {k:Nat} (hk:k < s.Rifles.length):wBS (wDB s lo hi) (k:Int) ⟨lo,hi⟩=some ⟨gd s.Rifles k - hi - s.Error,gd s.Rifles k - lo + s.Error⟩:=wGX G h0 h1 h2 h3 hk
theorem wIz {k:Nat} (hk:k < s.Rifles.length):wBW (wDB s lo hi) (k:Int) (wDB s lo hi).first ⟨wAj⟩=some (pL s hi k):=by
 unfold wBW
 rw [show (wDB s lo hi).first.offset=⟨lo,hi⟩ from rfl,wGX G h0 h1 h2 h3 hk]
 rfl
theorem wHp {k:Nat} (hk:k < s.Rifles.length):wAk (wDB s lo hi) (k:Int) (wDB s lo hi).first ⟨wAj⟩=some (pL s hi k):=by
 unfold wAk
 rw [show (wDB s lo hi).first.offset=⟨lo,hi⟩ from rfl,wFa G h0 h1 h2 h3 hk]
 rfl
theorem wHq {k:Nat} (hk:k < s.Rifles.length):wAk (wDB s lo hi) (k:Int) (wDB s lo hi).first ⟨wBl⟩=some (pH s lo k):=by
 unfold wAk
 rw [show (wDB s lo hi).first.offset=⟨lo,hi⟩ from rfl,wFa G h0 h1 h2 h3 hk]
 rfl
end
def sel (p:Nat->Bool) (n:Nat):List Int:=((nL n).filter p).map fun (k:Nat)=>(k:Int)
theorem wHW (p:Nat->Bool) (n:Nat):sel p (n + 1)=if p n=true then sel p n ++ [(n:Int)] else sel p n:=by
 unfold sel
 rw [nM,nJ,nS]
 by_cases h:p n=true <;> simp [h]
theorem wGB (p:Nat->Bool) (n:Nat):(sel p n).length <= n:=by
 unfold sel
 rw [nB]
 exact Nat.le_trans (nG _ _) (by simp)
theorem wGw {p:Nat->Bool} {n:Nat} {x:Int}:x ∈ sel p n ↔ ∃ k:Nat,k < n/\p k=true/\x=k:=by
 unfold sel
 simp only [nc,nT,nV]
 constructor
 ·rintro ⟨k,⟨h1,h2⟩,rfl⟩;exact ⟨k,h1,h2,rfl⟩
 ·rintro ⟨k,h1,h2,rfl⟩;exact ⟨k,⟨h1,h2⟩,rfl⟩
theorem wJA {s:wAM} {off:Int} (G:wIw s off):∃ P O:Nat->Bool,wBt s=some (sel P s.Rifles.length,0)/\wCJ s=some (sel O s.Rifles.length,0)/\∀ k,O k=true->P k=false:=by
 obtain ⟨lo,hi,e,h0,h1,h2,h3⟩:=wIy G
 have h8:=G.r8
 refine ⟨pL s hi,fun k=>!pL s hi k && pH s lo k,?_,?_,fun k h=>by simp at h;exact h.1⟩
 ·unfold wBt
  rw [e,hD]
  simp only
  rw [if_pos trivial]
  rw [show (wDB s lo hi).Scale.Rifles.length=s.Rifles.length from rfl]
  have e1:wBx 0 (↑s.Rifles.length:Int) (fun k51 l47 =>
    (wBn).bind fun _ =>
    (wBW (wDB s lo hi) (↑k51:Int) (wDB s lo hi).first (⟨wAj⟩:wBN)).bind fun x90 =>
    if x90=true then
     (app 8 l47 [(↑k51:Int)]).bind fun x107 =>
     some x107
    else
     some l47) []=some (sel (pL s hi) s.Rifles.length):=wEE (sel (pL s hi)) rfl (by omega) (fun i hi'=>by
   rw [show wBn=some () from rfl,hD,wIz G h0 h1 h2 h3 hi',hD,wHW]
   by_cases c:pL s hi i=true
   ·rw [if_pos c,if_pos c,wDY (by have:=wGB (pL s hi) i;simp;omega),hD]
   ·rw [if_neg c,if_neg c])
  rw [e1,hD]
 ·unfold wCJ
  rw [e,hD]
  simp only
  rw [if_pos trivial,show wCF (wDB s lo hi) (wDB s lo hi).first=some () from rfl,hD]
  unfold wBf wAx wBo
  simp only
  rw [show (wDB s lo hi).Scale.Rifles.length=s.Rifles.length from rfl,wEr (n:=s.Rifles.length) (s0:=([]:List Int)) (sel fun k=>!pL s hi k && pH s lo k) rfl (by omega) ?_]
  ·rfl
  ·intro i hi'
   have g1:=wKe i (by omega)
   rw [wEa (by omega) (by omega),hD,if_neg (by rw [show (wDB s lo hi).first.pass=noB from rfl,g1];decide),if_neg (by rw [show (wDB s lo hi).first.fail=noB from rfl,g1];decide),show wBn=some () from rfl,hD,wHp G h0 h1 h2 h3 hi',hD,wHW]
   by_cases c:pL s hi i=true
   ·rw [if_pos c,if_neg (by simp [c])]
   ·rw [if_neg c,show wCh=some () from rfl,hD,wHq G h0 h1 h2 h3 hi',hD]
    by_cases c2:pH s lo i=true
    ·rw [if_pos c2,if_pos (by simp [c,c2]),wDY (by have:=wGB (fun k=>!pL s hi k && pH s lo k) i;simp;omega)];rfl
    ·rw [if_neg c2,if_neg (by simp [c2])]
end Go.Proofs.Ytnbcoenjobdplaa
namespace Go.Proofs.Ytnbcoenjobdplaa
open Go.KL
def aRd (x37:Int) (k118:Nat):List Int × Int × Int × List Int × List wAB->Option (List Int × Int × Int × List Int × List wAB)
 | (l105,x108,x109,l110,l114) =>
  (wAJ (⟨l105,x108,x109⟩:wAE) 3).bind fun (x152,x153) =>
  (wAJ x153 10).bind fun (x166,x167) =>
  (app 24 l114 [(⟨(↑(k118 + 1):Int),x152,w64 ((w64 ((w64 (10 * (↑k118:Int))) + x166)) + 1)⟩:wAB)]).bind fun x185 =>
  (wAJ x167 40).bind fun (x228,x229) =>
  (app 8 l110 [w64 ((w64 (3490 + x228)) + x37)]).bind fun x248 =>
  some (x229.bytes,x229.next,x229.state,x248,x185)
def tRd (x16 x37:Int) (_:Nat):List Int × Int × Int × List wAF->Option (List Int × Int × Int × List wAF)
 | (l345,x348,x349,l350) =>
  (wAK (⟨l345,x348,x349⟩:wAE) 1 3).bind fun (x385,x386) =>
  (wAK x386 (w64 (-x16)) x16).bind fun (x433,x434) =>
  (app 16 l350 [(⟨w64 (1000 * x385),w64 ((w64 ((w64 (1000 * x385)) + x37)) + x433)⟩:wAF)]).bind fun x452 =>
  some (x434.bytes,x434.next,x434.state,x452)
def mRd (f:List wAB) (P:List Int) (k632:Nat) (l629:List (Int × Bool)):Option (List (Int × Bool) ⊕ Bool) :=
 (chk (↑k632:Int) P.length).bind fun _ =>
 if (gd P k632) < 0 then
  esc (some false)
 else
  if (↑f.length:Int) <= (gd P k632) then
   esc (some false)
  else
   (idx f (gd P k632)).bind fun x675 =>
   some (.inl (wFi l629 x675.Bib true))
def oRd (f:List wAB) (O:List Int) (y701:List (Int × Bool)) (k720:Nat) (_:Unit):Option (Unit ⊕ Bool) :=
 (chk (↑k720:Int) O.length).bind fun _ =>
 if (gd O k720) < 0 then
  esc (some false)
 else
  if (↑f.length:Int) <= (gd O k720) then
   esc (some false)
  else
   (idx f (gd O k720)).bind fun x761 =>
   if (wCL y701 x761.Bib false)=true then
    esc (some false)
   else
    some (.inl ())
def wRd (f:List wAB) (y701:List (Int × Bool)) (k828:Nat) (l825:List wAA):Option (List wAA ⊕ Bool) :=
 (idx f (↑k828:Int)).bind fun x853 =>
 if (wCL y701 x853.Bib false)=true then
  some (.inl l825)
 else
  (wBX l825 x853.Bib).bind fun (x882,x883) =>
  if x883=0 then
   some (.inl x882)
  else
   esc (some false)
def cRd (l left:List wAA) (y701:List (Int × Bool)) (k938:Nat) (x937:Int):Option (Int ⊕ Bool) :=
 (idx l (↑k938:Int)).bind fun x962 =>
 if (wCL y701 x962.Bib false)=true then
  if (↑left.length:Int) <= x937 then
   esc (some false)
  else
   (idx left x937).bind fun x988 =>
   if x988=x962 then
    some (.inl (w64 (x937 + 1)))
   else
    esc (some false)
 else
  some (.inl x937)
theorem wGY (p0:List Int) (p1 p2:Int):wBc p0 p1 p2 =
 (wCA p0).bind fun x1 =>
 (wAJ x1 5).bind fun (x16,x17) =>
 (wAK x17 (-9) 9).bind fun (x37,x38) =>
 (wAK x38 1 8).bind fun (x52,x53) =>
 (wBx 0 x52 (aRd x37) (x53.bytes,x53.next,x53.state,[],[])).bind fun (y123,y124,y125,y126,y127) =>
 (wAJ (⟨y123,y124,y125⟩:wAE) 3).bind fun (x303,x304) =>
 (wBx 0 x303 (tRd x16 x37) (x304.bytes,x304.next,x304.state,[])).bind fun (_,_,_,y362) =>
 (wBs y127).bind fun (x504,_,x506) =>
 (wAe p1 300).bind fun x519 =>
 (wBV y127 x504 (w64 (x519 + 1))).bind fun (x537,x538) =>
 (wBt (⟨x16,3500,y362,y126⟩:wAM)).bind fun (x562,x563) =>
 (wCJ (⟨x16,3500,y362,y126⟩:wAM)).bind fun (x578,x579) =>
 if x506=0 then
  if x538=0 then
   if x563=0 then
    if x579=0 then
     if (↑x537.length:Int)=(↑y127.length:Int) then
      jn (wDm 0 (↑x562.length:Int) (mRd y127 x562) ([]:List (Int × Bool))) fun y701 =>
      jn (wDm 0 (↑x578.length:Int) (oRd y127 x578 y701) ()) fun _ =>
      jn (wDm 0 (↑y127.length:Int) (wRd y127 y701) x537) fun y914 =>
      if (↑y914.length:Int)=(↑x562.length:Int) then
       jn (wDm 0 (↑x537.length:Int) (cRd x537 y914 y701) 0) fun _ =>
       (wAe p2 900).bind fun x1022 =>
       (wBD x537 (w64 (x1022 + 1))).bind fun (x1035,x1036) =>
       (wBD y914 (w64 (x1022 + 1))).bind fun (x1049,x1050) =>
       if x1036=0 then
        if x1050=0 then
         some (decide (x1049 <= x1035))
        else
         some false
       else
        some false
      else
       some false
     else
      some false
    else
     some false
   else
    some false
  else
   some false
 else
  some false:=rfl
structure AI (off n0:Int) (k:Nat) (s:List Int × Int × Int × List Int × List wAB):Prop where
 lo:0 <= s.2.1
 hi:s.2.1 <= n0 + 3 * (k:Int)
 rl:s.2.2.2.1.length=k
 r:∀ x ∈ s.2.2.2.1,3400 <= x/\x <= 3600
 fl:s.2.2.2.2.length=k
 f:∀ i,i < k->(gd s.2.2.2.2 i).Bib=(i:Int) + 1/\0 <= (gd s.2.2.2.2 i).Nation/\(gd s.2.2.2.2 i).Nation <= 2/\10 * (i:Int) + 1 <= (gd s.2.2.2.2 i).Rank/\(gd s.2.2.2.2 i).Rank <= 10 * (i:Int) + 10
theorem wLW {off n0:Int} (o0:-9 <= off) (o1:off <= 9) (h:n0 <= 1000) {k:Nat} {s:List Int × Int × Int × List Int × List wAB} (hk:k < 8) (I:AI off n0 k s):∃ s',aRd off k s=some s'/\AI off n0 (k + 1) s':=by
 obtain ⟨b,nx,st,rl,fl⟩:=s
 obtain ⟨i0,i1,il,ir,jl,jf⟩:=I
 simp only at i0 i1 il ir jl jf
 unfold aRd
 simp only
 obtain ⟨x,d2,e2,q0,q1,x0,x1⟩:=wEX ⟨b,nx,st⟩ 3 i0 (by simp only;omega)
 simp only at q1
 obtain ⟨y,d3,e3,r0,r1,y0,y1⟩:=wEX d2 10 q0 (by omega)
 obtain ⟨z,d4,e4,u0,u1,z0,z1⟩:=wEX d3 40 r0 (by omega)
 rw [e2,hD]
 simp only
 rw [e3,hD]
 simp only
 rw [wDY (by simp;omega),hD,e4,hD]
 simp only
 rw [wDY (by simp;omega),hD,wAR (x:=10 * (k:Int)) (by omega) (by omega),wAR (x:=10 * (k:Int) + y) (by omega) (by omega),wAR (x:=10 * (k:Int) + y + 1) (by omega) (by omega),wAR (x:=3490 + z) (by omega) (by omega),wAR (x:=3490 + z + off) (by omega) (by omega)]
 refine ⟨_,rfl,u0,by simp only;omega,by simp [il],fun v hv=>?_,by simp [jl],fun i hi=>?_⟩
 ·simp only at hv
  rcases List.mem_append.1 hv with hv | hv
  ·exact ir v hv
  ·simp at hv
   omega
 ·simp only
  by_cases e:i=k
  ·subst e
   rw [show gd (fl ++ [(⟨((i + 1:Nat):Int),x,10 * (i:Int) + y + 1⟩:wAB)]) i=⟨((i + 1:Nat):Int),x,10 * (i:Int) + y + 1⟩ by
    have:=wFs fl [] (⟨((i + 1:Nat):Int),x,10 * (i:Int) + y + 1⟩:wAB)
    rwa [jl] at this]
   simp only
   omega
  ·rw [wHK (by omega)]
   exact jf i (by omega)
structure TI (err off n0:Int) (k:Nat) (s:List Int × Int × Int × List wAF):Prop where
 lo:0 <= s.2.1
 hi:s.2.1 <= n0 + 2 * (k:Int)
 tl:s.2.2.2.length=k
 t:∀ t ∈ s.2.2.2,1 <= t.Mass/\t.Mass <= 10000/\0 <= t.Reading/\t.Reading <= 20000/\t.Reading - t.Mass - off <= err/\-err <= t.Reading - t.Mass - off
theorem wLX {err off n0:Int} (e0:0 <= err) (e1:err <= 4) (o0:-9 <= off) (o1:off <= 9) (h:n0 <= 1000) {k:Nat} {s:List Int × Int × Int × List wAF} (hk:k < 8) (I:TI err off n0 k s):∃ s',tRd err off k s=some s'/\TI err off n0 (k + 1) s':=by
 obtain ⟨b,nx,st,tl⟩:=s
 obtain ⟨i0,i1,il,it⟩:=I
 simp only at i0 i1 il it
 unfold tRd
 simp only
 obtain ⟨x,d2,e2,q0,q1,x0,x1⟩:=wFy ⟨b,nx,st⟩ 1 3 i0 (by simp only;omega) (by omega) (by omega) (by omega)
 simp only at q1
 obtain ⟨y,d3,e3,r0,r1,y0,y1⟩:=wFy d2 (-err) err q0 (by omega) (by omega) (by omega) (by omega)
 rw [e2,hD]
 simp only
 rw [wAR (x:=-err) (by omega) (by omega),e3,hD]
 simp only
 rw [wDY (by simp;omega),hD,wAR (x:=1000 * x) (by omega) (by omega),wAR (x:=1000 * x + off) (by omega) (by omega),wAR (x:=1000 * x + off + y) (by omega) (by omega)]
 refine ⟨_,rfl,r0,by simp only;omega,by simp [il],fun v hv=>?_⟩
 simp only at hv
 rcases List.mem_append.1 hv with hv | hv
 ·exact it v hv
 ·simp at hv
  subst hv
  simp only
  omega
structure Fld (f:List wAB) (n:Nat):Prop where
 n1:1 <= n
 n8:n <= 8
 len:f.length=n
 el:∀ i,i < n->(gd f i).Bib=(i:Int) + 1/\0 <= (gd f i).Nation/\(gd f i).Nation <= 2/\10 * (i:Int) + 1 <= (gd f i).Rank/\(gd f i).Rank <= 10 * (i:Int) + 10
theorem Fld.good {f:List wAB} {n:Nat} (F:Fld f n):wDZ f:=by
 have h1:=F.n1
 have h8:=F.n8
 have hl:=F.len
 have hm:∀ s ∈ f,∃ i,i < n/\gd f i=s:=fun s hs=>by
  obtain ⟨i,hi,e⟩:=wEV hs
  exact ⟨i,by omega,e⟩
 refine ⟨by omega,by omega,fun s hs=>?_,fun s hs=>?_,fun s hs=>?_,wGA fun i j hij hj e=>?_,wGA fun i j hij hj e=>?_⟩
 ·obtain ⟨i,hi,rfl⟩:=hm s hs
  have:=F.el i hi
  omega
 ·obtain ⟨i,hi,rfl⟩:=hm s hs
  have:=F.el i hi
  omega
 ·obtain ⟨i,hi,rfl⟩:=hm s hs
  have:=F.el i hi
  omega
 ·have a:=F.el i (by omega)
  have b:=F.el j (by omega)
  omega
 ·have a:=F.el i (by omega)
  have b:=F.el j (by omega)
  omega
theorem wJB {m:List (Int × Bool)} {x y:Int} {v:Bool}:wCL (wFi m x v) y false=if y=x then v else wCL m y false:=by
 unfold wCL
 rw [wFu]
 split <;> rfl
def MP (m:List (Int × Bool)) (l:List Int):Prop:=∀ b:Int,wCL m b false=decide (b - 1 ∈ l)
theorem wLY {f:List wAB} {n:Nat} (F:Fld f n) {l:List Int} (hl:∀ x ∈ l,0 <= x/\x < n) (hn:l.length <= 1000):∃ m,wDm 0 (l.length:Int) (mRd f l) []=some (.inl m)/\MP m l:=by
 rw [wDX (by omega)]
 rcases wHI (body:=mRd f l) (fun k s=>MP s (l.take k)) (fun _=>False) l.length 0 [] (fun b=>by simp [wCL,wGa]) (by
  intro k s _ hk I
  left
  have hx:=hl _ (wBq (l:=l) (k:=k) (by omega))
  have ex:gd l k=(((gd l k).toNat:Nat):Int):=by omega
  have hF:=F.el (gd l k).toNat (by omega)
  unfold mRd
  rw [wEa (by omega) (by omega),hD,if_neg (by omega),if_neg (by rw [F.len];omega),show idx f (gd l k)=idx f (((gd l k).toNat:Nat):Int) by rw [<- ex],wBw (by rw [F.len];omega),hD]
  refine ⟨_,rfl,fun b=>?_⟩
  rw [wJB,I b,wET (by omega)]
  by_cases e:b=(gd f (gd l k).toNat).Bib
  ·rw [if_pos e]
   have:b - 1=gd l k:=by omega
   simp [this]
  ·rw [if_neg e]
   have:b - 1 ≠ gd l k:=by omega
   simp [this]) with ⟨m,e,h⟩ | ⟨_,_,h⟩
 ·refine ⟨m,e,?_⟩
  rw [nK,nf] at h
  exact h
 ·exact h.elim
theorem wLZ {f:List wAB} {n:Nat} (F:Fld f n) {l P:List Int} {m:List (Int × Bool)} (hm:MP m P) (hl:∀ x ∈ l,0 <= x/\x < n/\x ∉ P) (hn:l.length <= 1000):wDm 0 (l.length:Int) (oRd f l m) ()=some (.inl ()):=by
 refine wIY (by omega) fun k hk=>?_
 have hx:=hl _ (wBq (l:=l) (k:=k) (by omega))
 have ex:gd l k=(((gd l k).toNat:Nat):Int):=by omega
 have hF:=F.el (gd l k).toNat (by omega)
 unfold oRd
 rw [wEa (by omega) (by omega),hD,if_neg (by omega),if_neg (by rw [F.len];omega),show idx f (gd l k)=idx f (((gd l k).toNat:Nat):Int) by rw [<- ex],wBw (by rw [F.len];omega),hD,hm,hF.1]
 rw [if_neg]
 have:((gd l k).toNat:Int) + 1 - 1 ∉ P:=by
  rw [show ((gd l k).toNat:Int) + 1 - 1=gd l k by omega]
  exact hx.2.2
 simpa using this
def lf (P:List Int) (k:Nat) (s:wAA):Bool:=decide ((k:Int) < s.Bib) || decide (s.Bib - 1 ∈ P)
theorem wLa {f:List wAB} {n:Nat} (F:Fld f n) {P:List Int} {m:List (Int × Bool)} (hm:MP m P) {l:List wAA} (G:wGU l) (hb:∀ b:Int,1 <= b->b <= n->∃ s ∈ l,s.Bib=b) :
  wDm 0 (f.length:Int) (wRd f m) l=some (.inl (l.filter (lf P n))):=by
 have hl:=F.len
 have h8:=F.n8
 have hlen:=G.len
 rw [hl]
 have h0:l=l.filter (lf P 0):=by
  symm
  refine nl.2 fun s hs=>?_
  have:=G.ok s hs
  unfold lf
  simp
  omega
 refine (wEr (n:=n) (s0:=l) (body:=wRd f m) (fun k=>l.filter (lf P k)) h0.symm (by omega) fun k hk=>?_)
 have hF:=F.el k hk
 unfold wRd
 rw [wBw (by omega),hD,hm,hF.1,show (k:Int) + 1 - 1=k by omega]
 by_cases c:(k:Int) ∈ P
 ·rw [if_pos (by simpa using c)]
  congr 2
  refine nr fun s _=>?_
  unfold lf
  by_cases e:s.Bib=(k:Int) + 1
  ·have e2:s.Bib - 1=k:=by omega
   simp [e2,c]
  ·have:((k:Int) < s.Bib) ↔ (((k + 1:Nat):Int) < s.Bib):=by omega
   simp only [this]
 ·rw [if_neg (by simpa using c),wGt (by have:=nG (lf P k) l;omega),hD,wIt (wEg G _) (by
   obtain ⟨s,hs,e⟩:=hb ((k:Int) + 1) (by omega) (by omega)
   refine ⟨s,nT.2 ⟨hs,?_⟩,e⟩
   unfold lf
   simp
   omega)]
  simp only
  rw [if_pos trivial,List.filter_filter]
  congr 2
  refine nr fun s _=>?_
  unfold lf
  by_cases e:s.Bib=(k:Int) + 1
  ·have e2:s.Bib - 1=k:=by omega
   simp [e,c]
  ·have:((k:Int) < s.Bib) ↔ (((k + 1:Nat):Int) < s.Bib):=by omega
   simp only [this,ne_eq,e,not_false_eq_true,decide_true,Bool.true_and]
theorem wLb {P:List Int} {m:List (Int × Bool)} (hm:MP m P) {l:List wAA} (hl:l.length <= 1000) {q:wAA->Bool} (hq:∀ s ∈ l,q s=decide (s.Bib - 1 ∈ P)) :
  ∃ s,wDm 0 (l.length:Int) (cRd l (l.filter q) m) 0=some (.inl s):=by
 refine ⟨_,wEr (n:=l.length) (s0:=0) (body:=cRd l (l.filter q) m) (fun k=>(((l.take k).filter q).length:Int)) (by simp) (by omega) fun k hk=>?_⟩
 have h1:=wGu q hk
 have h2:=wGV q hk
 have hqk:=hq _ (wBq hk)
 unfold cRd
 rw [wBw hk,hD,hm,<- hqk,h1]
 by_cases c:q (gd l k)=true
 ·rw [if_pos c]
  rw [if_pos c] at h2
  have hlt:((l.take k).filter q).length < (l.filter q).length:=by rw [h2];simp
  have hle:((l.take k).filter q).length <= 1000:=by
   have:=nG q (l.take k)
   rw [List.length_take] at this
   omega
  rw [if_neg (by omega),wBw hlt,hD]
  have e:gd (l.filter q) ((l.take k).filter q).length=gd l k:=by
   rw [h2,nZ]
   exact wFs _ _ _
  rw [if_pos e,wAR (by omega) (by omega),if_pos c]
  rfl
 ·rw [if_neg c,if_neg c]
  rfl
theorem wJC {f:List wAB} {n:Nat} (F:Fld f n) {o:List Int} (ho:o.Perm (wCw f.length)) {p:Int} (p1:1 <= p) (p2:p <= 1000) (P O:Nat->Bool) (hPO:∀ k,O k=true->P k=false) (q:Int) {l:List wAA} (hl:l=iv f o p f.length) :
    (if (↑l.length:Int)=(↑f.length:Int) then
            jn (wDm 0 (↑(sel P n).length:Int) (mRd f (sel P n)) ([]:List (Int × Bool))) fun y701 =>
            jn (wDm 0 (↑(sel O n).length:Int) (oRd f (sel O n) y701) ()) fun _ =>
            jn (wDm 0 (↑f.length:Int) (wRd f y701) l) fun y914 =>
            if (↑y914.length:Int)=(↑(sel P n).length:Int) then
              jn (wDm 0 (↑l.length:Int) (cRd l y914 y701) 0) fun _ =>
              (wAe q 900).bind fun x1022 =>
              (wBD l (w64 (x1022 + 1))).bind fun (x1035,x1036) =>
              (wBD y914 (w64 (x1022 + 1))).bind fun (x1049,x1050) =>
              if x1036=0 then
                if x1050=0 then
                  some (decide (x1049 <= x1035))
                else
                  some false
              else
                some false
            else
              some false
          else
            some false)=some true:=by
  have G:=F.good
  have GL:wGU l:=by rw [hl];exact wKZ G ho p1 p2
  have h8:=F.n8
  have hfl:=F.len
  have hll:l.length=n:=by rw [hl,wFZ,hfl]
  obtain ⟨g1,g2,g3⟩:=wDd ho
  have hbib:∀ k,k < n->(gd l k).Bib=gd o k + 1:=fun k hk=>by
    have hi:=g2 _ (wBq (l:=o) (k:=k) (by omega))
    have hF:=F.el (gd o k).toNat (by omega)
    rw [hl,wHo (by omega)]
    simp only
    omega
  have hin:∀ s ∈ l,1 <= s.Bib/\s.Bib <= n:=fun s hs=>by
    obtain ⟨k,hk,rfl⟩:=wEV hs
    have hi:=g2 _ (wBq (l:=o) (k:=k) (by omega))
    rw [hbib k (by omega)]
    omega
  have hsP:∀ x ∈ sel P n,0 <= x/\x < n:=fun x hx=>by
    obtain ⟨k,h1,_,rfl⟩:=wGw.1 hx
    omega
  have hsl:=wGB P n
  have hso:=wGB O n
  obtain ⟨m,em,hm⟩:=wLY F hsP (by omega)
  rw [if_pos (by omega),em,wDM,wLZ F hm (fun x hx=>by
    obtain ⟨k,h1,h2,rfl⟩:=wGw.1 hx
    refine ⟨by omega,by omega,fun hx2=>?_⟩
    obtain ⟨j,_,h3,h4⟩:=wGw.1 hx2
    have:k=j:=by omega
    subst this
    rw [hPO k h2] at h3
    cases h3) (by omega),wDM,wLa F hm GL (fun b b1 b2=>by
      have hb:b - 1 ∈ o:=ho.mem_iff.2 (by
        unfold wCw
        refine nc.2 ⟨(b - 1).toNat,by simp;omega,by omega⟩)
      obtain ⟨k,hk,e⟩:=wEV hb
      refine ⟨gd l k,wBq (by omega),?_⟩
      rw [hbib k (by omega),e]
      omega),wDM]
  have hq:∀ s ∈ l,lf (sel P n) n s=decide (s.Bib - 1 ∈ sel P n):=fun s hs=>by
    have:=hin s hs
    unfold lf
    rw [show decide ((n:Int) < s.Bib)=false by simp;omega,Bool.false_or]
  have hcount:(l.filter (lf (sel P n) n)).length=(sel P n).length:=by
    have hmap:l.map (fun s=>s.Bib - 1)=o:=wLE (by rw [nB];omega) fun k hk=>by
      rw [nB] at hk
      rw [wEU _ hk,hbib k (by omega)]
      omega
    have e1:(l.filter (lf (sel P n) n)).length=l.countP (fun s=>decide (s.Bib - 1 ∈ sel P n)):=by
      rw [<- nW]
      exact ns fun s hs=>by rw [hq s hs]
    have e2:l.countP (fun s=>decide (s.Bib - 1 ∈ sel P n))=o.countP (fun x=>decide (x ∈ sel P n)):=by
      rw [<- hmap,List.countP_map]
      rfl
    rw [e1,e2,ho.countP_eq,hfl]
    unfold wCw sel
    rw [List.countP_map,nB,<- nW]
    refine ns fun k hk=>?_
    rw [nV] at hk
    simp only [Function.comp,nc,nT,nV,decide_eq_true_eq]
    constructor
    · rintro ⟨j,⟨h1,h2⟩,e⟩
      have:j=k:=by omega
      exact this ▸ h2
    · intro h
      exact ⟨k,⟨hk,h⟩,rfl⟩
  rw [if_pos (by omega)]
  obtain ⟨z,ez⟩:=wLb hm (l:=l) (by omega) hq
  rw [ez,wDM]
  unfold wAe
  obtain ⟨x,ex,x0,x1⟩:=wIv q (n:=900) (by omega) (by omega)
  rw [ex,hD,hD,wAR (by omega) (by omega)]
  have S1:=wHV GL (c:=x + 1) (by omega) (by omega)
  have S2:=wHV (wEg GL (lf (sel P n) n)) (c:=x + 1) (by omega) (by omega)
  rw [wHU S1,hD]
  simp only
  rw [wHU S2,hD]
  simp only
  rw [if_pos trivial,if_pos trivial]
  have:=wIs S1 _ S2
  congr 1
  exact decide_eq_true (by omega)
theorem wJD (p0:List Int) (p1 p2:Int) (_:-9223372036854775808 <= p1) (_:p1 <= 9223372036854775807) (_:-9223372036854775808 <= p2) (_:p2 <= 9223372036854775807):wBc p0 p1 p2=some true:=by
 rw [wGY,show wCA p0=some ⟨p0,0,17⟩ from rfl,hD]
 obtain ⟨err,d1,e1,a0,a1,x0,x1⟩:=wEX ⟨p0,0,17⟩ 5 (nt 0) (by simp only;omega)
 simp only at a1
 rw [e1,hD]
 simp only
 obtain ⟨off,d2,e2,b0,b1,y0,y1⟩:=wFy d1 (-9) 9 a0 (by omega) (by omega) (by omega) (by omega)
 rw [e2,hD]
 simp only
 obtain ⟨n,d3,e3,c0,c1,z0,z1⟩:=wFy d2 1 8 b0 (by omega) (by omega) (by omega) (by omega)
 rw [e3,hD]
 simp only
 obtain ⟨n,rfl⟩:∃ k:Nat,n=k:=⟨n.toNat,by omega⟩
 obtain ⟨⟨b,nx,st,rl,f⟩,e4,I⟩:=wCt (n:=n) (body:=aRd off) (AI off d3.next) (by omega) (s0:=(d3.bytes,d3.next,d3.state,[],[])) ⟨c0,by simp,rfl,by simp,rfl,fun i hi=>by omega⟩ fun k s hk I=>wLW y0 y1 (by omega) (by omega) I
 obtain ⟨i0,i1,il,ir,jl,jf⟩:=I
 simp only at i0 i1 il ir jl jf
 rw [e4,hD]
 simp only
 obtain ⟨t,d5,e5,g0,g1,t0,t1⟩:=wEX ⟨b,nx,st⟩ 3 i0 (by simp only;omega)
 simp only at g1
 rw [e5,hD]
 simp only
 obtain ⟨t,rfl⟩:∃ k:Nat,t=k:=⟨t.toNat,by omega⟩
 obtain ⟨⟨b2,nx2,st2,tl⟩,e6,I2⟩:=wCt (n:=t) (body:=tRd err off) (TI err off d5.next) (by omega) (s0:=(d5.bytes,d5.next,d5.state,[])) ⟨g0,by simp,rfl,by simp⟩ fun k s hk I=>wLX x0 (by omega) y0 y1 (by omega) (by omega) I
 obtain ⟨k0,k1,kl,kt⟩:=I2
 simp only at k0 k1 kl kt
 rw [e6,hD]
 simp only
 have F:Fld f n:=⟨by omega,by omega,jl,jf⟩
 have G:=F.good
 obtain ⟨a,m,T⟩:=wLQ G
 obtain ⟨o,e7,ho,_⟩:=wIk G T
 rw [e7,hD]
 simp only
 obtain ⟨u,eu,u0,u1⟩:=wIv p1 (n:=300) (by omega) (by omega)
 rw [show wAe p1 300=some u by unfold wAe;rw [eu];rfl,hD,wAR (by omega) (by omega),wGv G ho (by omega) (by omega),hD]
 simp only
 have W:wIw ⟨err,3500,tl,rl⟩ off:=⟨x0,by simp only;omega,rfl,y0,y1,by simp only;omega,kt,by simp only;omega,by simp only;omega,fun x hx=>by have:=ir x hx;omega⟩
 obtain ⟨P,O,e8,e9,hPO⟩:=wJA W
 rw [e8,hD]
 simp only
 rw [e9,hD]
 simp only
 rw [if_pos trivial,if_pos trivial,if_pos trivial,if_pos trivial,il]
 exact wJC F ho (by omega) (by omega) P O hPO p2 rfl
end Go.Proofs.Ytnbcoenjobdplaa
