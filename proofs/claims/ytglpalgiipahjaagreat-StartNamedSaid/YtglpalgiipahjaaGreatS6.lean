import Derived.Test.YtglpalgiipahjaaGreatS1
import Derived.Test.YtglpalgiipahjaaGreatS4
import Derived.Test.YtglpalgiipahjaaGreatS5
import Derived.Test.YtglpalgiipahjaaGreatProg
import Derived.Lib.Overlaps
import Derived.Lib.AppendZerosOnto
import Derived.Test.YtglpalgiipahjaaGreatS2
import Derived.Lib.SlicesCompact
set_option linter.all false
open Option renaming bind_some->nA,getD_none->kH,getD_some->ki
open List renaming pairwise_iff_getElem->nB,nodup_iff_pairwise_ne->nD,getElem_of_mem->nE,length_map->nG,mem_singleton->nH,getElem_map->nI,range->nJ,mem_map->nL,take_length->nM,set->nN,mem_append->nO,map_append->nP,length_append->nQ,replicate->nT,mem_range->nU,pairwise_singleton->nW,pairwise_map->nX,pairwise_append->nY,mergeSort_perm->nc,range_succ->nf,getElem?_eq_getElem->ng,map_map->nh,pairwise_mergeSort->nj,append_assoc->nk,nodup_append->nl,countP_congr->np,length_cons->nr,take_append_drop->nt,append_nil->nu,length_nil->nv,countP_eq_zero->nw,pairwise_cons->nz,getD_eq_getElem?_getD->kA,length_take->kG,all_eq_true->kK,length_eq_zero_iff->kO,length_set->kR,countP_map->kS,mem_append_right->kV,set_append_right->kW,all_map->kZ,filter_append->ke,countP_append->kf,getElem_range->kg,length_range->kh
open Int renaming toNat_natCast->nK,le_refl->nR,tmod_eq_emod_of_nonneg->nZ,tdiv_eq_ediv_of_nonneg->na,le_of_lt->kE,le_trans->kM,eq_ofNat_of_zero_le->kP
open Option.some renaming inj->nS
open Nat renaming zero_add->nV,lt_trichotomy->kC,div_le_self->kQ,le_refl->kU,add_zero->kX,lt_or_ge->kY,sub_self->kc
open Bool renaming noConfusion->nq,false_eq_true->ny,not_eq_true'->kD,and_eq_true->kL
open List.Pairwise renaming nil->kB
open List.Perm renaming eq_of_pairwise->kJ
namespace Go.Proofs.YtglpalgiipahjaaGreat
open Go.KL
noncomputable section
structure wAC where
 bytes:List Int
 next:Int
 state:Int
deriving DecidableEq,Inhabited,Repr
structure wAA where
 Bib:Int
 Nation:Int
 Rank:Int
deriving DecidableEq,Inhabited,Repr
structure wAN where
 of:(wAA->Option Int)
 lo:Int
 hi:Int
structure wAt where
 Bib:Int
 Row:Int
 Lane:Int
deriving DecidableEq,Inhabited,Repr
structure wAD where
 Laps:Int
 Bibs:List Int
 Times:List (List Int)
deriving DecidableEq,Inhabited,Repr
structure wAF where
 Race:wAD
 done:List Int
 out:List Bool
deriving DecidableEq,Inhabited,Repr
structure wAE where
 Bib:Int
 Done:Int
 Time:Int
 By:Int
deriving DecidableEq,Inhabited,Repr
def wCL (p0:List Int):Option (wAC) :=
 some (⟨p0,0,17⟩:wAC)
def wAL (p0:wAC) (p1:Int):Option (Int × wAC) :=
 if p1 <= 1 then
  some (0,p0)
 else
  if (↑p0.bytes.length:Int)=0 then
   some (0,p0)
  else
   (rem p0.next (↑p0.bytes.length:Int)).bind fun x10 =>
   (idx p0.bytes x10).bind fun x13 =>
   (quo p0.next (↑p0.bytes.length:Int)).bind fun x20 =>
   (rem (wEG ((wEG ((wEG ((wEG (p0.state * 45)) + (wEG x13))) + (wEG (77 * (wEG x20))))) + 1)) 65519).bind fun x32 =>
   if (wEG x20)=0 then
    if p1 <= 256 then
     (rem (w64 (wEG x13)) p1).bind fun x42 =>
     some (x42,(⟨p0.bytes,w64 (p0.next + 1),x32⟩:wAC))
    else
     (rem (w64 (wEG ((wEG (x32 * 256)) + (wEG x13)))) p1).bind fun x46 =>
     some (x46,(⟨p0.bytes,w64 (p0.next + 1),x32⟩:wAC))
   else
    (rem (w64 (wEG ((wEG (x32 * 256)) + (wEG x13)))) p1).bind fun x50 =>
    some (x50,(⟨p0.bytes,w64 (p0.next + 1),x32⟩:wAC))
def wAG (p0:wAC) (p1:Int) (p2:Int):Option (Int × wAC) :=
 (wAL p0 (w64 ((w64 (p2 - p1)) + 1))).bind fun (x2,x3) =>
 some (w64 (p1 + x2),x3)
def wAV (p0:wAC) (p1:Int):Option ((List Int) × wAC) :=
 (wBL 0 (max 0 p1) (fun k19 l15 =>
  (app 8 l15 [(↑k19:Int)]).bind fun x47 =>
  some x47) []).bind fun y24 =>
 iter (fun (l95,x98,x99,l100,x101) =>
  if 0 < x101 then
   (wAL (⟨l95,x98,x99⟩:wAC) (w64 (x101 + 1))).bind fun (x120,x121) =>
   (chk x120 l100.length).bind fun _ =>
   (chk x101 l100.length).bind fun _ =>
   (chk x120 (nN l100 x101.toNat (gd l100 x120.toNat)).length).bind fun _ =>
   some (.inl (x121.bytes,x121.next,x121.state,(nN (nN l100 x101.toNat (gd l100 x120.toNat)) x120.toNat (gd l100 x101.toNat)),w64 (x101 - 1)))
  else
   esc (some (l100,(⟨l95,x98,x99⟩:wAC)))) big (p0.bytes,p0.next,p0.state,y24,w64 ((↑y24.length:Int) - 1))
def wBq (p0:wAC) (p1:Int):Option ((List wAA) × wAC) :=
 (wAG p0 1 6).bind fun (x2,x3) =>
 (wAV x3 60).bind fun (x16,x17) =>
 (wAG x17 1 p1).bind fun (x33,x34) =>
 (wBL 0 x33 (fun k85 (l76,x79,x80,l81) =>
  (chk (↑k85:Int) x16.length).bind fun _ =>
  (wAG (⟨l76,x79,x80⟩:wAC) 1 9).bind fun (x184,x185) =>
  (wAL x185 x2).bind fun (x198,x199) =>
  (wAG x199 1 3).bind fun (x212,x213) =>
  (app 24 l81 [(⟨w64 ((w64 (10 * (↑k85:Int))) + x184),x198,w64 ((w64 (3 * (gd x16 k85))) + x212)⟩:wAA)]).bind fun x231 =>
  some (x213.bytes,x213.next,x213.state,x231)) (x34.bytes,x34.next,x34.state,[])).bind fun (y90,y91,y92,y93) =>
 some (y93,(⟨y90,y91,y92⟩:wAC))
def wBY (p0:Int) (p1:Int) (p2:Int):Option (Bool) :=
 if p1 <= p0 then
  some (decide (p0 <= p2))
 else
  some false
def wAW (p0:wAA):Option (Int) :=
 some p0.Bib
def wAX (p0:wAA):Option (Int) :=
 some p0.Rank
def wAe (p0:wAA):Option (Int) :=
 some p0.Nation
def wCh :Option (Unit) :=
 some ()
def wAg (p0:wAN) (p1:List wAA):Option ((List Int)) :=
 (wBL 0 (↑p1.length:Int) (fun k22 l18 =>
  (idx p1 (↑k22:Int)).bind fun x46 =>
  (p0.of x46).bind fun x61 =>
  (app 8 l18 [x61]).bind fun x77 =>
  some x77) []).bind fun y27 =>
 some y27
def wAf (p0:Int) (p1:wAN):Option (Bool) :=
 (wBY p0 p1.lo p1.hi).bind fun x1 =>
 some x1
def wAu (p0:List Int) (p1:(Int->Option Bool)):Option (Bool) :=
 jn (wGW 0 (↑p0.length:Int) (fun k2 _ =>
  (idx p0 (↑k2:Int)).bind fun x22 =>
  (p1 x22).bind fun x30 =>
  if x30=true then
   some (.inl ())
  else
   esc (some false)) ()) fun _ =>
 some true
def wBj (p0:List Int):Option (Bool) :=
 jn (wGW 0 (↑p0.length:Int) (fun k20 l17 =>
  (idx p0 (↑k20:Int)).bind fun x41 =>
  if (wCb l17 x41 false)=true then
   esc (some true)
  else
   some (.inl (mput l17 x41 true))) ([]:List (Int × Bool))) fun y68 =>
 some false
def wBt (p0:List wAA):Option (Int) :=
 (wBY (↑p0.length:Int) 1 60).bind fun x1 =>
 if x1=true then
  (wCh).bind fun _ =>
  (wAg (⟨wAW,1,999⟩:wAN) p0).bind fun x39 =>
  (wAu x39 (fun x=>wAf x (⟨wAW,1,999⟩:wAN))).bind fun x65 =>
  if x65=true then
   (wAg (⟨wAX,1,9999⟩:wAN) p0).bind fun x89 =>
   (wAu x89 (fun x=>wAf x (⟨wAX,1,9999⟩:wAN))).bind fun x115 =>
   if x115=true then
    (wAg (⟨wAe,0,30⟩:wAN) p0).bind fun x139 =>
    (wAu x139 (fun x=>wAf x (⟨wAe,0,30⟩:wAN))).bind fun x165 =>
    if x165=true then
     (wAg (⟨wAW,1,999⟩:wAN) p0).bind fun x195 =>
     (wBj x195).bind fun x213 =>
     if x213=true then
      some 5
     else
      (wAg (⟨wAX,1,9999⟩:wAN) p0).bind fun x237 =>
      (wBj x237).bind fun x255 =>
      if x255=true then
       some 5
      else
       some 0
    else
     some 3
   else
    some 3
  else
   some 3
 else
  some 2
def wBz (p0:Int):Option (Bool) :=
 some (decide (¬ (p0=p0)))
def wAz (p0:Int) (p1:Int):Option (Int) :=
 (wBz p0).bind fun x1 =>
 (wBz p1).bind fun x11 =>
 if x1=true then
  if x11=true then
   some 0
  else
   some (-1)
 else
  if x11=true then
   some 1
  else
   if p0 < p1 then
    some (-1)
   else
    if p1 < p0 then
     some 1
    else
     some 0
def wAj (p0:Int) (p1:Int) (p2:List wAA):Option (Int) :=
 (idx p2 p0).bind fun x3 =>
 (idx p2 p1).bind fun x10 =>
 (wAz x3.Rank x10.Rank).bind fun x17 =>
 some x17
noncomputable def wBx (p0:List Int) (p1:((Int × Int)->Option Int)):Option (List Int):=wJy p1 p0
def wBF (p0:List wAA):Option ((List Int)) :=
 (mkz 8 (↑p0.length:Int) (0:Int)).bind fun x10 =>
 (wBL 0 (↑p0.length:Int) (fun k24 l23 =>
  (chk (↑k24:Int) l23.length).bind fun _ =>
  some (nN l23 k24 (↑k24:Int))) x10).bind fun y29 =>
 (wBx y29 (fun x=>wAj x.1 x.2 p0)).bind fun x70 =>
 some x70
def wBu (p0:List wAA) (p1:Int):Option ((List wAt) × Int) :=
 (wBt p0).bind fun x1 =>
 if x1=0 then
  (wBY p1 1 20).bind fun x13 =>
  if x13=true then
   (quo (w64 (p1 + 1)) 2).bind fun x25 =>
   iter (fun (l45,x48) =>
    if (↑l45.length:Int) < p1 then
     (chk 0 l45.length).bind fun _ =>
     (wBL 0 2 (fun k87 l84 =>
      (idx ([w64 ((gd l45 0) + x48),w64 ((gd l45 0) - x48)]:List Int) (↑k87:Int)).bind fun x110 =>
      (wBY x110 1 p1).bind fun x113 =>
      if x113=true then
       (app 8 l84 [x110]).bind fun x130 =>
       some x130
      else
       some l84) l45).bind fun y92 =>
     some (.inl (y92,w64 (x48 + 1)))
    else
     esc ((wBF p0).bind fun x174 =>
     (wBL 0 (↑x174.length:Int) (fun k204 l200 =>
      (chk (↑k204:Int) x174.length).bind fun _ =>
      (idx p0 (gd x174 k204)).bind fun x237 =>
      (quo (↑k204:Int) p1).bind fun x246 =>
      (rem (↑k204:Int) p1).bind fun x249 =>
      (chk x249 l45.length).bind fun _ =>
      (app 24 l200 [(⟨x237.Bib,w64 (x246 + 1),(gd l45 x249.toNat)⟩:wAt)]).bind fun x262 =>
      some x262) []).bind fun y209 =>
     some (y209,0))) big ([x25],1)
  else
   some ([],3)
 else
  some ([],x1)
def wBr (p0:List wAA):Option ((Arr Int 31)) :=
 (wBL 0 (↑p0.length:Int) (fun k17 a16 =>
  (idx p0 (↑k17:Int)).bind fun x39 =>
  (chk x39.Nation 31).bind fun _ =>
  some (a16.set x39.Nation.toNat (w64 ((a16.get x39.Nation.toNat) + 1)))) (Arr.fill 31 0)).bind fun y22 =>
 some y22
def wBg (p0:List Int):Option (Int) :=
 if (↑p0.length:Int) < 1 then
  none
 else
  (idx p0 0).bind fun x4 =>
  (wBL 1 (↑p0.length:Int) (fun k17 x16 =>
   (idx p0 (1 + ↑k17:Int)).bind fun x37 =>
   some (max x16 x37)) x4).bind fun y22 =>
  some y22
def wAh (p0:Arr Int 31):Option ((List Int) × Int) :=
 (wBg p0.l).bind fun x12 =>
 (wBL 0 31 (fun k43 l39 =>
  (idx (p0.l:List Int) (↑k43:Int)).bind fun x66 =>
  if x66=x12 then
   (app 8 l39 [(↑k43:Int)]).bind fun x76 =>
   some x76
  else
   some l39) []).bind fun y48 =>
 some (y48,x12)
def wAk (p0:Int) (p1:List wAA) (p2:Int):Option (Bool) :=
 (idx p1 p0).bind fun x3 =>
 some (decide (x3.Nation=p2))
def wAa (p0:List Int) (p1:(Int->Option Bool)):Option (Int) :=
 jn (wGW 0 (↑p0.length:Int) (fun k2 _ =>
  (idx p0 (↑k2:Int)).bind fun x22 =>
  (p1 x22).bind fun x30 =>
  if x30=true then
   esc (some (↑k2:Int))
  else
   some (.inl ())) ()) fun _ =>
 some (-1)
def wBJ (p0:List Int) (p1:Int) (p2:Int):Option (List Int):=delO p0 p1 p2
def wBn (p0:List wAA):Option ((List Int) × Int × Int) :=
 (wBt p0).bind fun x11 =>
 if x11=0 then
  (wBr p0).bind fun x25 =>
  (wAh x25).bind fun (x43,x44) =>
  if 1 < x44 then
   (quo (w64 ((↑p0.length:Int) - (↑x43.length:Int))) (w64 (x44 - 1))).bind fun x61 =>
   (wBF p0).bind fun x66 =>
   (wBL 0 (↑p0.length:Int) (fun k130 (l119,a122,l123,l126) =>
    (wBL 0 31 (fun k174 x173 =>
     ((idx (a122.l:List Int) (↑k174:Int)).bind fun x207 =>
     if 0 < x207 then
      if (wIg l119 (↑k174:Int))=true then
       if x61 <= (w64 ((↑k130:Int) - (wCb l119 (↑k174:Int) 0))) then
        if x173 < 0 then
         some (↑k174:Int)
        else
         (chk x173 31).bind fun _ =>
         if (a122.get x173.toNat) < x207 then
          some (↑k174:Int)
         else
          some x173
       else
        some x173
      else
       if x173 < 0 then
        some (↑k174:Int)
       else
        (chk x173 31).bind fun _ =>
        if (a122.get x173.toNat) < x207 then
         some (↑k174:Int)
        else
         some x173
     else
      some x173).bind fun x203 =>
     some x203) (-1)).bind fun y179 =>
    (wAa l123 (fun x=>wAk x p0 y179)).bind fun x317 =>
    (chk x317 l123.length).bind fun _ =>
    (app 8 l126 [(gd l123 x317.toNat)]).bind fun x341 =>
    (wBJ l123 x317 (w64 (x317 + 1))).bind fun x349 =>
    (chk y179 31).bind fun _ =>
    some ((mput l119 y179 (↑k130:Int)),(a122.set y179.toNat (w64 ((a122.get y179.toNat) - 1))),x349,x341)) (([]:List (Int × Int)),x25,x66,[])).bind fun (y135,y136,y137,y138) =>
   some (y138,x61,0)
  else
   (wBF p0).bind fun x423 =>
   (wBL 0 (↑p0.length:Int) (fun k487 (l476,a479,l480,l483) =>
    (wBL 0 31 (fun k531 x530 =>
     ((idx (a479.l:List Int) (↑k531:Int)).bind fun x564 =>
     if 0 < x564 then
      if (wIg l476 (↑k531:Int))=true then
       if (↑p0.length:Int) <= (w64 ((↑k487:Int) - (wCb l476 (↑k531:Int) 0))) then
        if x530 < 0 then
         some (↑k531:Int)
        else
         (chk x530 31).bind fun _ =>
         if (a479.get x530.toNat) < x564 then
          some (↑k531:Int)
         else
          some x530
       else
        some x530
      else
       if x530 < 0 then
        some (↑k531:Int)
       else
        (chk x530 31).bind fun _ =>
        if (a479.get x530.toNat) < x564 then
         some (↑k531:Int)
        else
         some x530
     else
      some x530).bind fun x560 =>
     some x560) (-1)).bind fun y536 =>
    (wAa l480 (fun x=>wAk x p0 y536)).bind fun x674 =>
    (chk x674 l480.length).bind fun _ =>
    (app 8 l483 [(gd l480 x674.toNat)]).bind fun x698 =>
    (wBJ l480 x674 (w64 (x674 + 1))).bind fun x706 =>
    (chk y536 31).bind fun _ =>
    some ((mput l476 y536 (↑k487:Int)),(a479.set y536.toNat (w64 ((a479.get y536.toNat) - 1))),x706,x698)) (([]:List (Int × Int)),x25,x423,[])).bind fun (y492,y493,y494,y495) =>
   some (y495,(↑p0.length:Int),0)
 else
  some ([],0,x11)
def wAo (p0:List wAt) (p1:List wAt):Option (Bool) :=
 if (↑p0.length:Int)=(↑p1.length:Int) then
  jn (wGW 0 (↑p0.length:Int) (fun k4 _ =>
   (idx p0 (↑k4:Int)).bind fun x26 =>
   (idx p1 (↑k4:Int)).bind fun x34 =>
   if x26=x34 then
    some (.inl ())
   else
    esc (some false)) ()) fun _ =>
  some true
 else
  some false
def wBh (p0:wAC) (p1:Int):Option (wAD × wAC) :=
 (wAG p0 1 7).bind fun (x6,x7) =>
 (wAG x7 1 p1).bind fun (x28,x29) =>
 (wBL 0 x28 (fun k99 (l85,x88,x89,l90,l94) =>
  (wAG (⟨l85,x88,x89⟩:wAC) 20 75).bind fun (x131,x132) =>
  (wAL x132 60).bind fun (x145,x146) =>
  (wAL x146 (w64 (x6 + 1))).bind fun (x191,x192) =>
  (wAL x192 2).bind fun (x205,x206) =>
  (wBL 0 (w64 (x6 - (w64 (x191 * x205)))) (fun k260 (l250,x253,x254,x255,l256) =>
   (wAL (⟨l250,x253,x254⟩:wAC) 9).bind fun (x295,x296) =>
   (app 8 l256 [w64 (x255 + (w64 (x131 + x295)))]).bind fun x314 =>
   some (x296.bytes,x296.next,x296.state,w64 (x255 + (w64 (x131 + x295))),x314)) (x206.bytes,x206.next,x206.state,x145,[])).bind fun (y265,y266,y267,y268,y269) =>
  (wAG (⟨y265,y266,y267⟩:wAC) 1 7).bind fun (x426,x427) =>
  (app 8 l90 [w64 ((w64 (7 * (↑k99:Int))) + x426)]).bind fun x445 =>
  (app 24 l94 [y269]).bind fun x464 =>
  some (x427.bytes,x427.next,x427.state,x445,x464)) (x29.bytes,x29.next,x29.state,[],[])).bind fun (y104,y105,y106,y107,y108) =>
 some ((⟨x6,y107,y108⟩:wAD),(⟨y104,y105,y106⟩:wAC))
def wAm (p0:List Int):Option ((List Int)) :=
 (app 8 ([]:List Int) p0).bind fun x4 =>
 some x4
def wBC (p0:List (List Int)):Option ((List (List Int))) :=
 (wBL 0 (↑p0.length:Int) (fun k24 l18 =>
  (idx p0 (↑k24:Int)).bind fun x50 =>
  (wAm x50).bind fun x63 =>
  (app 24 l18 [x63]).bind fun x88 =>
  some x88) []).bind fun y29 =>
 some y29
def wBZ (p0:wAD):Option (wAD) :=
 (wAm p0.Bibs).bind fun x11 =>
 (wBC p0.Times).bind fun x25 =>
 some (⟨p0.Laps,x11,x25⟩:wAD)
def wBO (p0:List Int) (p1:wAD):Option (Bool) :=
 some (decide ((↑p0.length:Int) <= p1.Laps))
def wBP (p0:List (List Int)) (p1:((List Int)->Option Bool)):Option (Bool) :=
 jn (wGW 0 (↑p0.length:Int) (fun k2 _ =>
  (idx p0 (↑k2:Int)).bind fun x22 =>
  (p1 x22).bind fun x35 =>
  if x35=true then
   some (.inl ())
  else
   esc (some false)) ()) fun _ =>
 some true
def wBQ (p0:Int):Option (Bool) :=
 (wBY p0 1 999).bind fun x1 =>
 some x1
def wBE (p0:Int):Option (Bool) :=
 (wBY p0 0 360000).bind fun x1 =>
 some x1
def wBR (p0:List Int):Option (Bool) :=
 (wAu p0 wBE).bind fun x2 =>
 some x2
def wBo (p0:wAD):Option (Int) :=
 (wBY p0.Laps 1 20).bind fun x10 =>
 if x10=true then
  if 60 < (↑p0.Bibs.length:Int) then
   some 2
  else
   if (↑p0.Times.length:Int)=(↑p0.Bibs.length:Int) then
    (wBP p0.Times (fun x=>wBO x p0)).bind fun x33 =>
    if x33=true then
     (wAu p0.Bibs wBQ).bind fun x48 =>
     if x48=true then
      (wBP p0.Times wBR).bind fun x64 =>
      if x64=true then
       (wBj p0.Bibs).bind fun x79 =>
       if x79=true then
        some 5
       else
        jn (wGW 0 (↑p0.Times.length:Int) (fun k97 _ =>
         (idx p0.Times (↑k97:Int)).bind fun x116 =>
         jn (wGW 1 (↑x116.length:Int) (fun k132 _ =>
          (idx x116 (1 + ↑k132:Int)).bind fun x155 =>
          (idx x116 (w64 ((1 + ↑k132:Int) - 1))).bind fun x163 =>
          if x155 <= x163 then
           esc (esc (some 4))
          else
           some (.inl ())) ()) fun _ =>
         some (.inl ())) ()) fun _ =>
        some 0
      else
       some 3
     else
      some 3
    else
     some 2
   else
    some 2
 else
  some 2
def wBW (p0:List Int) (p1:Int):Option ((List Int)) :=
 if p1 < 0 then
  none
 else
  if 0 < (w64 (p1 - 0)) then
   (appZ 8 (w64 (p1 - 0)) (0:Int)).bind fun x6 =>
   some ([]:List Int)
  else
   some []
def wBK (p0:List (List Int)):Option ((List Int)) :=
 (wBL 0 (↑p0.length:Int) (fun k7 x6 =>
  (idx p0 (↑k7:Int)).bind fun x29 =>
  if (w64 (x6 + (↑x29.length:Int))) < 0 then
   none
  else
   some (w64 (x6 + (↑x29.length:Int)))) 0).bind fun y12 =>
 (wBW [] y12).bind fun x59 =>
 (wBL 0 (↑p0.length:Int) (fun k86 l83 =>
  (idx p0 (↑k86:Int)).bind fun x107 =>
  (app 8 l83 x107).bind fun x122 =>
  some x122) x59).bind fun y91 =>
 some y91
def wBv (p0:List Int):Option (List Int):=wPE p0
def wBa (p0:List Int):Option (List Int):=wGJ p0
def wAl {S E:Type} (f:S->Int->Option (S ⊕ E)) (s0:S) (p1:List Int):Option (S ⊕ E) :=
 jn (wGW 0 (↑p1.length:Int) (fun k12 s10 =>
  (idx p1 (↑k12:Int)).bind fun x33 =>
  (f s10 x33).bind fun yr41 =>
  match yr41 with
  | .inl s51 =>
   some (.inl s51)
  | .inr s51 =>
   esc (some (.inr s51))) s0) fun y65 =>
 some (.inl y65)
def wBk (p0:List Int):Option (Unit) :=
 some ()
def wBb (p0:wAD):Option ((List Int)) :=
 (wBK p0.Times).bind fun x5 =>
 (wBv x5).bind fun x18 =>
 (wBa x18).bind fun x29 =>
 (wBk x29).bind fun _ =>
 some x29
def wAv (p0:wAF) (p1:Int) (p2:Int) (p3:Int):Option (Int) :=
 (wBL 0 (↑p0.done.length:Int) (fun k7 x6 =>
  ((idx p0.done (↑k7:Int)).bind fun x35 =>
  (idx p0.out (↑k7:Int)).bind fun x46 =>
  if x46=true then
   some x6
  else
   if (w64 (p2 + 2)) <= x35 then
    (idx p0.Race.Times (↑k7:Int)).bind fun x60 =>
    (idx x60 (w64 (x35 - 1))).bind fun x73 =>
    if x73=p3 then
     if x6 < 0 then
      some (↑k7:Int)
     else
      (idx p0.Race.Bibs (↑k7:Int)).bind fun x96 =>
      (idx p0.Race.Bibs x6).bind fun x104 =>
      if x96 < x104 then
       some (↑k7:Int)
      else
       some x6
    else
     some x6
   else
    some x6).bind fun x31 =>
  some x31) (-1)).bind fun y12 =>
 some y12
def wAw (p0:wAF) (p1:Int):Option ((List Int) × wAF) :=
 (wBL 0 (↑p0.Race.Times.length:Int) (fun k10 l9 =>
  (idx p0.Race.Times (↑k10:Int)).bind fun x33 =>
  (chk (↑k10:Int) l9.length).bind fun _ =>
  (chk (↑k10:Int) p0.out.length).bind fun _ =>
  if (gd p0.out k10)=true then
   some l9
  else
   if (gd l9 k10) < (↑x33.length:Int) then
    (idx x33 (gd l9 k10)).bind fun x62 =>
    if x62=p1 then
     some (nN l9 k10 (w64 ((gd l9 k10) + 1)))
    else
     some l9
   else
    some l9) p0.done).bind fun y15 =>
 (wBL 0 (↑y15.length:Int) (fun k121 l117 =>
  (chk (↑k121:Int) y15.length).bind fun _ =>
  (chk (↑k121:Int) p0.out.length).bind fun _ =>
  if (gd p0.out k121)=true then
   some l117
  else
   (wAv (⟨p0.Race,y15,p0.out⟩:wAF) (↑k121:Int) (gd y15 k121) p1).bind fun x193 =>
   if 0 <= x193 then
    (app 8 l117 [(↑k121:Int)]).bind fun x222 =>
    some x222
   else
    some l117) []).bind fun y126 =>
 some (y126,(⟨p0.Race,y15,p0.out⟩:wAF))
noncomputable def wAd (p0:List wAE) (p1:((wAE × wAE)->Option Int)):Option (List wAE):=wJy p1 p0
def wCz (p0:List Int):Option (Int) :=
 jn (wGW 0 (↑p0.length:Int) (fun k2 _ =>
  (idx p0 (↑k2:Int)).bind fun x22 =>
  if x22=0 then
   some (.inl ())
  else
   esc (some x22)) ()) fun _ =>
 some 0
def wAp (p0:wAE) (p1:wAE):Option (Int) :=
 (wAz p0.Time p1.Time).bind fun x11 =>
 (wAz p0.Bib p1.Bib).bind fun x21 =>
 (wCz [x11,x21]).bind fun x41 =>
 some x41
def wCM (p0:wAD):Option (wAF × (List wAE)) :=
 ((mkz 8 (↑p0.Bibs.length:Int) (0:Int)).bind fun x18 =>
 (mkz 1 (↑p0.Bibs.length:Int) false).bind fun x26 =>
 some (x18,x26)).bind fun (l9,l12) =>
 (wBb p0).bind fun x520 =>
 (wAl (S:=(List wAE) × Int × (List Int) × (List (List Int)) × (List Int) × (List Bool)) (E:=Empty) (fun (l1081,x1085,l1086,l1089,l1092,l1095) x1124 =>
  (wAw (⟨(⟨x1085,l1086,l1089⟩:wAD),l1092,l1095⟩:wAF) x1124).bind fun (x1150,x1151) =>
  (wBL 0 (↑x1150.length:Int) (fun k1191 l1188 =>
   (chk (↑k1191:Int) x1150.length).bind fun _ =>
   (idx x1151.Race.Bibs (gd x1150 k1191)).bind fun x1222 =>
   (chk (gd x1150 k1191) x1151.done.length).bind fun _ =>
   (wAv x1151 (gd x1150 k1191) (gd x1151.done (gd x1150 k1191).toNat) x1124).bind fun x1264 =>
   (idx x1151.Race.Bibs x1264).bind fun x1286 =>
   (app 32 l1188 [(⟨x1222,(gd x1151.done (gd x1150 k1191).toNat),x1124,x1286⟩:wAE)]).bind fun x1299 =>
   some x1299) l1081).bind fun y1196 =>
  (wBL 0 (↑x1150.length:Int) (fun k1338 l1337 =>
   (chk (↑k1338:Int) x1150.length).bind fun _ =>
   (chk (gd x1150 k1338) l1337.length).bind fun _ =>
   some (nN l1337 (gd x1150 k1338).toNat true)) x1151.out).bind fun y1343 =>
  some (.inl (y1196,x1151.Race.Laps,x1151.Race.Bibs,x1151.Race.Times,x1151.done,y1343))) ([],p0.Laps,p0.Bibs,p0.Times,l9,l12) x520).bind fun rr1118 =>
 match rr1118 with
 | .inl (y1416,y1417,y1418,y1419,y1420,y1421) =>
  (wAd y1416 (fun x=>wAp x.1 x.2)).bind fun x1438 =>
  some ((⟨(⟨y1417,y1418,y1419⟩:wAD),y1420,y1421⟩:wAF),x1438)
 | .inr e1432 =>
  e1432.elim
def wBD (p0:wAD):Option ((List Int) × Int) :=
 (wBo p0).bind fun x5 =>
 if x5=0 then
  (wCM p0).bind fun (x19,x20) =>
  some (x19.done,0)
 else
  some ([],x5)
def wBG (p0:wAD):Option ((List wAE) × Int) :=
 (wBo p0).bind fun x5 =>
 if x5=0 then
  (wCM p0).bind fun (x19,x20) =>
  some (x20,0)
 else
  some ([],x5)
def wBN (p0:List Int) (p1:List Int):Option (Bool) :=
 if (↑p0.length:Int)=(↑p1.length:Int) then
  jn (wGW 0 (↑p0.length:Int) (fun k4 _ =>
   (idx p0 (↑k4:Int)).bind fun x26 =>
   (idx p1 (↑k4:Int)).bind fun x34 =>
   if x26=x34 then
    some (.inl ())
   else
    esc (some false)) ()) fun _ =>
  some true
 else
  some false
def wAq (p0:List wAE) (p1:List wAE):Option (Bool) :=
 if (↑p0.length:Int)=(↑p1.length:Int) then
  jn (wGW 0 (↑p0.length:Int) (fun k4 _ =>
   (idx p0 (↑k4:Int)).bind fun x26 =>
   (idx p1 (↑k4:Int)).bind fun x34 =>
   if x26=x34 then
    some (.inl ())
   else
    esc (some false)) ()) fun _ =>
  some true
 else
  some false
def wDD:Option Bool:=some true
def wBU (p0:List Int) (p1:List Int):Option (Bool) :=
 (wCL p0).bind fun x1 =>
 (wCL p1).bind fun x17 =>
 (wBq x1 20).bind fun (x33,x34) =>
 (wAV x17 31).bind fun (x52,x53) =>
 (wAV x53 (↑x33.length:Int)).bind fun (x70,x71) =>
 (wBL 0 (↑x70.length:Int) (fun k105 l101 =>
  (chk (↑k105:Int) x70.length).bind fun _ =>
  (chk (gd x70 k105) x33.length).bind fun _ =>
  (chk ((gd x33 (gd x70 k105).toNat).Nation) x52.length).bind fun _ =>
  (app 24 l101 [(⟨(gd x33 (gd x70 k105).toNat).Bib,(gd x52 ((gd x33 (gd x70 k105).toNat).Nation).toNat),(gd x33 (gd x70 k105).toNat).Rank⟩:wAA)]).bind fun x162 =>
  some x162) []).bind fun y110 =>
 (wBu x33 7).bind fun (x198,x199) =>
 (wBu y110 7).bind fun (x217,x218) =>
 (wBn x33).bind fun (x234,x235,x236) =>
 (wBn y110).bind fun (x251,x252,x253) =>
 if x199=0 then
  if x218=0 then
   if x236=0 then
    if x253=0 then
     (wAo x198 x217).bind fun x297 =>
     if x297=true then
      if x235=x252 then
       (wBh x34 10).bind fun (x323,x324) =>
       ((wBZ x323).bind fun x386 =>
       some (x323.Bibs,x323.Times,x386.Laps,x386.Bibs,x386.Times)).bind fun (l353,l356,x361,l362,l365) =>
       (wBL 0 (↑l365.length:Int) (fun k2605 l2604 =>
        (chk (↑k2605:Int) l2604.length).bind fun _ =>
        (wBL 0 (↑((gd l2604 k2605).length):Int) (fun k2653 l2652 =>
         (chk (↑k2605:Int) l2652.length).bind fun _ =>
         (chk (↑k2653:Int) (gd l2652 k2605).length).bind fun _ =>
         some (nN l2652 k2605 (nN (gd l2652 k2605) k2653 (w64 ((gd (gd l2652 k2605) k2653) * 2))))) l2604).bind fun y2658 =>
        some y2658) l365).bind fun y2610 =>
       (wAV x71 (↑l353.length:Int)).bind fun (x2746,x2747) =>
       (wBL 0 (↑x2746.length:Int) (fun k2800 (l2791,l2795) =>
        (chk (↑k2800:Int) x2746.length).bind fun _ =>
        (idx l353 (gd x2746 k2800)).bind fun x2834 =>
        (app 8 l2791 [x2834]).bind fun x2849 =>
        (idx l356 (gd x2746 k2800)).bind fun x2857 =>
        (app 24 l2795 [x2857]).bind fun x2878 =>
        some (x2849,x2878)) ([],[])).bind fun (y2805,y2806) =>
       (wBD (⟨x323.Laps,l353,l356⟩:wAD)).bind fun (x5145,x5146) =>
       (wBD (⟨x361,l362,y2610⟩:wAD)).bind fun (x5171,x5172) =>
       (wBG (⟨x323.Laps,l353,l356⟩:wAD)).bind fun (x5193,x5194) =>
       (wBG (⟨x323.Laps,y2805,y2806⟩:wAD)).bind fun (x5224,x5225) =>
       if x5146=0 then
        if x5172=0 then
         if x5194=0 then
          if x5225=0 then
           (wBN x5145 x5171).bind fun x5267 =>
           if x5267=true then
            (wAq x5193 x5224).bind fun x5290 =>
            if x5290=true then
             (wDD).bind fun x5302 =>
             some x5302
            else
             some false
           else
            some false
          else
           some false
         else
          some false
        else
         some false
       else
        some false
      else
       some false
     else
      some false
    else
     some false
   else
    some false
  else
   some false
 else
  some false
end
end Go.Proofs.YtglpalgiipahjaaGreat
namespace Go.Proofs
open Go.RowKit Go.Lib
set_option maxHeartbeats 4000000 in
set_option maxRecDepth 100000 in
theorem delCalls148 (b c n i j:Nat) (cs:List Value) (w:World) (hcs:cs.length=n * 1) (h1:∀ v ∈ cs,v.oneCell'=true)
  (hcell:∀ k v,cs[k]?=some v->w.cell? ⟨b,k,none⟩=some v) (hfz:∀ k,k < n * 1->w.frozen? ⟨b,k,none⟩=false) (hn:n <= c) (_:c <= 9223372036854775807) (hij:i < j) (hj:j <= n) :
  Calls Tryz.prog 148 #[.slice (some ⟨b,0,none⟩) n c,.int .i64 i,.int .i64 j] w fun e w'=>e=.returned (.slice (some ⟨b,0,none⟩) (n - (j - i)) c) /\
   w'=(w.drew.setCells b (i * 1) (cs.drop (j * 1))).setCells b ((n - (j - i)) * 1) (nT ((j - i) * 1) (.int .i64 0)):=by
 obtain ⟨news,hnews⟩:∃ news,news=cs.drop (j * 1):=⟨_,rfl⟩
 have hlen:news.length=(n - j) * 1:=by rw [hnews,List.length_drop,hcs];omega
 obtain ⟨A,hA,hsrc⟩:∃ A:Addr,(if c=j then some (⟨b,0,none⟩:Addr) else some ⟨b,j * 1,none⟩)=some A/\Hid (∀ t u,news[t]?=some u->w.drew.cell? (A.add t)=some u):=by
  by_cases h:c=j
  ·refine ⟨⟨b,0,none⟩,by simp [h],fun t u hu=>?_⟩
   have h0:news.length=0:=by rw [hlen];omega
   rw [kO.1 h0] at hu
   simp at hu
  ·refine ⟨⟨b,j * 1,none⟩,by simp [h],fun t u hu=>?_⟩
   rw [hnews,List.getElem?_drop] at hu
   rw [Addr.add_lit]
   exact hcell _ _ hu
 have s1:Hid (news.length=(n - j) * 1):=hlen
 have s2:Hid (∀ u ∈ news,u.oneCell'=true):=by
  intro u hu
  rw [hnews] at hu
  exact h1 u (List.mem_of_mem_drop hu)
 have hsome:∀ k,k < n * 1->(w.cell? ⟨b,k,none⟩).isSome=true:=fun k hk=>by
  rw [hcell k _ (ng (by omega))];rfl
 have s3:Hid (∀ t,t < news.length->(w.drew.cell? ⟨b,0 + i * 1 + t,none⟩).isSome=true/\w.drew.frozen? ⟨b,0 + i * 1 + t,none⟩=false):=by
  intro t ht
  rw [hlen] at ht
  exact ⟨hsome _ (by omega),hfz _ (by omega)⟩
 obtain ⟨W1,hW1⟩:∃ W1,W1=w.drew.setCells b (i * 1) news:=⟨_,rfl⟩
 have hcl:∀ ty,(Builtin.clear_ #[22] ty #[.slice (some ⟨b,(i + (n - j)) * 1,none⟩) (n - (i + (n - j))) (c - (i + (n - j)))]).run Tryz.prog W1=.ok (.tuple #[]) (W1.setCells b ((i + (n - j)) * 1) (nT ((n - (i + (n - j))) * 1) (.int .i64 0))) :=
  fun ty=>Go.KL.run_clear_sliceK W1 _ _ ty _ (.int .i64 0) 1 Tryz.underlying22 Tryz.zeroValue3 rfl (by omega) rfl b _ _ _ (by omega) (fun t ht=>by
   rw [hW1]
   exact Go.KL.isSome_setCells' b news (i * 1) w.drew (fun q hq=>hsome _ (by rw [hlen] at hq;omega)) _ (hsome ((i + (n - j)) * 1 + t) (by omega))) (fun t ht=>by rw [hW1,World.frozen?_setCells];exact hfz ((i + (n - j)) * 1 + t) (by omega))
 have hW:Hid (W1=w.drew.setCells b (0 + i * 1) news):=by rw [nV];exact hW1
 have hic:i <= c:=by omega
 have hjc:j <= c:=by omega
 have ty30:=Tryz.typeInfo3
 have mixed:Tryz.prog.follows .mixedOrders=true:=rfl
 have hnews':Hid (news=cs.drop (j * 1)):=hnews
 try simp only [Nat.mul_one] at hcl
 clear hW1 hsome hlen hnews
 go_enter Tryz.func148,Tryz.ntmps148
 go_wp2_with fail
 go_region_law_o (refine step_append_room rfl (.tmp 22) (.tmp 25) 22 rfl 3 _ 1 Tryz.underlying22 Tryz.type3 rfl b 0 i c (by simp [Act.eval,Act.put]) A (n - j) (c - j) news (by simp [Act.eval,Act.put] <;> first | assumption | simpa using hA) s1.out hsrc.out s2.out (by omega) s3.out ?_;rw [<- hW.out])
 go_wp2
 all_goals
  go_ret
  have e1:n - (j - i)=i + (n - j):=by omega
  have e2:n - (i + (n - j))=j - i:=by omega
  have hw:=hW.out
  rw [nV,hnews'.out] at hw
  refine ⟨by rw [e1];rfl,?_⟩
  first
  | (rw [e1,hw,e2];done)
  | (simp only [Nat.mul_one] at hw ⊢;rw [e1,hw,e2])
end Go.Proofs
namespace Go.Proofs.YtglpalgiipahjaaGreat
open Go.KL
def cn (l:List Int) (t:Int):Nat:=l.countP fun x=>decide (x <= t)
theorem wLx (l:List Int) (t:Int):cn l t <= l.length:=List.countP_le_length
theorem wRb (l:List Int) {s t:Int} (h:s <= t):cn l s <= cn l t:=List.countP_mono_left fun x _ hx=>by simp at hx ⊢;omega
theorem wOB:∀ {l:List Int} {t:Int} {k:Nat},l.Pairwise (· < ·)->k < l.length->(k < cn l t ↔ gd l k <= t)
 | [],t,k,_,hk=>by simp at hk
 | a :: l,t,0,h,_=>by
  show 0 < cn (a :: l) t ↔ a <= t
  unfold cn
  rw [List.countP_cons]
  by_cases c:a <= t
  ·simp [c]
  ·simp only [c,decide_false,ny,if_false,kX,iff_false]
   have:l.countP (fun x=>decide (x <= t))=0:=nw.2 fun x hx=>by
    have:=(nz.1 h).1 x hx
    simp;omega
   omega
 | a :: l,t,k + 1,h,hk=>by
  show k + 1 < cn (a :: l) t ↔ gd l k <= t
  have hk':k < l.length:=by simpa using hk
  have ih:=wOB (t:=t) (nz.1 h).2 hk'
  rw [<- ih]
  unfold cn
  rw [List.countP_cons]
  by_cases c:a <= t
  ·simp [c]
  ·have h1:l.countP (fun x=>decide (x <= t))=0:=nw.2 fun x hx=>by
    have:=(nz.1 h).1 x hx
    simp;omega
   simp [c,h1]
theorem wTB {l:List Int} (h:l.Pairwise (· < ·)) {k:Nat} (hk:k < l.length):cn l (gd l k)=k + 1:=by
 have h1:=(wOB (t:=gd l k) h hk).2 (nR _)
 have h2:=wLx l (gd l k)
 by_cases e:k + 1=l.length
 ·omega
 ·have h3:=mt (wOB (t:=gd l k) (k:=k + 1) h (by omega)).1
  have h4:gd l k < gd l (k + 1):=by
   have:=nB.1 h k (k + 1) hk (by omega) (by omega)
   rwa [<- wBm hk,<- wBm (by omega)] at this
  have:=h3 (by omega)
  omega
theorem wTC {l:List Int} (h:l.Pairwise (· < ·)) {t:Int} (ht:t ∈ l):0 < cn l t/\cn l t <= l.length/\gd l (cn l t - 1)=t:=by
 obtain ⟨k,hk,e⟩:=nE ht
 have e':gd l k=t:=by rw [wBm hk,e]
 have:=wTB h hk
 rw [e'] at this
 refine ⟨by omega,wLx _ _,?_⟩
 rw [this];exact e'
theorem wRc {l:List Int} (h:l.Pairwise (· < ·)) {s t:Int} (hst:s < t) (hno:∀ x ∈ l,s < x->t <= x) :
  cn l t=if cn l s < l.length/\gd l (cn l s)=t then cn l s + 1 else cn l s:=by
 have h0:=wLx l s
 have hm:=wRb l (show s <= t by omega)
 by_cases hl:cn l s < l.length
 ·have h1:s < gd l (cn l s):=by
   have:=mt (wOB (t:=s) h hl).2 (by omega)
   omega
  have h2:=hno _ (wAb hl) h1
  by_cases e:gd l (cn l s)=t
  ·rw [if_pos ⟨hl,e⟩]
   have:=wTB h hl
   rw [e] at this
   exact this
  ·rw [if_neg (fun c=>e c.2)]
   have:=mt (wOB (t:=t) h hl).1 (by omega)
   omega
 ·rw [if_neg (fun c=>hl c.1)]
  have:=wLx l t
  omega
def Lp (p:wAF) (d time:Int) (j:Nat):Prop:=j < p.done.length/\gd p.out j=false/\d + 2 <= gd p.done j/\gd (gd p.Race.Times j) ((gd p.done j) - 1).toNat=time
structure wJN (p:wAF):Prop where
 n:p.done.length <= 60
 o:p.out.length=p.done.length
 b:p.Race.Bibs.length=p.done.length
 t:p.Race.Times.length=p.done.length
 d0:∀ i,i < p.done.length->0 <= gd p.done i/\gd p.done i <= (gd p.Race.Times i).length
 len:∀ l ∈ p.Race.Times,l.length <= 1000
def ByP (p:wAF) (d time:Int) (n:Nat) (x:Int):Prop :=
 (x=-1/\∀ j,j < n->¬ Lp p d time j) \/ ∃ j:Nat,x=j/\j < n/\Lp p d time j/\∀ i,i < n->Lp p d time i->gd p.Race.Bibs j <= gd p.Race.Bibs i
theorem wCa {S:Type} {body:Nat->S->Option S} {n:Nat} {s0:S} (I:Nat->S->Prop) (hn:n <= 1000) (h0:I 0 s0) (h:∀ i s,i < n->I i s->∃ s',body i s=some s'/\I (i + 1) s'):∃ s,wBL 0 (n:Int) body s0=some s/\I n s:=by
 rw [wDH (by omega)]
 have:=wDm (body:=body) I n 0 s0 h0 fun i s _ h2 h3=>h i s (by omega) h3
 rwa [nV] at this
theorem wTD {p:wAF} (G:wJN p) (i d time:Int) (hd0:0 <= d) (hd1:d <= 1000):∃ x,wAv p i d time=some x/\ByP p d time p.done.length x:=by
 unfold wAv
 have hn:=G.n
 obtain ⟨x,e,hx⟩:=wCa (body:=fun (k10:Nat) (x9:Int) =>
  ((idx p.done (↑k10:Int)).bind fun x35 =>
  (idx p.out (↑k10:Int)).bind fun x46 =>
  if x46=true then
   some x9
  else
   if (w64 (d + 2)) <= x35 then
    (idx p.Race.Times (↑k10:Int)).bind fun x60 =>
    (idx x60 (w64 (x35 - 1))).bind fun x73 =>
    if x73=time then
     if x9 < 0 then
      some (↑k10:Int)
     else
      (idx p.Race.Bibs (↑k10:Int)).bind fun x92 =>
      (idx p.Race.Bibs x9).bind fun x100 =>
      if x92 < x100 then
       some (↑k10:Int)
      else
       some x9
    else
     some x9
   else
    some x9).bind fun x34 =>
  some x34) (n:=p.done.length) (s0:=(-1:Int)) (fun k x=>ByP p d time k x) (by omega) (.inl ⟨rfl,fun j hj=>by omega⟩) (fun k x hk hx=>by
   have hd:=G.d0 k hk
   have ho:=G.o
   have hb:=G.b
   have ht:=G.t
   have hll:=G.len _ (wAb (l:=p.Race.Times) (k:=k) (by omega))
   simp only [wKP]
   rw [wBf hk,nA,wBf (by omega),nA,wAU (by omega) (by omega)]
   have skip:¬ Lp p d time k->ByP p d time (k + 1) x:=fun hno=>by
    rcases hx with ⟨h1,h2⟩ | ⟨j,h1,h2,h3,h4⟩
    ·exact .inl ⟨h1,fun j hj=>by
      by_cases e:j=k
      ·exact e ▸ hno
      ·exact h2 j (by omega)⟩
    ·exact .inr ⟨j,h1,by omega,h3,fun i hi hL=>by
      by_cases e:i=k
      ·exact absurd (e ▸ hL) hno
      ·exact h4 i (by omega) hL⟩
   by_cases c1:gd p.out k=true
   ·rw [if_pos c1]
    exact ⟨x,rfl,skip fun h=>by have:=h.2.1;rw [c1] at this;exact nq this⟩
   rw [if_neg c1]
   by_cases c2:d + 2 <= gd p.done k
   ·have e1:(gd p.done k) - 1=((((gd p.done k) - 1).toNat:Nat):Int):=by omega
    rw [if_pos c2,wBf (by omega),nA,wAU (by omega) (by omega),e1,wBf (by omega),nA]
    by_cases c3:gd (gd p.Race.Times k) ((gd p.done k) - 1).toNat=time
    ·have hL:Lp p d time k:=⟨hk,by simpa using c1,c2,c3⟩
     rw [if_pos c3]
     rcases hx with ⟨h1,h2⟩ | ⟨j,h1,h2,h3,h4⟩
     ·rw [if_pos (by omega)]
      exact ⟨_,rfl,.inr ⟨k,rfl,by omega,hL,fun i hi hL'=>by
       by_cases e:i=k
       ·subst e;exact nR _
       ·exact absurd hL' (h2 i (by omega))⟩⟩
     ·subst h1
      rw [if_neg (by omega),wBf (by omega),nA,wBf (by omega),nA]
      by_cases c4:gd p.Race.Bibs k < gd p.Race.Bibs j
      ·rw [if_pos c4]
       exact ⟨_,rfl,.inr ⟨k,rfl,by omega,hL,fun i hi hL'=>by
        by_cases e:i=k
        ·subst e;exact nR _
        ·have:=h4 i (by omega) hL'
         omega⟩⟩
      ·rw [if_neg c4]
       exact ⟨_,rfl,.inr ⟨j,rfl,by omega,h3,fun i hi hL'=>by
        by_cases e:i=k
        ·subst e;omega
        ·exact h4 i (by omega) hL'⟩⟩
    ·rw [if_neg c3]
     exact ⟨x,rfl,skip fun h=>c3 h.2.2.2⟩
   ·rw [if_neg c2]
    exact ⟨x,rfl,skip fun h=>c2 h.2.2.1⟩)
 rw [e,nA]
 exact ⟨x,rfl,hx⟩
end Go.Proofs.YtglpalgiipahjaaGreat
namespace Go.Proofs.YtglpalgiipahjaaGreat
open Go.KL
def nx (p:wAF) (t:Int) (i:Nat):Int:=if gd p.out i=false/\gd p.done i < (gd p.Race.Times i).length/\gd (gd p.Race.Times i) (gd p.done i).toNat=t then gd p.done i + 1 else gd p.done i
def st1 (p0:wAF) (p1:Int):Nat->List Int->Option (List Int):=fun k10 l9 =>
  (idx p0.Race.Times (↑k10:Int)).bind fun x33 =>
  (chk (↑k10:Int) l9.length).bind fun _ =>
  (chk (↑k10:Int) p0.out.length).bind fun _ =>
  if (gd p0.out k10)=true then
   some l9
  else
   if (gd l9 k10) < (↑x33.length:Int) then
    (idx x33 (gd l9 k10)).bind fun x62 =>
    if x62=p1 then
     some (nN l9 k10 (w64 ((gd l9 k10) + 1)))
    else
     some l9
   else
    some l9
def st2 (p0:wAF) (p1:Int) (y15:List Int):Nat->List Int->Option (List Int):=fun k121 l117 =>
  (chk (↑k121:Int) y15.length).bind fun _ =>
  (chk (↑k121:Int) p0.out.length).bind fun _ =>
  if (gd p0.out k121)=true then
   some l117
  else
   (wAv (⟨p0.Race,y15,p0.out⟩:wAF) (↑k121:Int) (gd y15 k121) p1).bind fun x193 =>
   if 0 <= x193 then
    (app 8 l117 [(↑k121:Int)]).bind fun x222 =>
    some x222
   else
    some l117
theorem wKQ (p0:wAF) (p1:Int):wAw p0 p1=(wBL 0 (↑p0.Race.Times.length:Int) (st1 p0 p1) p0.done).bind fun y =>
 (wBL 0 (↑y.length:Int) (st2 p0 p1 y) []).bind fun z=>some (z,(⟨p0.Race,y,p0.out⟩:wAF)):=rfl
theorem wTE {p:wAF} (G:wJN p) (t:Int):∃ y,wBL 0 (↑p.Race.Times.length:Int) (st1 p t) p.done=some y/\y.length=p.done.length/\∀ i,i < p.done.length->gd y i=nx p t i:=by
 have hn:=G.n
 have ho:=G.o
 have ht:=G.t
 obtain ⟨y,e,h1,h2⟩:=wCa (body:=st1 p t) (n:=p.Race.Times.length) (s0:=p.done) (fun k y=>y.length=p.done.length/\∀ i,i < p.done.length->gd y i=if i < k then nx p t i else gd p.done i) (by omega) ⟨rfl,fun i _=>by rw [if_neg (by omega)]⟩ (fun k y hk ⟨h1,h2⟩=>by
  have hk':k < p.done.length:=by omega
  have hd:=G.d0 k hk'
  have hll:=G.len _ (wAb (l:=p.Race.Times) (k:=k) hk)
  have hyk:gd y k=gd p.done k:=by rw [h2 k hk',if_neg (by omega)]
  have keep:nx p t k=gd p.done k->∀ i,i < p.done.length->gd y i=if i < k + 1 then nx p t i else gd p.done i:=fun e i hi=>by
   rw [h2 i hi]
   by_cases c:i=k
   ·subst c
    rw [if_neg (by omega),if_pos (by omega),e]
   ·by_cases c2:i < k
    ·rw [if_pos c2,if_pos (by omega)]
    ·rw [if_neg c2,if_neg (by omega)]
  unfold st1
  rw [wBf hk,nA,wBy (by omega) (by omega),nA,wBy (by omega) (by omega),nA,hyk]
  by_cases c1:gd p.out k=true
  ·rw [if_pos c1]
   exact ⟨y,rfl,h1,keep (if_neg (fun h=>by rw [c1] at h;exact nq h.1))⟩
  have c1':gd p.out k=false:=by simpa using c1
  rw [if_neg c1]
  by_cases c2:gd p.done k < ((gd p.Race.Times k).length:Int)
  ·have e1:idx (gd p.Race.Times k) (gd p.done k)=some (gd (gd p.Race.Times k) (gd p.done k).toNat):=by
    unfold idx
    rw [if_pos hd.1,wBM (by omega)]
   rw [if_pos c2,e1,nA]
   by_cases c3:gd (gd p.Race.Times k) (gd p.done k).toNat=t
   ·have en:nx p t k=gd p.done k + 1:=if_pos ⟨c1',c2,c3⟩
    rw [if_pos c3,wAU (by omega) (by omega)]
    refine ⟨_,rfl,by simpa using h1,fun i hi=>?_⟩
    rw [wQP (by omega) (by omega)]
    by_cases c:i=k
    ·subst c
     rw [if_pos rfl,if_pos (by omega),en]
    ·rw [if_neg c,h2 i hi]
     by_cases c4:i < k
     ·rw [if_pos c4,if_pos (by omega)]
     ·rw [if_neg c4,if_neg (by omega)]
   ·rw [if_neg c3]
    exact ⟨y,rfl,h1,keep (if_neg (fun h=>c3 h.2.2))⟩
  ·rw [if_neg c2]
   exact ⟨y,rfl,h1,keep (if_neg (fun h=>c2 h.2.1))⟩)
 exact ⟨y,e,h1,fun i hi=>by rw [h2 i hi,if_pos (by omega)]⟩
theorem nx_le {p:wAF} (G:wJN p) (t:Int) {i:Nat} (hi:i < p.done.length):0 <= nx p t i/\nx p t i <= (gd p.Race.Times i).length:=by
 have:=G.d0 i hi
 unfold nx
 split <;> omega
theorem wRd {p:wAF} (G:wJN p) (t:Int):∃ z y,wAw p t=some (z,(⟨p.Race,y,p.out⟩:wAF))/\y.length=p.done.length/\(∀ i,i < p.done.length->gd y i=nx p t i)/\wJN (⟨p.Race,y,p.out⟩:wAF) /\
  z.Pairwise (· < ·)/\∀ x,x ∈ z ↔ ∃ i:Nat,x=i/\i < p.done.length/\gd p.out i=false/\∃ j,Lp (⟨p.Race,y,p.out⟩:wAF) (gd y i) t j:=by
 rw [wKQ]
 have hn:=G.n
 obtain ⟨y,e,h1,h2⟩:=wTE G t
 rw [e,nA]
 have G':wJN (⟨p.Race,y,p.out⟩:wAF):=⟨by show y.length <= 60;omega,by show p.out.length=y.length;rw [h1];exact G.o,by show p.Race.Bibs.length=y.length;rw [h1];exact G.b,by show p.Race.Times.length=y.length;rw [h1];exact G.t,fun i hi=>by
  have hi':i < p.done.length:=by rw [<- h1];exact hi
  show 0 <= gd y i/\gd y i <= _
  rw [h2 i hi']
  exact nx_le G t hi',G.len⟩
 obtain ⟨z,ez,z1,z2⟩:=wCa (body:=st2 p t y) (n:=y.length) (s0:=[]) (fun k z=>z.Pairwise (· < ·)/\∀ x,x ∈ z ↔ ∃ i:Nat,x=i/\i < k/\gd p.out i=false/\∃ j,Lp (⟨p.Race,y,p.out⟩:wAF) (gd y i) t j) (by omega) ⟨kB,fun x=>by simp⟩ (fun k z hk ⟨z1,z2⟩=>by
  have hk':k < p.done.length:=by omega
  have ho:=G.o
  have hyk:=G'.d0 k hk
  have hll:=G.len _ (wAb (l:=p.Race.Times) (k:=k) (by have:=G.t;omega))
  have hzl:z.length <= k:=by
   have hsub:∀ x ∈ z,0 <= x/\x < k:=fun x hx=>by
    obtain ⟨i,rfl,hi,_⟩:=(z2 x).1 hx
    omega
   rcases kY k z.length with c | c
   ·exfalso
    have key:∀ (m:Nat),m < z.length->(m:Int) <= gd z m:=by
     intro m
     induction m with
     | zero=>intro hm;exact (hsub _ (wAb hm)).1
     | succ m ih =>
      intro hm
      have h3:=ih (by omega)
      have h4:=nB.1 z1 m (m + 1) (by omega) hm (by omega)
      rw [<- wBm (by omega),<- wBm hm] at h4
      omega
    have h5:=key k c
    have h6:=(hsub _ (wAb c)).2
    omega
   ·exact c
  have skip:¬ (gd p.out k=false/\∃ j,Lp (⟨p.Race,y,p.out⟩:wAF) (gd y k) t j)->∀ x,x ∈ z ↔ ∃ i:Nat,x=i/\i < k + 1/\gd p.out i=false/\∃ j,Lp (⟨p.Race,y,p.out⟩:wAF) (gd y i) t j:=fun hno x=>by
   rw [z2]
   constructor
   ·rintro ⟨i,h1,h2,h3⟩
    exact ⟨i,h1,by omega,h3⟩
   ·rintro ⟨i,h1,h2,h3⟩
    by_cases c:i=k
    ·exact absurd (c ▸ h3) hno
    ·exact ⟨i,h1,by omega,h3⟩
  unfold st2
  rw [wBy (by omega) (by omega),nA,wBy (by omega) (by omega),nA]
  by_cases c1:gd p.out k=true
  ·rw [if_pos c1]
   exact ⟨z,rfl,z1,skip (fun h=>by have:=h.1;rw [c1] at this;exact nq this)⟩
  have c1':gd p.out k=false:=by simpa using c1
  obtain ⟨x,ex,hx⟩:=wTD G' (k:Int) (gd y k) t hyk.1 (by
   have:=hyk.2
   simp only at this
   omega)
  rw [if_neg c1,ex,nA]
  rcases hx with ⟨h3,h4⟩ | ⟨j,h3,h4,h5,_⟩
  ·rw [if_neg (by omega)]
   exact ⟨z,rfl,z1,skip (fun h=>by obtain ⟨_,j,hj⟩:=h;exact h4 j hj.1 hj)⟩
  ·rw [if_pos (by omega),wCm (by simp;omega),nA]
   refine ⟨_,rfl,?_,fun x=>?_⟩
   ·rw [nY]
    refine ⟨z1,nW _ _,fun a ha b hb=>?_⟩
    obtain ⟨i,rfl,hi,_⟩:=(z2 a).1 ha
    have:=nH.1 hb
    omega
   ·rw [nO,z2,nH]
    constructor
    ·rintro (⟨i,h1,h2,h3⟩ | h)
     ·exact ⟨i,h1,by omega,h3⟩
     ·exact ⟨k,h,by omega,c1',j,h5⟩
    ·rintro ⟨i,h1,h2,h3⟩
     by_cases c:i=k
     ·exact .inr (by rw [h1,c])
     ·exact .inl ⟨i,h1,by omega,h3⟩)
 rw [ez,nA]
 refine ⟨z,y,rfl,h1,h2,G',z1,fun x=>?_⟩
 rw [z2,h1]
end Go.Proofs.YtglpalgiipahjaaGreat
namespace Go.Proofs.YtglpalgiipahjaaGreat
open Go.KL
def rA (p:wAF) (z:List Int) (t:Int) (k1191:Nat) (l1188:List wAE):Option (List wAE) :=
      (chk (↑k1191:Int) z.length).bind fun _ =>
      (idx p.Race.Bibs (gd z k1191)).bind fun x1222 =>
      (chk (gd z k1191) p.done.length).bind fun _ =>
      (wAv p (gd z k1191) (gd p.done (gd z k1191).toNat) t).bind fun x1264 =>
      (idx p.Race.Bibs x1264).bind fun x1286 =>
      (app 32 l1188 [(⟨x1222,(gd p.done (gd z k1191).toNat),t,x1286⟩:wAE)]).bind fun x1299 =>
      some x1299
def rO (z:List Int) (k1338:Nat) (l1337:List Bool):Option (List Bool) :=
      (chk (↑k1338:Int) z.length).bind fun _ =>
      (chk (gd z k1338) l1337.length).bind fun _ =>
      some (nN l1337 (gd z k1338).toNat true)
abbrev RS:=(List wAE) × Int × (List Int) × (List (List Int)) × (List Int) × (List Bool)
def rB:RS->Int->Option (RS ⊕ Empty)
 | (l1081,x1085,l1086,l1089,l1092,l1095),x1124 =>
  (wAw (⟨(⟨x1085,l1086,l1089⟩:wAD),l1092,l1095⟩:wAF) x1124).bind fun (x1150,x1151) =>
  (wBL 0 (↑x1150.length:Int) (rA x1151 x1150 x1124) l1081).bind fun y1196 =>
  (wBL 0 (↑x1150.length:Int) (rO x1150) x1151.out).bind fun y1343 =>
  some (.inl (y1196,x1151.Race.Laps,x1151.Race.Bibs,x1151.Race.Times,x1151.done,y1343))
theorem wLy (p0:wAD):wCM p0=((mkz 8 (↑p0.Bibs.length:Int) (0:Int)).bind fun x18 =>
 (mkz 1 (↑p0.Bibs.length:Int) false).bind fun x26 =>
 some (x18,x26)).bind fun (l9,l12) =>
 (wBb p0).bind fun x520 =>
 (wAl (S:=RS) (E:=Empty) rB ([],p0.Laps,p0.Bibs,p0.Times,l9,l12) x520).bind fun rr1118 =>
 match rr1118 with
 | .inl (y1416,y1417,y1418,y1419,y1420,y1421) =>
  (wAd y1416 (fun x=>wAp x.1 x.2)).bind fun x1438 =>
  some ((⟨(⟨y1417,y1418,y1419⟩:wAD),y1420,y1421⟩:wAF),x1438)
 | .inr e1432 =>
  e1432.elim:=rfl
theorem wOC {S:Type} {f:S->Int->Option (S ⊕ Empty)} {L:List Int} (I:Nat->S->Prop) {s0:S} (hL:L.length <= 1000000) (h0:I 0 s0) (h:∀ k s,k < L.length->I k s->∃ s',f s (gd L k)=some (.inl s')/\I (k + 1) s'):∃ s',wAl f s0 L=some (.inl s')/\I L.length s':=by
 unfold wAl
 rw [wDA (by omega)]
 have key:∀ body:Nat->S->Option (S ⊕ (S ⊕ Empty)),(∀ k s,k < L.length->I k s->∃ s',body k s=some (.inl s')/\I (k + 1) s')->∃ s',jn (forN body L.length 0 s0) (fun y:S=>some (Sum.inl y:S ⊕ Empty))=some (.inl s')/\I L.length s':=by
  intro body hb
  rcases wLH (body:=body) I (fun _=>False) L.length 0 s0 h0 (fun k s _ hk hI=>.inl (hb k s (by omega) hI)) with ⟨s',e,hs⟩ | ⟨_,_,h⟩
  ·rw [nV] at hs
   exact ⟨s',by rw [e];rfl,hs⟩
  ·exact h.elim
 refine key _ fun k s hk hI=>?_
 obtain ⟨s',e,hs⟩:=h k s hk hI
 refine ⟨s',?_,hs⟩
 rw [wBf hk,nA,e];rfl
structure wGG (r:wAD):Prop where
 n:r.Bibs.length <= 60
 t:r.Times.length=r.Bibs.length
 len:∀ l ∈ r.Times,l.length <= 20
 inc:∀ l ∈ r.Times,l.Pairwise (· < ·)
 pos:∀ l ∈ r.Times,∀ x ∈ l,0 <= x/\x <= 360000
 one:r.Bibs.Nodup
def nbf (τ:Nat->Option Int) (i:Nat) (t:Int):Prop:=∀ s,τ i=some s->t <= s
def lap (r:wAD) (τ:Nat->Option Int) (i:Nat) (t:Int) (j:Nat):Prop :=
 j < r.Bibs.length/\nbf τ j t/\t ∈ gd r.Times j/\cn (gd r.Times i) t + 2 <= cn (gd r.Times j) t
structure Exact (r:wAD) (ts:List Int) (τ:Nat->Option Int):Prop where
 in_:∀ i s,i < r.Bibs.length->τ i=some s->s ∈ ts
 iff:∀ i,i < r.Bibs.length->∀ t ∈ ts,nbf τ i t->(τ i=some t ↔ ∃ j,lap r τ i t j)
structure Ent (r:wAD) (τ:Nat->Option Int) (i:Nat) (o:wAE):Prop where
 bib:o.Bib=gd r.Bibs i
 time:τ i=some o.Time
 done:o.Done=cn (gd r.Times i) o.Time
 by_:∃ j,o.By=gd r.Bibs j/\lap r τ i o.Time j/\∀ k,lap r τ i o.Time k->gd r.Bibs j <= gd r.Bibs k
structure Ents (r:wAD) (τ:Nat->Option Int) (a:List wAE):Prop where
 of:∀ o ∈ a,∃ i,i < r.Bibs.length/\Ent r τ i o
 all:∀ i,i < r.Bibs.length->τ i ≠ none->∃ o ∈ a,o.Bib=gd r.Bibs i
 one:(a.map (·.Bib)).Nodup
def wFs (L:List Int) (k:Nat):Int:=if k=0 then -1 else gd L (k - 1)
structure RInv (r:wAD) (L:List Int) (k:Nat) (s:RS):Prop where
 laps:s.2.1=r.Laps
 bibs:s.2.2.1=r.Bibs
 times:s.2.2.2.1=r.Times
 dl:s.2.2.2.2.1.length=r.Bibs.length
 ol:s.2.2.2.2.2.length=r.Bibs.length
 al:s.1.length <= 60 * k
 tau:∃ τ,(∀ i,i < r.Bibs.length->gd s.2.2.2.2.2 i=(τ i).isSome)/\(∀ i,i < r.Bibs.length->gd s.2.2.2.2.1 i=cn (gd r.Times i) ((τ i).getD (wFs L k)))/\Exact r (L.take k) τ/\Ents r τ s.1
theorem wIO {r:wAD} (G:wGG r) {i j:Nat} (hi:i < r.Bibs.length) (hj:j < r.Bibs.length) (e:gd r.Bibs i=gd r.Bibs j):i=j:=by
 have pw:=nB.1 (nD.1 G.one)
 rw [wBm hi,wBm hj] at e
 rcases kC i j with c | c | c
 ·exact absurd e (pw i j hi hj c)
 ·exact c
 ·exact absurd e.symm (pw j i hj hi c)
theorem wKR {τ τ':Nat->Option Int} {t u:Int} {z:Nat->Prop} (h1:∀ i,z i->τ' i=some t/\τ i=none) (h2:∀ i,¬ z i->τ' i=τ i) (hu:u <= t) (i:Nat):nbf τ' i u ↔ nbf τ i u:=by
 by_cases c:z i
 ·obtain ⟨a,b⟩:=h1 i c
  unfold nbf
  constructor
  ·intro _ s hs;rw [b] at hs;cases hs
  ·intro _ s hs;rw [a] at hs;cases hs;exact hu
 ·unfold nbf;rw [h2 i c]
theorem wFt {r:wAD} {τ τ':Nat->Option Int} {t u:Int} {z:Nat->Prop} (h1:∀ i,z i->τ' i=some t/\τ i=none) (h2:∀ i,¬ z i->τ' i=τ i) (hu:u <= t) (i j:Nat):lap r τ' i u j ↔ lap r τ i u j:=by
 unfold lap
 rw [wKR h1 h2 hu]
theorem rA_is {r:wAD} (G:wGG r) {τ:Nat->Option Int} {p:wAF} (hp:wJN p) (hr:p.Race=r) {t:Int} {z:List Int} (hz:∀ x ∈ z,∃ i:Nat,x=i/\i < r.Bibs.length/\(∃ j,Lp p (gd p.done i) t j))
  (hL:∀ i j,i < r.Bibs.length->gd p.out i=false->(Lp p (gd p.done i) t j ↔ lap r τ i t j)) (ho:∀ x ∈ z,∀ i:Nat,x=i->gd p.out i=false) (hd:∀ i,i < r.Bibs.length->gd p.out i=false->gd p.done i=cn (gd r.Times i) t)
  (hzl:z.length <= 60) {a:List wAE} (ha:a.length <= 100000):∃ e,wBL 0 (↑z.length:Int) (rA p z t) a=some (a ++ e)/\e.length=z.length/\∀ q,q < z.length->(gd e q).Bib=gd r.Bibs (gd z q).toNat/\(gd e q).Time=t/\(gd e q).Done=cn (gd r.Times (gd z q).toNat) t/\∃ j,(gd e q).By=gd r.Bibs j/\lap r τ (gd z q).toNat t j/\∀ k,lap r τ (gd z q).toNat t k->gd r.Bibs j <= gd r.Bibs k:=by
 have hb:=hp.b
 obtain ⟨s,e,es,h1,h2,h3⟩:=wCa (body:=rA p z t) (n:=z.length) (s0:=a) (fun k s=>∃ e,s=a ++ e/\e.length=k/\∀ q,q < k->(gd e q).Bib=gd r.Bibs (gd z q).toNat/\(gd e q).Time=t/\(gd e q).Done=cn (gd r.Times (gd z q).toNat) t/\∃ j,(gd e q).By=gd r.Bibs j/\lap r τ (gd z q).toNat t j/\∀ k,lap r τ (gd z q).toNat t k->gd r.Bibs j <= gd r.Bibs k) (by omega) ⟨[],by simp,rfl,fun q hq=>by omega⟩ (fun k s hk ⟨e,hs,h2,h3⟩=>by
  obtain ⟨i,hi,hi2,j0,hj0⟩:=hz _ (wAb hk)
  have hout:=ho _ (wAb hk) i hi
  have hpd:=hp.d0 i (by rw [<- hb,hr];exact hi2)
  have hll:=hp.len _ (wAb (l:=p.Race.Times) (k:=i) (by have:=hp.t;rw [this,<- hb,hr];exact hi2))
  have hdn:=hd i hi2 hout
  rw [hr] at hb
  unfold rA
  rw [wBy (by omega) (by omega),nA,hi,hr,wBf hi2,nA,wBy (by omega) (by omega),nA,nK]
  obtain ⟨x,ex,hx⟩:=wTD hp (i:Int) (gd p.done i) t hpd.1 (by omega)
  rw [ex,nA]
  rcases hx with ⟨_,h5⟩ | ⟨j,h4,h5,h6,h7⟩
  ·exact absurd hj0 (h5 j0 hj0.1)
  ·subst h4
   have hj:j < r.Bibs.length:=by rw [hb];exact h5
   rw [wBf hj,nA,wCm (by rw [hs];simp;omega),nA]
   refine ⟨_,rfl,e ++ [⟨gd r.Bibs i,gd p.done i,t,gd r.Bibs j⟩],by rw [hs,nk],by simp [h2],fun q hq=>?_⟩
   by_cases c:q=k
   ·subst c
    have eg:gd (e ++ [(⟨gd r.Bibs i,gd p.done i,t,gd r.Bibs j⟩:wAE)]) q=⟨gd r.Bibs i,gd p.done i,t,gd r.Bibs j⟩:=by rw [<- h2,wGQ]
    rw [eg,hi,nK]
    refine ⟨rfl,rfl,hdn,j,rfl,(hL i j hi2 hout).1 h6,fun k hk=>?_⟩
    have hk2:=(hL i k hi2 hout).2 hk
    rw [hr] at h7
    exact h7 k hk2.1 hk2
   ·rw [wIN (by omega)]
    exact h3 q (by omega))
 exact ⟨es,by rw [e,h1],h2,h3⟩
theorem rO_is {z:List Int} {n:Nat} (hz:∀ x ∈ z,0 <= x/\x < n) (hzl:z.length <= 60) {o:List Bool} (ho:o.length=n):∃ o',wBL 0 (↑z.length:Int) (rO z) o=some o'/\o'.length=n/\∀ i:Nat,i < n->gd o' i=if (i:Int) ∈ z then true else gd o i:=by
 obtain ⟨o',e,h1,h2⟩:=wCa (body:=rO z) (n:=z.length) (s0:=o) (fun k o'=>o'.length=n/\∀ i:Nat,i < n->gd o' i=if (i:Int) ∈ z.take k then true else gd o i) (by omega) ⟨ho,fun i _=>by simp⟩ (fun k s hk ⟨h1,h2⟩=>by
  have hr:=hz _ (wAb hk)
  unfold rO
  rw [wBy (by omega) (by omega),nA,wBy (by omega) (by omega),nA]
  refine ⟨_,rfl,by simpa using h1,fun i hi=>?_⟩
  rw [wQP (by omega) (by omega),h2 i hi,wDS hk]
  by_cases c:i=(gd z k).toNat
  ·rw [if_pos c,if_pos (by rw [nO,nH];right;omega)]
  ·rw [if_neg c]
   have:((i:Int) ∈ z.take k ++ [gd z k]) ↔ (i:Int) ∈ z.take k:=by
    rw [nO,nH]
    exact ⟨fun h=>h.elim id fun h=>absurd h (by omega),.inl⟩
   simp only [this])
 exact ⟨o',e,h1,fun i hi=>by rw [h2 i hi,nM]⟩
end Go.Proofs.YtglpalgiipahjaaGreat
namespace Go.Proofs.YtglpalgiipahjaaGreat
open Go.KL
structure Times (r:wAD) (L:List Int):Prop where
 inc:L.Pairwise (· < ·)
 all:∀ x,x ∈ L ↔ ∃ l ∈ r.Times,x ∈ l
 len:L.length <= 1200
theorem wRe {L:List Int} (hL:L.Pairwise (· < ·)) (h0:∀ x ∈ L,0 <= x) {k:Nat} (hk:k < L.length):wFs L k < gd L k/\(∀ x ∈ L.take k,x <= wFs L k/\x < gd L k)/\∀ x ∈ L,wFs L k < x->gd L k <= x:=by
 have mono:∀ i j,i < j->j < L.length->gd L i < gd L j:=fun i j hij hj=>by
  have:=nB.1 hL i j (by omega) hj hij
  rwa [<- wBm (by omega),<- wBm hj] at this
 have le:∀ i j,i <= j->j < L.length->gd L i <= gd L j:=fun i j hij hj=>by
  by_cases e:i=j
  ·subst e;exact nR _
  ·exact kE (mono i j (by omega) hj)
 unfold wFs
 refine ⟨?_,fun x hx=>?_,fun x hx hlt=>?_⟩
 ·split
  ·have:=h0 _ (wAb hk);omega
  ·exact mono _ _ (by omega) hk
 ·obtain ⟨i,hi,e⟩:=nE hx
  rw [kG] at hi
  rw [List.getElem_take,<- wBm (by omega)] at e
  subst e
  rw [if_neg (by omega)]
  exact ⟨le _ _ (by omega) (by omega),mono _ _ (by omega) hk⟩
 ·obtain ⟨i,hi,e⟩:=nE hx
  rw [<- wBm hi] at e
  subst e
  rcases kY i k with c | c
  ·exfalso
   rw [if_neg (by omega)] at hlt
   have:=le i (k - 1) (by omega) (by omega)
   omega
  ·exact le _ _ c hi
theorem wPZ {r:wAD} (G:wGG r) {L:List Int} (hT:Times r L) {k:Nat} (hk:k < L.length) {s:RS} (I:RInv r L k s):∃ s',rB s (gd L k)=some (.inl s')/\RInv r L (k + 1) s':=by
 obtain ⟨A,laps,bibs,times,done,out⟩:=s
 obtain ⟨e1,e2,e3,dl,ol,al,τ,to,td,tx,te⟩:=I
 simp only at e1 e2 e3 dl ol al to td te
 subst e1 e2 e3
 have hn:=G.n
 have hrt:=G.t
 have hpos:∀ x ∈ L,0 <= x:=fun x hx=>by
  obtain ⟨l,hl,hx⟩:=(hT.all x).1 hx
  exact (G.pos l hl x hx).1
 obtain ⟨lt1,lt2,lt3⟩:=wRe hT.inc hpos hk
 have hkl:=hT.len
 generalize ht:gd L k=t at lt1 lt2 lt3 ⊢
 have tin:∀ i,i < r.Bibs.length->gd r.Times i ∈ r.Times:=fun i hi=>wAb (by omega)
 let p:wAF:=⟨r,done,out⟩
 have Gp:wJN p:=⟨by show done.length <= 60;omega,by show out.length=done.length;omega,by show r.Bibs.length=done.length;omega,by show r.Times.length=done.length;omega,fun i hi=>by
  have hi':i < r.Bibs.length:=by rw [<- dl];exact hi
  show 0 <= gd done i/\gd done i <= ((gd r.Times i).length:Int)
  rw [td i hi']
  have:=wLx (gd r.Times i) ((τ i).getD (wFs L k))
  omega,fun l hl=>by have:=G.len l hl;omega⟩
 obtain ⟨z,y,ez,yl,yn,Gy,zp,zi⟩:=wRd Gp t
 have yl':y.length=r.Bibs.length:=by rw [yl];exact dl
 have outN:∀ i,i < r.Bibs.length->(gd out i=false ↔ τ i=none):=fun i hi=>by
  rw [to i hi]
  cases τ i <;> simp
 have yv:∀ i,i < r.Bibs.length->gd y i=cn (gd r.Times i) ((τ i).getD t):=fun i hi=>by
  have h1:=yn i (by rw [dl];exact hi)
  rw [h1]
  unfold nx
  show (if gd out i=false/\gd done i < ((gd r.Times i).length:Int)/\gd (gd r.Times i) (gd done i).toNat=t then gd done i + 1 else gd done i)=_
  cases hτ:τ i with
  | some s =>
   have ho:gd out i=true:=by rw [to i hi,hτ];rfl
   rw [if_neg (fun h=>by rw [ho] at h;exact nq h.1),td i hi,hτ]
   rfl
  | none =>
   have ho:gd out i=false:=(outN i hi).2 hτ
   have hd:=td i hi
   rw [hτ] at hd
   simp only [kH] at hd ⊢
   rw [wRc (G.inc _ (tin i hi)) lt1 (fun x hx hlt=>lt3 x ((hT.all x).2 ⟨_,tin i hi,hx⟩) hlt),hd]
   by_cases c:cn (gd r.Times i) (wFs L k) < (gd r.Times i).length/\gd (gd r.Times i) (cn (gd r.Times i) (wFs L k))=t
   ·rw [if_pos c,if_pos ⟨ho,by omega,by rw [nK];exact c.2⟩]
    omega
   ·rw [if_neg c,if_neg (fun h=>c ⟨by omega,by have:=h.2.2;rwa [nK] at this⟩)]
 have nbN:∀ j,j < r.Bibs.length->(nbf τ j t ↔ τ j=none):=fun j hj=>by
  constructor
  ·intro h
   cases hτ:τ j with
   | none=>rfl
   | some s =>
    have h1:=h s hτ
    have h2:=lt2 s (tx.in_ j s hj hτ)
    omega
  ·intro h s hs;rw [h] at hs;cases hs
 have lapN:∀ i j,i < r.Bibs.length->gd out i=false->(Lp (⟨r,y,out⟩:wAF) (gd y i) t j ↔ lap r τ i t j):=fun i j hi ho=>by
  have yi:gd y i=cn (gd r.Times i) t:=by rw [yv i hi,(outN i hi).1 ho];rfl
  unfold Lp lap
  show (j < y.length/\gd out j=false/\gd y i + 2 <= gd y j/\gd (gd r.Times j) (gd y j - 1).toNat=t) ↔ _
  rw [yl']
  constructor
  ·rintro ⟨hj,h1,h2,h3⟩
   have hτ:=(outN j hj).1 h1
   have yj:gd y j=cn (gd r.Times j) t:=by rw [yv j hj,hτ];rfl
   rw [yi,yj] at h2
   rw [yj] at h3
   have hle:=wLx (gd r.Times j) t
   refine ⟨hj,(nbN j hj).2 hτ,?_,by omega⟩
   have hm:=wAb (l:=gd r.Times j) (k:=((cn (gd r.Times j) t:Nat) - 1:Int).toNat) (by omega)
   rwa [h3] at hm
  ·rintro ⟨hj,h1,h2,h3⟩
   have hτ:=(nbN j hj).1 h1
   have yj:gd y j=cn (gd r.Times j) t:=by rw [yv j hj,hτ];rfl
   obtain ⟨c1,c2,c3⟩:=wTC (G.inc _ (tin j hj)) h2
   refine ⟨hj,(outN j hj).2 hτ,by rw [yi,yj];omega,?_⟩
   rw [yj,show (((cn (gd r.Times j) t:Nat):Int) - 1).toNat=cn (gd r.Times j) t - 1 by omega]
   exact c3
 have zin:∀ x,x ∈ z ↔ ∃ i:Nat,x=i/\i < r.Bibs.length/\τ i=none/\∃ j,lap r τ i t j:=fun x=>by
  rw [zi]
  constructor
  ·rintro ⟨i,h1,h2,h3,j,h4⟩
   have hi:i < r.Bibs.length:=by rw [<- dl];exact h2
   exact ⟨i,h1,hi,(outN i hi).1 h3,j,(lapN i j hi h3).1 h4⟩
  ·rintro ⟨i,h1,hi,h3,j,h4⟩
   exact ⟨i,h1,by rw [<- dl] at hi;exact hi,(outN i hi).2 h3,j,(lapN i j hi ((outN i hi).2 h3)).2 h4⟩
 have zl:z.length <= 60:=by
  have key:∀ m,m < z.length->(m:Int) <= gd z m:=by
   intro m
   induction m with
   | zero =>
    intro hm
    obtain ⟨i,h1,_⟩:=(zin _).1 (wAb hm)
    omega
   | succ m ih =>
    intro hm
    have h3:=ih (by omega)
    have h4:=nB.1 zp m (m + 1) (by omega) hm (by omega)
    rw [<- wBm (by omega),<- wBm hm] at h4
    omega
  rcases kY 60 z.length with c | c
  ·have h5:=key 60 c
   obtain ⟨i,h1,h2,_⟩:=(zin _).1 (wAb c)
   omega
  ·exact c
 obtain ⟨E,eE,El,Ee⟩:=rA_is (τ:=τ) G (p:=⟨r,y,out⟩) Gy rfl (t:=t) (z:=z) (fun x hx=>by
   obtain ⟨i,h1,h2,h3,j,h4⟩:=(zin x).1 hx
   exact ⟨i,h1,h2,j,(lapN i j h2 ((outN i h2).2 h3)).2 h4⟩) lapN (fun x hx i hi=>by
   obtain ⟨i',h1,h2,h3,_⟩:=(zin x).1 hx
   have:i=i':=by omega
   subst this
   exact (outN i h2).2 h3) (fun i hi ho=>by
   show gd y i=_
   rw [yv i hi,(outN i hi).1 ho];rfl) zl (a:=A) (by omega)
 obtain ⟨o',eo,ol',oi⟩:=rO_is (n:=r.Bibs.length) (z:=z) (fun x hx=>by
  obtain ⟨i,h1,h2,_⟩:=(zin x).1 hx
  omega) zl (o:=out) ol
 have er:rB (A,r.Laps,r.Bibs,r.Times,done,out) t=some (.inl (A ++ E,r.Laps,r.Bibs,r.Times,y,o')):=by
  unfold rB
  simp only
  rw [show wAw (⟨(⟨r.Laps,r.Bibs,r.Times⟩:wAD),done,out⟩:wAF) t=some (z,(⟨r,y,out⟩:wAF)) from ez,nA]
  simp only
  rw [eE,nA,eo,nA]
 obtain ⟨τ',hτ1,hτ2⟩:∃ τ':Nat->Option Int,(∀ i:Nat,(i:Int) ∈ z->τ' i=some t)/\∀ i:Nat,¬ (i:Int) ∈ z->τ' i=τ i:=⟨fun i=>if (i:Int) ∈ z then some t else τ i,fun i hi=>if_pos hi,fun i hi=>if_neg hi⟩
 refine ⟨_,er,rfl,rfl,rfl,yl',ol',by simp only [nQ];omega,τ',fun i hi=>?_,fun i hi=>?_,?_,?_⟩
 ·simp only
  rw [oi i hi]
  by_cases c:(i:Int) ∈ z
  ·rw [if_pos c,hτ1 i c];rfl
  ·rw [if_neg c,hτ2 i c];exact to i hi
 ·simp only
  rw [yv i hi]
  have hl:wFs L (k + 1)=t:=by unfold wFs;rw [if_neg (by omega)];exact ht
  rw [hl]
  by_cases c:(i:Int) ∈ z
  ·rw [hτ1 i c]
   obtain ⟨i',h1,h2,h3,_⟩:=(zin _).1 c
   have:i=i':=by omega
   subst this
   rw [h3];rfl
  ·rw [hτ2 i c]
 ·
  have h1:∀ i:Nat,(i:Int) ∈ z->τ' i=some t/\τ i=none:=fun i hi=>by
   obtain ⟨i',h1,_,h3,_⟩:=(zin _).1 hi
   have:i=i':=by omega
   subst this
   exact ⟨hτ1 i hi,h3⟩
  have h2:∀ i:Nat,¬ (i:Int) ∈ z->τ' i=τ i:=hτ2
  have tk:∀ u,u ∈ L.take (k + 1) ↔ u ∈ L.take k \/ u=t:=fun u=>by rw [wDS hk,nO,nH,ht]
  refine ⟨fun i u hi hu=>?_,fun i hi u hu hnb=>?_⟩
  ·rw [tk]
   by_cases c:(i:Int) ∈ z
   ·have:=(h1 i c).1
    rw [this] at hu
    right
    exact (nS hu).symm
   ·rw [h2 i c] at hu
    exact .inl (tx.in_ i u hi hu)
  ·rcases (tk u).1 hu with hu | hu
   ·have hut:=(lt2 u hu).2
    rw [wKR (z:=fun i:Nat=>(i:Int) ∈ z) h1 h2 (kE hut)] at hnb
    have:=tx.iff i hi u hu hnb
    simp only [wFt (r:=r) (z:=fun i:Nat=>(i:Int) ∈ z) h1 h2 (kE hut)]
    rw [<- this]
    by_cases c:(i:Int) ∈ z
    ·rw [(h1 i c).1,(h1 i c).2]
     exact ⟨fun h=>by have:=nS h;omega,fun h=>by cases h⟩
    ·rw [h2 i c]
   ·subst hu
    rw [wKR (z:=fun i:Nat=>(i:Int) ∈ z) h1 h2 (nR _),nbN i hi] at hnb
    simp only [wFt (r:=r) (z:=fun i:Nat=>(i:Int) ∈ z) h1 h2 (nR _)]
    constructor
    ·intro h
     by_cases c:(i:Int) ∈ z
     ·obtain ⟨i',g1,_,_,g4⟩:=(zin _).1 c
      have:i=i':=by omega
      subst this
      exact g4
     ·rw [h2 i c,hnb] at h;cases h
    ·intro h
     exact (h1 i ((zin _).2 ⟨i,rfl,hi,hnb,h⟩)).1
 ·have h1:∀ i:Nat,(i:Int) ∈ z->τ' i=some t/\τ i=none:=fun i hi=>by
   obtain ⟨i',h1,_,h3,_⟩:=(zin _).1 hi
   have:i=i':=by omega
   subst this
   exact ⟨hτ1 i hi,h3⟩
  have h2:∀ i:Nat,¬ (i:Int) ∈ z->τ' i=τ i:=hτ2
  have hA:∀ o ∈ A,∃ i,i < r.Bibs.length/\Ent r τ i o/\¬ (i:Int) ∈ z/\o.Time <= t:=fun o ho=>by
   obtain ⟨i,hi,hE⟩:=te.of o ho
   refine ⟨i,hi,hE,fun c=>?_,kE (lt2 _ (tx.in_ i _ hi hE.time)).2⟩
   have:=(h1 i c).2
   rw [hE.time] at this
   cases this
  have hE:∀ q,q < z.length->∃ i:Nat,gd z q=i/\i < r.Bibs.length/\τ i=none/\(i:Int) ∈ z:=fun q hq=>by
   obtain ⟨i,g1,g2,g3,_⟩:=(zin _).1 (wAb hq)
   exact ⟨i,g1,g2,g3,g1 ▸ wAb hq⟩
  refine ⟨fun o ho=>?_,fun i hi hτ=>?_,?_⟩
  ·rcases nO.1 ho with ho | ho
   ·obtain ⟨i,hi,he,hz,hot⟩:=hA o ho
    obtain ⟨j,j1,j2,j3⟩:=he.by_
    refine ⟨i,hi,he.bib,by rw [h2 i hz];exact he.time,he.done,j,j1,(wFt (z:=fun i:Nat=>(i:Int) ∈ z) h1 h2 hot i j).2 j2,fun q hq=>j3 q ((wFt (z:=fun i:Nat=>(i:Int) ∈ z) h1 h2 hot i q).1 hq)⟩
   ·obtain ⟨q,hq,eq⟩:=nE ho
    rw [<- wBm hq] at eq
    subst eq
    obtain ⟨i,g1,g2,_,g4⟩:=hE q (by omega)
    obtain ⟨b1,b2,b3,j,j1,j2,j3⟩:=Ee q (by omega)
    rw [g1,nK] at b1 b3 j2
    refine ⟨i,g2,b1,by rw [b2];exact (h1 i g4).1,by rw [b2];exact b3,j,j1,by rw [b2];exact (wFt (z:=fun i:Nat=>(i:Int) ∈ z) h1 h2 (nR _) i j).2 j2,fun q' hq'=>?_⟩
    rw [b2] at hq'
    have:=j3 q' (by rw [g1,nK];exact (wFt (z:=fun i:Nat=>(i:Int) ∈ z) h1 h2 (nR _) i q').1 hq')
    exact this
  ·by_cases c:(i:Int) ∈ z
   ·obtain ⟨q,hq,eq⟩:=nE c
    rw [<- wBm hq] at eq
    refine ⟨gd E q,kV _ (wAb (by omega)),?_⟩
    rw [(Ee q hq).1,eq,nK]
   ·rw [hτ2 i c] at hτ
    obtain ⟨o,ho,e⟩:=te.all i hi hτ
    exact ⟨o,List.mem_append_left _ ho,e⟩
  ·rw [nP,nl]
   refine ⟨te.one,?_,fun a ha b hb e=>?_⟩
   ·rw [nD,nB]
    intro a b ha hb hab e
    rw [nG] at ha hb
    rw [nI,nI,<- wBm ha,<- wBm hb,(Ee a (by omega)).1,(Ee b (by omega)).1] at e
    obtain ⟨i,g1,g2,_⟩:=hE a (by omega)
    obtain ⟨j,g3,g4,_⟩:=hE b (by omega)
    rw [g1,g3,nK,nK] at e
    have:=wIO G g2 g4 e
    have h4:=nB.1 zp a b (by omega) (by omega) hab
    rw [<- wBm (by omega),<- wBm (by omega)] at h4
    omega
   ·obtain ⟨o,ho,e1⟩:=nL.1 ha
    obtain ⟨i,hi,he,hz,_⟩:=hA o ho
    obtain ⟨o2,ho2,e2⟩:=nL.1 hb
    obtain ⟨q,hq,eq⟩:=nE ho2
    rw [<- wBm hq] at eq
    subst eq
    obtain ⟨j,g3,g4,_,g5⟩:=hE q (by omega)
    rw [(Ee q (by omega)).1,g3,nK] at e2
    have:=wIO G hi g4 (by rw [<- he.bib,e1,e,e2])
    subst this
    exact hz g5
end Go.Proofs.YtglpalgiipahjaaGreat
namespace Go.Proofs.YtglpalgiipahjaaGreat
open Go.KL
theorem wHT {zs:List Int} (h:zs.Pairwise (· <= ·)):(Go.Lib.compact zs).Pairwise (· < ·)/\(∀ x,x ∈ Go.Lib.compact zs ↔ x ∈ zs)/\(Go.Lib.compact zs).length <= zs.length:=by
 have hg:∀ i,i < zs.length->(zs.toArray[i]!)=gd zs i:=fun i hi=>by
  rw [getElem!_pos zs.toArray i (by simpa using hi),wBm hi];simp
 have le:∀ i j,i <= j->j < zs.length->gd zs i <= gd zs j:=fun i j hij hj=>by
  by_cases e:i=j
  ·subst e;exact nR _
  ·have:=nB.1 h i j (by omega) hj (by omega)
   rwa [<- wBm (by omega),<- wBm hj] at this
 have key:∀ m,m <= zs.length->(Go.Lib.compactUpTo zs.toArray m).Pairwise (· < ·)/\(∀ x,x ∈ Go.Lib.compactUpTo zs.toArray m ↔ ∃ j,j < m/\gd zs j=x)/\(Go.Lib.compactUpTo zs.toArray m).length <= m:=by
  intro m
  induction m with
  | zero=>intro _;exact ⟨by simp [Go.Lib.compactUpTo],fun x=>by simp [Go.Lib.compactUpTo],by simp [Go.Lib.compactUpTo]⟩
  | succ m ih =>
   intro hm
   obtain ⟨h1,h2,h3⟩:=ih (by omega)
   rw [Go.Lib.compactUpTo_succ]
   by_cases c:Go.Lib.keeps zs.toArray m=true
   ·rw [if_pos c,hg m (by omega)]
    refine ⟨?_,fun x=>?_,by simp;omega⟩
    ·rw [nY]
     refine ⟨h1,nW _ _,fun a ha b hb=>?_⟩
     obtain ⟨j,hj,e⟩:=(h2 a).1 ha
     have hb':=nH.1 hb
     unfold Go.Lib.keeps at c
     simp only [decide_eq_true_iff] at c
     rcases c with c | c
     ·omega
     ·rw [hg m (by omega),hg (m - 1) (by omega)] at c
      have l1:=le j (m - 1) (by omega) (by omega)
      have l2:=le (m - 1) m (by omega) (by omega)
      omega
    ·rw [nO,nH,h2]
     constructor
     ·rintro (⟨j,hj,e⟩ | e)
      ·exact ⟨j,by omega,e⟩
      ·exact ⟨m,by omega,e.symm⟩
     ·rintro ⟨j,hj,e⟩
      by_cases ej:j=m
      ·subst ej;exact .inr e.symm
      ·exact .inl ⟨j,by omega,e⟩
   ·rw [if_neg c,nu]
    refine ⟨h1,fun x=>?_,by omega⟩
    have m0:m ≠ 0/\gd zs m=gd zs (m - 1):=by
     unfold Go.Lib.keeps at c
     simp only [decide_eq_true_iff,not_or,ne_eq,Decidable.not_not] at c
     have:=c.2
     rw [hg m (by omega),hg (m - 1) (by omega)] at this
     exact ⟨c.1,this⟩
    rw [h2]
    constructor
    ·rintro ⟨j,hj,e⟩
     exact ⟨j,by omega,e⟩
    ·rintro ⟨j,hj,e⟩
     by_cases ej:j=m
     ·subst ej;exact ⟨j - 1,by omega,by rw [<- m0.2];exact e⟩
     ·exact ⟨j,by omega,e⟩
 obtain ⟨h1,h2,h3⟩:=key zs.length (kU _)
 refine ⟨h1,fun x=>?_,h3⟩
 show x ∈ Go.Lib.compactUpTo zs.toArray zs.length ↔ _
 rw [h2]
 constructor
 ·rintro ⟨j,hj,e⟩
  exact e ▸ wAb hj
 ·intro hx
  obtain ⟨j,hj,e⟩:=nE hx
  exact ⟨j,hj,by rw [wBm hj];exact e⟩
theorem wLI {T:List (List Int)} (hl:∀ l ∈ T,l.length <= 20):∀ k,(T.take k).flatten.length <= 20 * k:=by
 intro k
 induction k generalizing T with
 | zero=>simp
 | succ k ih =>
  cases T with
  | nil=>simp
  | cons a T =>
   rw [List.take_succ_cons,List.flatten_cons,nQ]
   have:=hl a (by simp)
   have:=ih (T:=T) fun l h=>hl l (by simp [h])
   omega
theorem wJO {T:List (List Int)} {k:Nat} (hk:k < T.length):(T.take (k + 1)).flatten=(T.take k).flatten ++ gd T k:=by
 rw [wDS hk,List.flatten_append];simp
theorem wOD {T:List (List Int)} (hn:T.length <= 60) (hl:∀ l ∈ T,l.length <= 20):wBK T=some T.flatten:=by
 unfold wBK
 have fl:=wLI hl
 obtain ⟨x,ex,hx⟩:=wCa (body:=fun (k7:Nat) (x6:Int) =>
  (idx T (↑k7:Int)).bind fun x29 =>
  if (w64 (x6 + (↑x29.length:Int))) < 0 then
   none
  else
   some (w64 (x6 + (↑x29.length:Int)))) (n:=T.length) (s0:=(0:Int)) (fun k x=>x=((T.take k).flatten.length:Int)) (by omega) (by simp) (fun k x hk hx=>by
  have h1:=hl _ (wAb hk)
  have h2:=fl k
  rw [wBf hk,nA,hx,wAU (by omega) (by omega),if_neg (by omega)]
  exact ⟨_,rfl,by rw [wJO hk,nQ];omega⟩)
 have h60:=fl T.length
 rw [nM] at h60 hx
 have eg:wBW [] x=some []:=by
  unfold wBW
  rw [if_neg (by omega),wAU (by omega) (by omega)]
  by_cases c:0 < x - 0
  ·rw [if_pos c,appZ,if_pos (by omega)];rfl
  ·rw [if_neg c]
 have e2:=wDB (body:=fun (k86:Nat) (l83:List Int) =>
  (idx T (↑k86:Int)).bind fun x107 =>
  (app 8 l83 x107).bind fun x122 =>
  some x122) (n:=T.length) (s0:=[]) (fun k=>(T.take k).flatten) (by simp) (by omega) (fun i hi=>by
  have h1:=hl _ (wAb hi)
  have h2:=fl i
  rw [wBf hi,nA,wCm (by omega),nA,wJO hi])
 rw [nM] at e2
 rw [ex,nA,eg,nA,e2,nA]
theorem wPa {r:wAD} (G:wGG r):∃ L,wBb r=some L/\Times r L:=by
 unfold wBb
 have hn:=G.n
 have hl:=wLI G.len r.Times.length
 rw [nM] at hl
 have ht:=G.t
 rw [wOD (by omega) G.len,nA]
 have e1:wBv r.Times.flatten=some (r.Times.flatten.mergeSort fun x y=>decide (x <= y)):=by
  unfold wBv wPE
  exact if_pos (by omega)
 rw [e1,nA]
 have hp:=nc r.Times.flatten fun x y=>decide (x <= y)
 have so:=nj (le:=fun x y:Int=>decide (x <= y)) (fun a b c h1 h2=>by simp at h1 h2 ⊢;omega) (fun a b=>by simp;omega) r.Times.flatten
 have hlen:=hp.length_eq
 generalize r.Times.flatten.mergeSort (fun x y=>decide (x <= y))=M at hp so hlen
 obtain ⟨c1,c2,c3⟩:=wHT (zs:=M) (so.imp fun h=>by simpa using h)
 have e2:wBa M=some (Go.Lib.compact M):=by
  unfold wBa wGJ
  exact if_pos (by omega)
 rw [e2,nA]
 unfold wBk
 refine ⟨_,rfl,c1,fun x=>?_,by omega⟩
 rw [c2,hp.mem_iff,List.mem_flatten]
def ltO (a b:wAE):Prop:=a.Time < b.Time \/ a.Time=b.Time/\a.Bib < b.Bib
instance (a b:wAE):Decidable (ltO a b):=by unfold ltO;exact inferInstance
theorem cmpO (a b:wAE):wAp a b=some (if a.Time < b.Time then -1 else if b.Time < a.Time then 1 else if a.Bib < b.Bib then -1 else if b.Bib < a.Bib then 1 else 0):=by
 have hc:∀ x y:Int,wAz x y=some (if x < y then -1 else if y < x then 1 else 0):=fun x y=>by
  unfold wAz wBz
  simp only [not_true_eq_false,decide_false,nA,ny,if_false]
  split
  ·rfl
  ·split <;> rfl
 have ho:∀ x y:Int,wCz [x,y]=some (if x=0 then y else x):=fun x y=>by
  unfold wCz
  rw [wDA (by simp)]
  show jn (forN _ 2 0 ()) _=_
  have i0:idx [x,y] ((0:Nat):Int)=some x:=rfl
  have i1:idx [x,y] ((0 + 1:Nat):Int)=some y:=rfl
  simp only [forN,i0,i1,nA]
  by_cases c:x=0
  ·simp only [if_pos c]
   by_cases d:y=0
   ·simp only [if_pos d,d];rfl
   ·simp only [if_neg d];rfl
  ·simp only [if_neg c];rfl
 unfold wAp
 rw [hc,nA,hc,nA,ho,nA]
 by_cases c1:a.Time < b.Time
 ·simp [c1]
 ·by_cases c2:b.Time < a.Time
  ·simp [c1,c2]
  ·simp only [c1,c2,if_false,if_true]
structure RunP (r:wAD) (D:List Int) (A:List wAE) (τ:Nat->Option Int):Prop where
 dl:D.length=r.Bibs.length
 done:∀ i,i < r.Bibs.length->(τ i=none/\gd D i=(gd r.Times i).length) \/ ∃ s,τ i=some s/\gd D i=cn (gd r.Times i) s
 ex:∀ i,i < r.Bibs.length->∀ j,j < r.Bibs.length->∀ t ∈ gd r.Times j,nbf τ i t->(τ i=some t ↔ ∃ k,lap r τ i t k)
 in_:∀ i s,i < r.Bibs.length->τ i=some s->∃ l ∈ r.Times,s ∈ l
 ents:Ents r τ A
 ord:A.Pairwise ltO
 al:A.length <= 100000
theorem wLJ {r:wAD} (G:wGG r):∃ p A τ,wCM r=some (p,A)/\RunP r p.done A τ:=by
 rw [wLy]
 have hn:=G.n
 have ht:=G.t
 rw [mkz,if_pos (by omega),nA,mkz,if_pos (by omega),nA,nA]
 simp only
 obtain ⟨L,eL,hT⟩:=wPa G
 rw [eL,nA]
 have hpos:∀ x ∈ L,0 <= x:=fun x hx=>by
  obtain ⟨l,hl,hx⟩:=(hT.all x).1 hx
  exact (G.pos l hl x hx).1
 have hll:=hT.len
 obtain ⟨⟨A,laps,bibs,times,done,out⟩,e,I⟩:=wOC (f:=rB) (L:=L) (s0:=([],r.Laps,r.Bibs,r.Times,nT (r.Bibs.length:Int).toNat 0,nT (r.Bibs.length:Int).toNat false)) (RInv r L) (by omega) ⟨rfl,rfl,rfl,by simp,by simp,by simp,fun _=>none,fun i hi=>by rw [wBm (by simpa using hi)];simp,fun i hi=>by
   rw [wBm (by simpa using hi)]
   have:cn (gd r.Times i) (-1)=0:=nw.2 fun x hx=>by
    have:=(G.pos _ (wAb (l:=r.Times) (k:=i) (by omega)) x hx).1
    simp;omega
   simp only [kH,wFs,if_true,this,List.getElem_replicate]
   rfl,⟨(fun i s _ h=>by cases h),(fun i _ t ht=>by rw [List.take_zero] at ht;cases ht)⟩,⟨(fun o ho=>by cases ho),(fun i _ h=>absurd rfl h),by simp⟩⟩ (fun k s hk I=>wPZ G hT hk I)
 rw [e,nA]
 obtain ⟨e1,e2,e3,dl,ol,al,τ,to,td,tx,te⟩:=I
 simp only at e1 e2 e3 dl ol al to td te
 rw [nM] at tx
 simp only
 have lt:∀ a b:wAE,ltB (fun x:wAE × wAE=>wAp x.1 x.2) a b=decide (ltO a b):=fun a b=>by
  unfold ltB ltO
  simp only [cmpO]
  by_cases c1:a.Time < b.Time
  ·simp [c1]
  ·by_cases c2:b.Time < a.Time
   ·simp [c1,c2];omega
   ·have c3:a.Time=b.Time:=by omega
    by_cases c4:a.Bib < b.Bib
    ·simp [c3,c4]
    ·by_cases c5:b.Bib < a.Bib <;> simp [c3,c4,c5]
 have one:∀ x ∈ A,∀ y ∈ A,x.Bib=y.Bib->x=y:=fun x hx y hy e=>by
  obtain ⟨i,hi,ei⟩:=nE hx
  obtain ⟨j,hj,ej⟩:=nE hy
  have pw:=nB.1 (nD.1 te.one)
  rcases kC i j with c | c | c
  ·have:=pw i j (by simpa using hi) (by simpa using hj) c
   rw [nI,nI,ei,ej] at this
   exact absurd e this
  ·subst c;rw [<- ei,<- ej]
  ·have:=pw j i (by simpa using hj) (by simpa using hi) c
   rw [nI,nI,ei,ej] at this
   exact absurd e.symm this
 have C:Cmp (fun x:wAE × wAE=>wAp x.1 x.2) A:=by
  refine ⟨by omega,fun x _ y _=>by show (wAp x y).isSome=true;rw [cmpO];rfl,fun x _=>by rw [lt];simp [ltO],fun x _ y _ w _ a b=>?_,fun x _ y _ w _ a b=>?_,fun x hx y hy a b=>?_⟩
  ·rw [lt] at a b ⊢
   simp only [decide_eq_true_iff] at a b ⊢
   simp only [ltO] at a b ⊢
   omega
  ·rw [lt] at a b ⊢
   simp only [decide_eq_false_iff_not] at a b ⊢
   simp only [ltO] at a b ⊢
   omega
  ·rw [lt] at a b
   simp only [decide_eq_false_iff_not] at a b
   simp only [ltO] at a b
   exact one x hx y hy (by omega)
 unfold wAd
 rw [wKn C,nA]
 have hp:=nc A fun x y=>!ltB (fun x:wAE × wAE=>wAp x.1 x.2) y x
 have so:=nj (le:=fun x y:wAE=>!ltB (fun x:wAE × wAE=>wAp x.1 x.2) y x) (fun a b c h1 h2=>by
   rw [lt] at h1 h2 ⊢
   simp only [kD,decide_eq_false_iff_not] at h1 h2 ⊢
   simp only [ltO] at h1 h2 ⊢
   omega) (fun a b=>by
   rw [lt,lt]
   simp only [Bool.or_eq_true,kD,decide_eq_false_iff_not]
   simp only [ltO]
   omega) A
 generalize A.mergeSort (fun x y=>!ltB (fun x:wAE × wAE=>wAp x.1 x.2) y x)=A' at hp so
 refine ⟨_,A',τ,rfl,dl,fun i hi=>?_,fun i hi j hj t htj=>tx.iff i hi t ((hT.all t).2 ⟨_,wAb (by omega),htj⟩),fun i s hi hs=>(hT.all s).1 (tx.in_ i s hi hs),⟨fun o ho=>te.of o (hp.mem_iff.1 ho),fun i hi h=>?_,(hp.map _).nodup_iff.2 te.one⟩,?_,by have:=hp.length_eq;omega⟩
 ·have hd:=td i hi
  cases hτ:τ i with
  | some s =>
   right
   refine ⟨s,rfl,?_⟩
   rw [hd,hτ];rfl
  | none =>
   left
   refine ⟨rfl,?_⟩
   show gd done i=_
   rw [hd,hτ]
   have:cn (gd r.Times i) (wFs L L.length)=(gd r.Times i).length:=by
    refine List.countP_eq_length.2 fun x hx=>?_
    have hxl:x ∈ L:=(hT.all x).2 ⟨_,wAb (by omega),hx⟩
    obtain ⟨q,hq,eq⟩:=nE hxl
    rw [<- wBm hq] at eq
    unfold wFs
    rw [if_neg (by omega),<- eq]
    by_cases c:q=L.length - 1
    ·subst c;simp
    ·have:=nB.1 hT.inc q (L.length - 1) hq (by omega) (by omega)
     rw [<- wBm hq,<- wBm (by omega)] at this
     simp;omega
   rw [kH,this]
 ·obtain ⟨o,ho,e⟩:=te.all i hi h
  exact ⟨o,hp.mem_iff.2 ho,e⟩
 ·have nd:=(hp.map (·.Bib)).nodup_iff.2 te.one
  refine (so.and (nX.1 (nD.1 nd))).imp fun {a b} h=>?_
  obtain ⟨h1,h2⟩:=h
  rw [lt] at h1
  simp only [kD,decide_eq_false_iff_not] at h1 ⊢
  simp only [ltO] at h1 ⊢
  omega
end Go.Proofs.YtglpalgiipahjaaGreat
namespace Go.Proofs.YtglpalgiipahjaaGreat
open Go.KL
theorem wPb (x a b:Int):wBY x a b=some (decide (a <= x) && decide (x <= b)):=by
 unfold wBY
 by_cases h:a <= x <;> simp [h]
theorem wIP {K V:Type} [DecidableEq K] {m:List (K × V)} {x y:K} {v:V}:wGI (mput m x v) y=if y=x then some v else wGI m y:=by
 induction m with
 | nil=>simp only [mput,wGI]
 | cons p m ih =>
  obtain ⟨a,u⟩:=p
  rw [mput]
  by_cases h:x=a
  ·subst h
   rw [if_pos rfl,wGI,wGI]
   split <;> rfl
  ·rw [if_neg h,wGI,wGI,ih]
   by_cases h2:y=a
   ·rw [if_pos h2,if_neg (fun e:y=x=>h (e.symm.trans h2)),if_pos h2]
   ·rw [if_neg h2,if_neg h2]
theorem wLK {l:List Int} (hl:l.length <= 1000):wBj l=some (!decide l.Nodup):=by
 unfold wBj
 rw [wDA (by omega)]
 have key:∀ (m k:Nat) (t:List (Int × Bool)),k + m=l.length->(∀ n,wCb t n false=decide (n ∈ l.take k))->(l.take k).Nodup ->
   jn (forN (fun k20 l17 =>
  (idx l (↑k20:Int)).bind fun x41 =>
  if (wCb l17 x41 false)=true then
   esc (some true)
  else
   some (.inl (mput l17 x41 true))) m k t) (fun _=>some false)=some (!decide l.Nodup):=by
  intro m
  induction m with
  | zero =>
   intro k t hk _ hn
   rw [List.take_of_length_le (by omega)] at hn
   simp [forN,hn]
  | succ m ih =>
   intro k t hk ht hn
   have hlt:k < l.length:=by omega
   rw [forN,wBf hlt,nA,ht]
   by_cases c:gd l k ∈ l.take k
   ·have:¬ l.Nodup:=fun h=>by
     rw [<- nt k l,wIM hlt] at h
     exact (nl.1 h).2.2 _ c _ (by simp) rfl
    simp [c,this]
   ·rw [if_neg (by simpa using c)]
    simp only
    refine ih (k + 1) _ (by omega) (fun n=>?_) ?_
    ·unfold wCb at ht ⊢
     rw [wIP,wDS hlt]
     by_cases e:n=gd l k
     ·rw [if_pos e];simp [e]
     ·rw [if_neg e,ht];simp [e]
    ·rw [wDS hlt,nl]
     exact ⟨hn,by simp,fun a ha b hb e=>by simp at hb;subst hb;subst e;exact c ha⟩
 exact key l.length 0 [] (by omega) (fun n=>by simp [wCb,wGI]) (by simp)
theorem wHH {S:Type} {body:Nat->S->Option S} {n:Nat} {s0:S} (I:Nat->S->Prop) (hn:n <= 1000) (h0:I 0 s0) (h:∀ i s,i < n->I i s->∃ s',body i s=some s'/\I (i + 1) s'):∃ s,wBL 0 (n:Int) body s0=some s/\I n s:=by
 rw [wDH (by omega)]
 have:=wDm (body:=body) I n 0 s0 h0 fun i s _ h2 h3=>h i s (by omega) h3
 rwa [nV] at this
theorem wJP {α:Type} [Inhabited α] {l:List α} {a:α} (h:a ∈ l):∃ i,i < l.length/\gd l i=a:=by
 obtain ⟨i,hi,e⟩:=nE h
 exact ⟨i,hi,by rw [wBm hi,e]⟩
theorem wLz (a b:Int):wAz a b=some (if a < b then -1 else if b < a then 1 else 0):=by
 unfold wAz wBz
 simp only [not_true_eq_false,decide_false,nA,ny,if_false]
 split
 ·rfl
 ·split <;> rfl
end Go.Proofs.YtglpalgiipahjaaGreat
namespace Go.Proofs.YtglpalgiipahjaaGreat
open Go.KL
theorem wPc {l:List Int} (hl:l.length <= 1000) (hd:l.Nodup):wBj l=some false:=by
 unfold wBj
 rw [wDA (by omega)]
 have key:∀ (m k:Nat) (t:List (Int × Bool)),k + m=l.length->(∀ n,wCb t n false=decide (n ∈ l.take k)) ->
   jn (forN (fun k20 l17 =>
  (idx l (↑k20:Int)).bind fun x41 =>
  if (wCb l17 x41 false)=true then
   esc (some true)
  else
   some (.inl (mput l17 x41 true))) m k t) (fun _=>some false)=some false:=by
  intro m
  induction m with
  | zero=>intro k t _ _;rfl
  | succ m ih =>
   intro k t hk ht
   have hlt:k < l.length:=by omega
   have c:gd l k ∉ l.take k:=fun c=>by
    rw [<- nt k l,wIM hlt] at hd
    exact (nl.1 hd).2.2 _ c _ (by simp) rfl
   rw [forN,wBf hlt,nA,ht,if_neg (by simpa using c)]
   simp only
   refine ih (k + 1) _ (by omega) fun n=>?_
   unfold wCb at ht ⊢
   rw [wIP,wDS hlt]
   by_cases e:n=gd l k
   ·rw [if_pos e];simp [e]
   ·rw [if_neg e,ht];simp [e]
 exact key l.length 0 [] (by omega) (fun n=>by simp [wCb,wGI])
theorem wDz {n lo hi:Int} (h1:lo <= n) (h2:n <= hi):wBY n lo hi=some true:=by
 unfold wBY
 rw [if_pos h1]
 simp [h2]
theorem wLL {l:List (List Int)} {f:List Int->Option Bool} (hn:l.length <= 1000) (h:∀ a ∈ l,f a=some true):wBP l f=some true:=by
 unfold wBP
 rw [wHG (by omega) fun k hk=>?_]
 ·rfl
 ·rw [wBf hk,nA,h _ (wAb hk)]
  rfl
theorem wLM {l:List Int} {f:Int->Option Bool} (hn:l.length <= 1000) (h:∀ a ∈ l,f a=some true):wAu l f=some true:=by
 unfold wAu
 rw [wHG (by omega) fun k hk=>?_]
 ·rfl
 ·rw [wBf hk,nA,h _ (wAb hk)]
  rfl
structure wHU (r:wAD):Prop where
 g:wGG r
 laps:1 <= r.Laps/\r.Laps <= 20
 le:∀ l ∈ r.Times,(l.length:Int) <= r.Laps
 bib:∀ b ∈ r.Bibs,1 <= b/\b <= 999
theorem wOE {r:wAD} (G:wHU r):wBo r=some 0:=by
  unfold wBo
  have h1:=G.laps;have h2:=G.g.n;have h3:=G.g.t
  rw [wDz h1.1 h1.2,nA,if_pos rfl,if_neg (by omega),if_pos (by omega),wLL (by omega) fun X hX=>?_,nA,if_pos rfl,wLM (by omega) fun b hb=>?_,nA,if_pos rfl,wLL (by omega) fun X hX=>?_,nA,if_pos rfl,wPc (by omega) G.g.one,nA,if_neg (by decide),wHG (by omega) fun k hk=>?_]
  · rfl
  · have hXm:=wAb hk
    rw [wBf hk,nA]
    have hl:=G.g.len _ hXm
    have hpw:=G.g.inc _ hXm
    generalize gd r.Times k=X at hl hpw
    have hle:((X.length:Int) - 1).toNat <= 9223372036854775807:=by omega
    have key:wGW 1 (X.length:Int) (fun k132 (_:Unit) =>
                    (idx X (1 + ↑k132:Int)).bind fun x155 =>
                    (idx X (w64 ((1 + ↑k132:Int) - 1))).bind fun x163 =>
                    if x155 <= x163 then
                      esc (esc (some 4))
                    else
                      (some (.inl ()):Option (Unit ⊕ (Unit ⊕ Int)))) ()=some (.inl ()):=by
      unfold wGW
      rw [if_pos (by omega)]
      have:=wIL (S:=Unit) (B:=Unit ⊕ Int) (body:=fun k132 (_:Unit) =>
                    (idx X (1 + ↑k132:Int)).bind fun x155 =>
                    (idx X (w64 ((1 + ↑k132:Int) - 1))).bind fun x163 =>
                    if x155 <= x163 then
                      esc (esc (some 4))
                    else
                      some (.inl ())) (fun _=>()) ((X.length:Int) - 1).toNat 0 fun j _ hj=>by
        have e1:(1 + (j:Int))=((j + 1:Nat):Int):=by omega
        rw [wAU (by omega) (by omega),e1,show ((j + 1:Nat):Int) - 1=(j:Int) by omega,wBf (by omega),nA,wBf (by omega),nA,if_neg]
        have:=nB.1 hpw j (j + 1) (by omega) (by omega) (by omega)
        have a1:=wBM (xs:=X) (k:=j) (by omega)
        have a2:=wBM (xs:=X) (k:=j + 1) (by omega)
        rw [ng (by omega)] at a1 a2
        rw [<- nS a1,<- nS a2]
        omega
      exact this
    rw [key]
    rfl
  · have:=G.g.len X hX
    have hr:=G.g.pos X hX
    unfold wBR
    rw [wLM (by omega) fun a ha=>?_]
    · rfl
    · unfold wBE
      have:=hr a ha
      rw [wDz (by omega) (by omega)]
      rfl
  · have:=G.bib b hb
    unfold wBQ
    rw [wDz this.1 this.2]
    rfl
  · have:=G.le X hX
    unfold wBO
    simp only [Option.some.injEq,decide_eq_true_eq]
    exact this
theorem wJQ {r:wAD} (G:wHU r) {p:wAF} {A:List wAE} (h:wCM r=some (p,A)):wBG r=some (A,0):=by
 unfold wBG
 rw [wOE G,nA,if_pos rfl,h];rfl
theorem wHm {r:wAD} (G:wHU r) {p:wAF} {A:List wAE} (h:wCM r=some (p,A)):wBD r=some (p.done,0):=by
 unfold wBD
 rw [wOE G,nA,if_pos rfl,h];rfl
end Go.Proofs.YtglpalgiipahjaaGreat
namespace Go.Proofs.YtglpalgiipahjaaGreat
open Go.KL
theorem wOF {a b:Int} (h0:0 <= a) (hb:0 < b):∃ x,rem a b=some x/\0 <= x/\x < b:=by
 refine ⟨a.tmod b,if_neg (by omega),?_,?_⟩
 ·rw [nZ h0];exact Int.emod_nonneg _ (by omega)
 ·rw [nZ h0];exact Int.emod_lt_of_pos _ hb
theorem wKS (x:Int):0 <= wEG x:=by unfold wEG;omega
theorem wRf (x:Int):wEG x < 4294967296:=by unfold wEG;omega
theorem w64u (x:Int):w64 (wEG x)=wEG x:=by
 have:=wKS x
 have:=wRf x
 exact wAU (by omega) (by omega)
theorem wPd (a:Int) {b:Int} (hb:b ≠ 0):∃ x,quo a b=some x:=⟨_,if_neg hb⟩
theorem wIQ (d:wAC) (n:Int) (h0:0 <= d.next) (h1:d.next <= 1000000):∃ x d',wAL d n=some (x,d')/\0 <= d'.next/\d'.next <= d.next + 1/\0 <= x/\(x < n \/ (n <= 1/\x=0)):=by
 unfold wAL
 by_cases hn:n <= 1
 ·exact ⟨0,d,by rw [if_pos hn],h0,by omega,by omega,.inr ⟨hn,rfl⟩⟩
 rw [if_neg hn]
 by_cases hl:(d.bytes.length:Int)=0
 ·exact ⟨0,d,by rw [if_pos hl],h0,by omega,by omega,.inl (by omega)⟩
 rw [if_neg hl]
 obtain ⟨r,e1,r0,r1⟩:=wOF h0 (show (0:Int) < d.bytes.length by omega)
 obtain ⟨b,e2⟩:∃ b,idx d.bytes r=some b:=by
  unfold idx
  rw [if_pos r0,ng (by omega)]
  exact ⟨_,rfl⟩
 obtain ⟨q,e3⟩:=wPd d.next (b:=d.bytes.length) hl
 obtain ⟨st,e4,_,_⟩:=wOF (wKS ((wEG ((wEG ((wEG (d.state * 45)) + (wEG b))) + (wEG (77 * (wEG q))))) + 1)) (b:=65519) (by decide)
 rw [e1,nA,e2,nA,e3,nA,e4,nA,wAU (x:=d.next + 1) (by omega) (by omega)]
 have fin:∀ z:Int,∃ x d',((rem (w64 (wEG z)) n).bind fun x=>some (x,(⟨d.bytes,d.next + 1,st⟩:wAC)))=some (x,d')/\0 <= d'.next/\d'.next <= d.next + 1/\0 <= x/\(x < n \/ (n <= 1/\x=0)):=by
  intro z
  obtain ⟨x,e5,x0,x1⟩:=wOF (a:=w64 (wEG z)) (b:=n) (by rw [w64u];exact wKS z) (by omega)
  exact ⟨x,_,by rw [e5];rfl,by show 0 <= d.next + 1;omega,by show d.next + 1 <= _;omega,x0,.inl x1⟩
 by_cases c1:wEG q=0
 ·rw [if_pos c1]
  by_cases c2:n <= 256
  ·rw [if_pos c2];exact fin _
  ·rw [if_neg c2];exact fin _
 ·rw [if_neg c1];exact fin _
theorem wHI (d:wAC) (a b:Int) (h0:0 <= d.next) (h1:d.next <= 1000000) (ha:-1000000 <= a) (hab:a <= b) (hb:b <= 1000000):∃ x d',wAG d a b=some (x,d')/\0 <= d'.next/\d'.next <= d.next + 1/\a <= x/\x <= b:=by
 unfold wAG
 rw [wAU (x:=b - a) (by omega) (by omega),wAU (x:=b - a + 1) (by omega) (by omega)]
 obtain ⟨x,d',e,n0,n1,x0,x1⟩:=wIQ d (b - a + 1) h0 h1
 refine ⟨a + x,d',?_,n0,n1,by omega,by omega⟩
 rw [e,nA]
 simp only
 rw [wAU (by omega) (by omega)]
end Go.Proofs.YtglpalgiipahjaaGreat
namespace Go.Proofs.YtglpalgiipahjaaGreat
open Go.KL
def wHJ (d:wAC) (n:Int):Prop:=0 <= d.next/\d.next <= n
theorem wLN {d:wAC} {N:Int} (h:wHJ d N) (hN:N <= 1000000) (n:Int):∃ x d',wAL d n=some (x,d')/\wHJ d' (N + 1)/\0 <= x/\(x < n \/ (n <= 1/\x=0)):=by
 obtain ⟨x,d',e,a,b,c⟩:=wIQ d n h.1 (by have:=h.2;omega)
 exact ⟨x,d',e,⟨a,by have:=h.2;omega⟩,c⟩
theorem wLO {d:wAC} {N:Int} (h:wHJ d N) (hN:N <= 1000000) {a b:Int} (ha:-1000000 <= a) (hab:a <= b) (hb:b <= 1000000):∃ x d',wAG d a b=some (x,d')/\wHJ d' (N + 1)/\a <= x/\x <= b:=by
 obtain ⟨x,d',e,c,c2,c3⟩:=wHI d a b h.1 (by have:=h.2;omega) ha hab hb
 exact ⟨x,d',e,⟨c,by have:=h.2;omega⟩,c3⟩
abbrev IS:=(List Int) × Int × Int × Int × (List Int)
abbrev OS:=(List Int) × Int × Int × (List Int) × (List (List Int))
def rcI (x131:Int) (_:Nat):IS->Option IS
 | (l250,x253,x254,x255,l256) =>
   (wAL (⟨l250,x253,x254⟩:wAC) 9).bind fun (x295,x296) =>
   (app 8 l256 [w64 (x255 + (w64 (x131 + x295)))]).bind fun x314 =>
   some (x296.bytes,x296.next,x296.state,w64 (x255 + (w64 (x131 + x295))),x314)
def rcB (x6:Int) (k99:Nat):OS->Option OS
 | (l85,x88,x89,l90,l94) =>
  (wAG (⟨l85,x88,x89⟩:wAC) 20 75).bind fun (x131,x132) =>
  (wAL x132 60).bind fun (x145,x146) =>
  (wAL x146 (w64 (x6 + 1))).bind fun (x191,x192) =>
  (wAL x192 2).bind fun (x205,x206) =>
  (wBL 0 (w64 (x6 - (w64 (x191 * x205)))) (rcI x131) (x206.bytes,x206.next,x206.state,x145,[])).bind fun (y265,y266,y267,y268,y269) =>
  (wAG (⟨y265,y266,y267⟩:wAC) 1 7).bind fun (x426,x427) =>
  (app 8 l90 [w64 ((w64 (7 * (↑k99:Int))) + x426)]).bind fun x445 =>
  (app 24 l94 [y269]).bind fun x464 =>
  some (x427.bytes,x427.next,x427.state,x445,x464)
theorem wJR (p0:wAC) (p1:Int):wBh p0 p1=(wAG p0 1 7).bind fun (x6,x7) =>
 (wAG x7 1 p1).bind fun (x28,x29) =>
 (wBL 0 x28 (rcB x6) (x29.bytes,x29.next,x29.state,[],[])).bind fun (y104,y105,y106,y107,y108) =>
 some ((⟨x6,y107,y108⟩:wAD),(⟨y104,y105,y106⟩:wAC)):=rfl
structure II (x131:Int) (N:Int) (j:Nat) (s:IS):Prop where
 d:wHJ ⟨s.1,s.2.1,s.2.2.1⟩ (N + j)
 x:0 <= s.2.2.2.1/\s.2.2.2.1 <= 59 + 83 * (j:Int)
 n:s.2.2.2.2.length=j
 i:s.2.2.2.2.Pairwise (· < ·)
 b:∀ y ∈ s.2.2.2.2,0 <= y/\y <= s.2.2.2.1
theorem wPe {x131:Int} (h1:20 <= x131) (h2:x131 <= 75) {N:Int} (hN:N <= 1000) {j:Nat} {s:IS} (hj:j <= 10) (I:II x131 N j s):∃ s',rcI x131 j s=some s'/\II x131 N (j + 1) s':=by
 obtain ⟨l,x,y,z,m⟩:=s
 obtain ⟨hd,hx,hn,hi,hb⟩:=I
 simp only at hd hx hn hi hb
 unfold rcI
 simp only
 obtain ⟨v,d',e,k,v0,v1⟩:=wLN hd (by omega) 9
 rw [e,nA]
 simp only
 rw [wAU (x:=x131 + v) (by omega) (by omega),wAU (by omega) (by omega),wCm (by simp only [nr,nv];omega),nA]
 refine ⟨_,rfl,⟨k.1,by have:=k.2;simp only;omega⟩,by simp only;omega,by simp;omega,?_,?_⟩
 ·simp only
  rw [nY]
  exact ⟨hi,nW _ _,fun a ha b hb'=>by rw [nH.1 hb'];have:=hb a ha;omega⟩
 ·intro u hu
  simp only at hu ⊢
  rcases nO.1 hu with hu | hu
  ·have:=hb u hu;omega
  ·rw [nH.1 hu];omega
structure OI (M:Int) (laps:Int) (k:Nat) (s:OS):Prop where
 d:wHJ ⟨s.1,s.2.1,s.2.2.1⟩ (M + 2 + 12 * (k:Int))
 bn:s.2.2.2.1.length=k
 tn:s.2.2.2.2.length=k
 bi:s.2.2.2.1.Pairwise (· < ·)
 bb:∀ b ∈ s.2.2.2.1,1 <= b/\b <= 7 * (k:Int)
 tt:∀ l ∈ s.2.2.2.2,(l.length:Int) <= laps/\l.Pairwise (· < ·)/\∀ x ∈ l,0 <= x/\x <= 1000
theorem wPf {M:Int} (m0:0 <= M) (m1:M <= 800) {laps:Int} (h1:1 <= laps) (h2:laps <= 7) {k:Nat} {s:OS} (hk:k < 12) (I:OI M laps k s):∃ s',rcB laps k s=some s'/\OI M laps (k + 1) s':=by
 obtain ⟨l,x,y,B,T⟩:=s
 obtain ⟨hd,hbn,htn,hbi,hbb,htt⟩:=I
 simp only at hd hbn htn hbi hbb htt
 unfold rcB
 simp only
 obtain ⟨v1,d1,e1,k1,a1,b1⟩:=wLO hd (by omega) (a:=20) (b:=75) (by omega) (by omega) (by omega)
 rw [e1,nA]
 simp only
 obtain ⟨v2,d2,e2,k2,a2,b2⟩:=wLN k1 (by omega) 60
 rw [e2,nA]
 simp only
 rw [wAU (x:=laps + 1) (by omega) (by omega)]
 obtain ⟨v3,d3,e3,k3,a3,b3⟩:=wLN k2 (by omega) (laps + 1)
 rw [e3,nA]
 simp only
 obtain ⟨v4,d4,e4,k4,a4,b4⟩:=wLN k3 (by omega) 2
 rw [e4,nA]
 simp only
 have hm:0 <= v3 * v4/\v3 * v4 <= laps:=by
  have:v4=0 \/ v4=1:=by omega
  rcases this with c | c
  ·subst c;rw [Int.mul_zero];omega
  ·subst c;rw [Int.mul_one];omega
 rw [wAU (x:=v3 * v4) (by omega) (by omega),wAU (by omega) (by omega)]
 generalize v3 * v4=P at hm
 obtain ⟨m,hmm⟩:∃ m:Nat,laps - P=m:=⟨(laps - P).toNat,by omega⟩
 rw [hmm]
 obtain ⟨⟨l',x',y',z',M⟩,e5,I5⟩:=wCa (body:=rcI v1) (n:=m) (s0:=(d4.bytes,d4.next,d4.state,v2,[])) (II v1 (M + 2 + 12 * (k:Int) + 1 + 1 + 1 + 1)) (by omega) ⟨⟨k4.1,by have:=k4.2;simp only;omega⟩,by simp only;omega,rfl,kB,(fun y hy=>by cases hy)⟩ (fun i s hi I=>wPe a1 b1 (by omega) (by omega) I)
 rw [e5,nA]
 obtain ⟨hd5,hx5,hn5,hi5,hb5⟩:=I5
 simp only at hd5 hx5 hn5 hi5 hb5
 simp only
 obtain ⟨v6,d6,e6,k6,a6,b6⟩:=wLO hd5 (by omega) (a:=1) (b:=7) (by omega) (by omega) (by omega)
 rw [e6,nA]
 simp only
 rw [wAU (x:=7 * (k:Int)) (by omega) (by omega),wAU (by omega) (by omega),wCm (by simp only [nr,nv];omega),nA,wCm (by simp only [nr,nv];omega),nA]
 refine ⟨_,rfl,⟨k6.1,by have:=k6.2;simp only;omega⟩,by simp;omega,by simp;omega,?_,?_,?_⟩
 ·simp only
  rw [nY]
  exact ⟨hbi,nW _ _,fun a ha b hb'=>by rw [nH.1 hb'];have:=hbb a ha;omega⟩
 ·intro u hu
  simp only at hu ⊢
  rcases nO.1 hu with hu | hu
  ·have:=hbb u hu;omega
  ·rw [nH.1 hu];omega
 ·intro u hu
  simp only at hu
  rcases nO.1 hu with hu | hu
  ·exact htt u hu
  ·rw [nH.1 hu]
   exact ⟨by omega,hi5,fun x hx=>by have:=hb5 x hx;omega⟩
theorem wOG {d:wAC} {M:Int} (m0:0 <= M) (m1:M <= 800) (h:wHJ d M) {u:Int} (u1:1 <= u) (u2:u <= 12):∃ r d',wBh d u=some (r,d')/\wHU r/\∀ l ∈ r.Times,∀ x ∈ l,x <= 1000:=by
 rw [wJR]
 obtain ⟨laps,d1,e1,k1,l1,l2⟩:=wLO h (by omega) (a:=1) (b:=7) (by omega) (by omega) (by omega)
 rw [e1,nA]
 simp only
 obtain ⟨nn,d2,e2,k2,n1,n2⟩:=wLO k1 (by omega) (a:=1) (b:=u) (by omega) (by omega) (by omega)
 rw [e2,nA]
 simp only
 obtain ⟨n,rfl⟩:∃ n:Nat,nn=n:=⟨nn.toNat,by omega⟩
 obtain ⟨⟨l,x,y,B,T⟩,e,I⟩:=wCa (body:=rcB laps) (n:=n) (s0:=(d2.bytes,d2.next,d2.state,[],[])) (OI M laps) (by omega) ⟨⟨k2.1,by have:=k2.2;simp only;omega⟩,rfl,rfl,kB,(fun y hy=>by cases hy),(fun y hy=>by cases hy)⟩ (fun i s hi I=>wPf m0 m1 l1 l2 (by omega) I)
 rw [e,nA]
 obtain ⟨hd,hbn,htn,hbi,hbb,htt⟩:=I
 simp only at hd hbn htn hbi hbb htt
 refine ⟨_,_,rfl,⟨⟨by simp only;omega,by simp only;omega,fun l hl=>by have:=(htt l hl).1;omega,fun l hl=>(htt l hl).2.1,fun l hl x hx=>by have:=(htt l hl).2.2 x hx;omega,?_⟩,by simp only;omega,fun l hl=>(htt l hl).1,fun b hb=>by have:=hbb b hb;omega⟩,fun l hl x hx=>((htt l hl).2.2 x hx).2⟩
 exact hbi.imp fun h=>by omega
end Go.Proofs.YtglpalgiipahjaaGreat
namespace Go.Proofs.YtglpalgiipahjaaGreat
open Go.KL
structure wEZ (r:wAD) (A:List wAE) (τ:Nat->Option Int):Prop where
 ex:∀ i,i < r.Bibs.length->∀ j,j < r.Bibs.length->∀ t ∈ gd r.Times j,nbf τ i t->(τ i=some t ↔ ∃ k,lap r τ i t k)
 in_:∀ i s,i < r.Bibs.length->τ i=some s->∃ l ∈ r.Times,s ∈ l
 ents:Ents r τ A
 ord:A.Pairwise ltO
theorem RunP.found {r:wAD} {D:List Int} {A:List wAE} {τ:Nat->Option Int} (h:RunP r D A τ):wEZ r A τ:=⟨h.ex,h.in_,h.ents,h.ord⟩
theorem wPg {τ τ':Nat->Option Int} {m:Nat} {j:Nat} (hp:∀ s,τ' j=some s->0 <= s) (ih:∀ k:Nat,k < m->τ' j=some (k:Int)->τ j=some (k:Int)) (h:nbf τ j m):nbf τ' j m:=fun s hs=>by
 rcases Int.lt_or_le s m with c | c
 ·have h0:=hp s hs
  obtain ⟨k,rfl⟩:∃ k:Nat,s=k:=⟨s.toNat,by omega⟩
  exact absurd (h k (ih k (by omega) hs)) (by omega)
 ·exact c
theorem wPh {r:wAD} (G:wGG r) {A A':List wAE} {τ τ':Nat->Option Int} (F:wEZ r A τ) (F':wEZ r A' τ'):∀ (m:Nat) (i:Nat),i < r.Bibs.length->(τ i=some (m:Int) ↔ τ' i=some (m:Int)):=by
 have pos:∀ {A:List wAE} {τ:Nat->Option Int},wEZ r A τ->∀ i,i < r.Bibs.length->∀ s,τ i=some s->0 <= s:=fun F i hi s h=>by
  obtain ⟨l,hl,hs⟩:=F.in_ i s hi h
  exact (G.pos l hl s hs).1
 have one:∀ {A A':List wAE} {τ τ':Nat->Option Int},wEZ r A τ->wEZ r A' τ'->∀ m:Nat,(∀ k:Nat,k < m->∀ i,i < r.Bibs.length->(τ i=some (k:Int) ↔ τ' i=some (k:Int)))->∀ i,i < r.Bibs.length->τ i=some (m:Int)->τ' i=some (m:Int):=fun {A A' τ τ'} F F' m ih i hi h=>by
  have nb:∀ j,j < r.Bibs.length->nbf τ j m->nbf τ' j m:=fun j hj=>wPg (pos F' j hj) fun k hk=>(ih k hk j hj).2
  have ni:nbf τ i m:=fun s hs=>by rw [h] at hs;cases hs;exact nR _
  obtain ⟨l,hl,hs⟩:=F.in_ i m hi h
  obtain ⟨q,hq,e⟩:=nE hl
  have hq':q < r.Bibs.length:=by have:=G.t;omega
  have hs':(m:Int) ∈ gd r.Times q:=by rw [wBm hq,e];exact hs
  obtain ⟨k,h1,h2,h3,h4⟩:=(F.ex i hi q hq' m hs' ni).1 h
  exact (F'.ex i hi q hq' m hs' (nb i hi ni)).2 ⟨k,h1,nb k h1 h2,h3,h4⟩
 intro m
 induction m using Nat.strongRecOn with
 | ind m ih =>
  intro i hi
  exact ⟨one F F' m (fun k hk=>ih k hk) i hi,one F' F m (fun k hk j hj=>(ih k hk j hj).symm) i hi⟩
theorem wFd {r:wAD} (G:wGG r) {A A':List wAE} {τ τ':Nat->Option Int} (F:wEZ r A τ) (F':wEZ r A' τ') {i:Nat} (hi:i < r.Bibs.length):τ i=τ' i:=by
 have key:=wPh G F F'
 have pos:∀ {A:List wAE} {τ:Nat->Option Int},wEZ r A τ->∀ s,τ i=some s->∃ m:Nat,s=m:=fun F s h=>by
  obtain ⟨l,hl,hs⟩:=F.in_ i s hi h
  have:=(G.pos l hl s hs).1
  exact ⟨s.toNat,by omega⟩
 cases c:τ i with
 | some s =>
  obtain ⟨m,rfl⟩:=pos F s c
  exact ((key m i hi).1 c).symm
 | none =>
  cases d:τ' i with
  | none=>rfl
  | some s =>
   obtain ⟨m,rfl⟩:=pos F' s d
   rw [(key m i hi).2 d] at c
   cases c
theorem wJS {r:wAD} (G:wGG r) {A A':List wAE} {τ τ':Nat->Option Int} (F:wEZ r A τ) (F':wEZ r A' τ') {o:wAE} (ho:o ∈ A):o ∈ A':=by
 obtain ⟨i,hi,E⟩:=F.ents.of o ho
 have ti:=wFd G F F' hi
 obtain ⟨o',ho',eb⟩:=F'.ents.all i hi (by rw [<- ti,E.time];simp)
 obtain ⟨i',hi',E'⟩:=F'.ents.of o' ho'
 have:i'=i:=wIO G hi' hi (E'.bib.symm.trans eb)
 subst this
 have et:o.Time=o'.Time:=by
  have h1:=E.time;have h2:=E'.time
  rw [ti,h2] at h1
  exact (nS h1).symm
 have lp:∀ k,lap r τ i' o.Time k ↔ lap r τ' i' o'.Time k:=fun k=>by
  unfold lap
  rw [et]
  constructor
  ·rintro ⟨h1,h2,h3⟩
   exact ⟨h1,fun s hs=>h2 s (by rw [wFd G F F' h1];exact hs),h3⟩
  ·rintro ⟨h1,h2,h3⟩
   exact ⟨h1,fun s hs=>h2 s (by rw [<- wFd G F F' h1];exact hs),h3⟩
 obtain ⟨j,e1,l1,m1⟩:=E.by_
 obtain ⟨j',e2,l2,m2⟩:=E'.by_
 have b1:=m1 j' ((lp j').2 l2)
 have b2:=m2 j ((lp j).1 l1)
 have hb:=E.bib;have hd:=E.done;have hd':=E'.done
 obtain ⟨a1,a2,a3,a4⟩:=o
 obtain ⟨c1,c2,c3,c4⟩:=o'
 simp only at hb eb hd hd' et e1 e2 ⊢
 have:(⟨a1,a2,a3,a4⟩:wAE)=⟨c1,c2,c3,c4⟩:=by
  rw [hb,eb,hd,hd',et,show a4=c4 by omega]
 rw [this];exact ho'
theorem wOH {r:wAD} (G:wGG r) {A A':List wAE} {τ τ':Nat->Option Int} (F:wEZ r A τ) (F':wEZ r A' τ'):A=A':=by
 have nd:∀ {A:List wAE},A.Pairwise ltO->A.Nodup:=fun h=>nD.2 (h.imp fun {a b} hab e=>by
  subst e
  unfold ltO at hab
  omega)
 refine kJ (le:=ltO) (fun a b _ _ h1 h2=>by unfold ltO at h1 h2;omega) F.ord F'.ord ?_
 exact (List.perm_ext_iff_of_nodup (nd F.ord) (nd F'.ord)).2 fun o=>⟨wJS G F F',wJS G F' F⟩
end Go.Proofs.YtglpalgiipahjaaGreat
namespace Go.Proofs.YtglpalgiipahjaaGreat
open Go.KL
theorem wIS {f:wAA->Option Int} {p:wAA->Int} (hf:∀ s,f s=some (p s)) (a b:Int) {l:List wAA} (hl:l.length <= 1000):wAg (⟨f,a,b⟩:wAN) l=some (l.map p):=by
 unfold wAg
 rw [wPW (bytes:=8) (f:=p) (fun s _ r=>by simp only [hf,nA,wKP]) (by omega) (by omega)]
 rfl
theorem wKV {f:wAA->Option Int} {a b:Int} {l:List Int} (hl:l.length <= 1000):wAu l (fun x=>wAf x (⟨f,a,b⟩:wAN))=some (l.all fun x=>decide (a <= x) && decide (x <= b)):=by
 unfold wAu
 rw [wPV (p:=fun x=>decide (a <= x) && decide (x <= b)) (z:=false) (fun x _=>by
  unfold wAf
  simp only [wPb,nA]
  split <;> rfl) (by omega)]
 cases l.all fun x=>decide (a <= x) && decide (x <= b) <;> rfl
structure wDT (f:List wAA):Prop where
 l1:1 <= f.length
 l2:f.length <= 60
 bib:∀ s ∈ f,1 <= s.Bib/\s.Bib <= 999
 rank:∀ s ∈ f,1 <= s.Rank/\s.Rank <= 9999
 nat:∀ s ∈ f,0 <= s.Nation/\s.Nation <= 30
 bibs:(f.map (·.Bib)).Nodup
 ranks:(f.map (·.Rank)).Nodup
def okB (s:wAA):Bool:=decide (1 <= s.Bib) && decide (s.Bib <= 999)
def okR (s:wAA):Bool:=decide (1 <= s.Rank) && decide (s.Rank <= 9999)
def okN (s:wAA):Bool:=decide (0 <= s.Nation) && decide (s.Nation <= 30)
def okF (s:wAA):Bool:=okB s && (okN s && okR s)
def errF (f:List wAA):Int:=if 1 <= f.length/\f.length <= 60 then (if f.all okF=true then (if (f.map (·.Bib)).Nodup/\(f.map (·.Rank)).Nodup then 0 else 5) else 3) else 2
theorem wON {f:List wAA}:errF f=0 ↔ wDT f:=by
 unfold errF
 constructor
 ·intro h
  by_cases h1:1 <= f.length/\f.length <= 60
  ·rw [if_pos h1] at h
   by_cases h2:f.all okF=true
   ·rw [if_pos h2] at h
    by_cases h3:(f.map (·.Bib)).Nodup/\(f.map (·.Rank)).Nodup
    ·have:=fun s hs=>kK.1 h2 s hs
     simp only [okF,okB,okN,okR,kL,decide_eq_true_iff] at this
     exact ⟨h1.1,h1.2,fun s hs=>(this s hs).1,fun s hs=>(this s hs).2.2,fun s hs=>(this s hs).2.1,h3.1,h3.2⟩
    ·rw [if_neg h3] at h;omega
   ·rw [if_neg h2] at h;omega
  ·rw [if_neg h1] at h;omega
 ·intro G
  rw [if_pos ⟨G.l1,G.l2⟩,if_pos (kK.2 fun s hs=>by
   have h1:=G.bib s hs
   have h2:=G.nat s hs
   have h3:=G.rank s hs
   simp only [okF,okB,okN,okR,kL,decide_eq_true_iff]
   exact ⟨h1,h2,h3⟩),if_pos ⟨G.bibs,G.ranks⟩]
theorem wPk {f:List wAA} (hl:f.length <= 1000):wBt f=some (errF f):=by
 unfold wBt errF
 rw [wPb,nA]
 by_cases h1:1 <= f.length/\f.length <= 60
 case neg=>rw [if_neg h1,if_neg (by simp;omega)]
 rw [if_pos h1,if_pos (by simp;omega)]
 unfold wCh
 rw [nA]
 have hall:f.all okF=(f.all okB && (f.all okN && f.all okR)):=by
  rw [Bool.eq_iff_iff]
  simp only [kL,kK,okF]
  constructor
  ·exact fun h=>⟨fun s hs=>(h s hs).1,fun s hs=>(h s hs).2.1,fun s hs=>(h s hs).2.2⟩
  ·exact fun h s hs=>⟨h.1 s hs,h.2.1 s hs,h.2.2 s hs⟩
 have mB:(f.map (·.Bib)).all (fun x=>decide (1 <= x) && decide (x <= 999))=f.all okB:=by rw [kZ];rfl
 have mR:(f.map (·.Rank)).all (fun x=>decide (1 <= x) && decide (x <= 9999))=f.all okR:=by rw [kZ];rfl
 have mN:(f.map (·.Nation)).all (fun x=>decide (0 <= x) && decide (x <= 30))=f.all okN:=by rw [kZ];rfl
 rw [wIS (f:=wAW) (p:=(·.Bib)) (fun _=>rfl) _ _ hl,nA,wKV (by simpa using hl),nA,mB]
 rw [wIS (f:=wAX) (p:=(·.Rank)) (fun _=>rfl) _ _ hl,nA,wKV (by simpa using hl),nA,mR]
 rw [wIS (f:=wAe) (p:=(·.Nation)) (fun _=>rfl) _ _ hl,nA,wKV (by simpa using hl),nA,mN]
 rw [nA,wLK (by simpa using hl),nA,nA,wLK (by simpa using hl),nA,hall]
 cases f.all okB with
 | false=>rfl
 | true =>
  cases f.all okR with
  | false=>cases f.all okN <;> rfl
  | true =>
   cases f.all okN with
   | false=>rfl
   | true =>
    simp only [if_true,Bool.true_and]
    by_cases hb:(f.map (·.Bib)).Nodup
    ·by_cases hr:(f.map (·.Rank)).Nodup
     ·simp [hb,hr]
     ·simp [hb,hr]
    ·simp [hb]
theorem wLQ {f:List wAA} (G:wDT f):wBt f=some 0:=by
 rw [wPk (by have:=G.l2;omega),wON.2 G]
def rk (f:List wAA) (i:Int):Int:=(gd f i.toNat).Rank
theorem wIT {f:List wAA} {a b:Int} (ha:0 <= a/\a < f.length) (hb:0 <= b/\b < f.length):wAj a b f=some (if rk f a < rk f b then -1 else if rk f b < rk f a then 1 else 0):=by
 unfold wAj
 have e:∀ {i:Int},0 <= i->i < f.length->idx f i=some (gd f i.toNat):=fun h1 h2=>by
  unfold idx
  rw [if_pos h1,wBM (by omega)]
 rw [e ha.1 ha.2,nA,e hb.1 hb.2,nA,wLz,wKP]
 rfl
theorem wQQ {f:List wAA} (G:wDT f) {a b:Int} (ha:0 <= a/\a < f.length) (hb:0 <= b/\b < f.length) (e:rk f a=rk f b):a=b:=by
 unfold rk at e
 have pw:=nB.1 G.ranks
 have hi:a.toNat < (f.map (·.Rank)).length:=by simp;omega
 have hj:b.toNat < (f.map (·.Rank)).length:=by simp;omega
 have e':(f.map (·.Rank))[a.toNat]=(f.map (·.Rank))[b.toNat]:=by
  rw [nI,nI,<- wBm (by omega),<- wBm (by omega)]
  exact e
 rcases Int.lt_trichotomy a b with c | c | c
 ·exact absurd e' (pw _ _ hi hj (by omega))
 ·exact c
 ·exact absurd e'.symm (pw _ _ hj hi (by omega))
def wCY (n:Nat):List Int:=(nJ n).map fun (k:Nat)=>(k:Int)
theorem wKW (n:Nat):(wCY n).Pairwise (· < ·):=by
 unfold wCY
 rw [nX]
 exact List.pairwise_lt_range.imp fun h=>by omega
theorem wCv {n:Nat}:∀ i ∈ wCY n,0 <= i/\i < n:=by
 intro i hi
 obtain ⟨k,hk,e⟩:=nL.1 hi
 have:=nU.1 hk
 omega
structure Rk (f:List wAA) (r:List Int):Prop where
 perm:r.Perm (wCY f.length)
 ord:r.Pairwise fun a b=>rk f a < rk f b
theorem wTH {f:List wAA} {r r':List Int} (h:Rk f r) (h':Rk f r'):r=r':=by
 refine kJ (le:=fun a b=>rk f a < rk f b) (fun a b _ _ h1 h2=>by omega) h.ord h'.ord (h.perm.trans h'.perm.symm)
theorem wHK {f:List wAA} (G:wDT f):∃ r,wBF f=some r/\Rk f r:=by
 unfold wBF
 have h1:=G.l1
 have h2:=G.l2
 rw [mkz,if_pos (by omega),nA]
 have e:=wDB (body:=fun (k24:Nat) (l23:List Int) =>
  (chk (↑k24:Int) l23.length).bind fun _ =>
  some (nN l23 k24 (↑k24:Int))) (n:=f.length) (s0:=nT (f.length:Int).toNat 0) (fun k=>wCY k ++ nT (f.length - k) 0) (by simp [wCY]) (by omega) (fun i hi=>by
   have hl:(wCY i ++ nT (f.length - i) (0:Int)).length=f.length:=by simp [wCY];omega
   rw [wBy (by omega) (by omega),nA]
   congr 1
   have hn:(wCY i).length=i:=by simp [wCY]
   rw [kW _ _ (by omega),hn,kc,show f.length - i=(f.length - (i + 1)) + 1 by omega,List.replicate_succ,List.set_cons_zero]
   have:wCY (i + 1)=wCY i ++ [(i:Int)]:=by unfold wCY;rw [nf,nP];rfl
   rw [this,nk]
   rfl)
 rw [e,nA]
 simp only [kc,List.replicate_zero,nu]
 have C:Cmp (fun x:Int × Int=>wAj x.1 x.2 f) (wCY f.length):=by
  have lt:∀ x ∈ wCY f.length,∀ y ∈ wCY f.length,ltB (fun x:Int × Int=>wAj x.1 x.2 f) x y=decide (rk f x < rk f y):=fun x hx y hy=>by
   unfold ltB
   simp only
   rw [wIT (wCv x hx) (wCv y hy)]
   by_cases c:rk f x < rk f y
   ·simp [c]
   ·by_cases c2:rk f y < rk f x <;> simp [c,c2]
  refine ⟨by simp [wCY];omega,fun x hx y hy=>by simp only;rw [wIT (wCv x hx) (wCv y hy)];rfl,fun x hx=>by rw [lt x hx x hx];simp,fun x hx y hy z hz a b=>?_,fun x hx y hy z hz a b=>?_,fun x hx y hy a b=>?_⟩
  ·rw [lt x hx y hy] at a;rw [lt y hy z hz] at b;rw [lt x hx z hz]
   simp at a b ⊢;omega
  ·rw [lt x hx y hy] at a;rw [lt y hy z hz] at b;rw [lt x hx z hz]
   simp at a b ⊢;omega
  ·rw [lt x hx y hy] at a;rw [lt y hy x hx] at b
   simp at a b
   exact wQQ G (wCv x hx) (wCv y hy) (by omega)
 unfold wBx
 rw [wKn C,nA]
 refine ⟨_,rfl,nc _ _,?_⟩
 have hp:=nc (wCY f.length) fun x y=>!ltB (fun x:Int × Int=>wAj x.1 x.2 f) y x
 have lt:∀ x ∈ wCY f.length,∀ y ∈ wCY f.length,ltB (fun x:Int × Int=>wAj x.1 x.2 f) x y=decide (rk f x < rk f y):=fun x hx y hy=>by
  unfold ltB
  simp only
  rw [wIT (wCv x hx) (wCv y hy)]
  by_cases c:rk f x < rk f y
  ·simp [c]
  ·by_cases c2:rk f y < rk f x <;> simp [c,c2]
 rw [wFL (le':=fun x y=>decide (rk f x <= rk f y)) (wCY f.length) (fun x hx y hy=>by
  rw [lt y hy x hx,<- decide_not]
  exact decide_eq_decide.2 (by omega))] at hp ⊢
 have so:=nj (le:=fun x y:Int=>decide (rk f x <= rk f y)) (fun a b c h1 h2=>by simp at h1 h2 ⊢;omega) (fun a b=>by simp;omega) (wCY f.length)
 have nd:((wCY f.length).mergeSort fun x y=>decide (rk f x <= rk f y)).Pairwise (· ≠ ·):=nD.1 (hp.nodup_iff.2 (nD.2 ((wKW _).imp fun h=>by omega)))
 refine (so.and nd).imp_of_mem fun {a b} ha hb h=>?_
 have h1:rk f a <= rk f b:=by simpa using h.1
 have h2:rk f a ≠ rk f b:=fun e=>h.2 (wQQ G (wCv a (hp.mem_iff.1 ha)) (wCv b (hp.mem_iff.1 hb)) e)
 omega
end Go.Proofs.YtglpalgiipahjaaGreat
namespace Go.Proofs.YtglpalgiipahjaaGreat
open Go.KL
def col (f:List wAA) (i:Nat):Nat:=(gd f i).Nation.toNat
def man (f:List wAA) (x:Nat):Nat:=cnt (col f) f.length x
theorem wGR {p:Nat->Nat} {x:Nat}:∀ {t:Nat},cnt p t x <= t
 | 0=>kU _
 | t + 1=>by
  have:=wGR (p:=p) (x:=x) (t:=t)
  simp only [cnt]
  split <;> omega
theorem wOO (a:Arr Int 31) {i j:Nat} (hi:i < 31) (v:Int):(a.set i v).get j=if j=i then v else a.get j:=by
 unfold Arr.set Arr.get
 simp only [kA]
 by_cases e:j=i
 ·rw [if_pos e,e,List.getElem?_set_self (by rw [a.h];exact hi)]
  rfl
 ·rw [if_neg e,List.getElem?_set_ne (Ne.symm e)]
theorem wPl {x:Nat} (hx:x < 31):(Arr.fill 31 (0:Int)).get x=0:=by
 unfold Arr.fill Arr.get
 simp only [kA]
 rw [List.getElem?_replicate,if_pos hx]
 rfl
theorem wQR {f:List wAA} (G:wDT f) {i:Nat} (hi:i < f.length):col f i < 31:=by
 have:=G.nat _ (wAb hi)
 unfold col
 omega
theorem wTI {f:List wAA} (G:wDT f) {i:Nat} (hi:i < f.length):((col f i:Nat):Int)=(gd f i).Nation:=by
 have:=G.nat _ (wAb hi)
 unfold col
 omega
theorem wMA {f:List wAA} (G:wDT f):∃ a,wBr f=some a/\∀ x,x < 31->a.get x=((man f x:Nat):Int):=by
 have h2:=G.l2
 obtain ⟨a,e,h⟩:=wHH (n:=f.length) (s0:=Arr.fill 31 0) (body:=fun (k17:Nat) (a16:Arr Int 31) =>
  (idx f (↑k17:Int)).bind fun x39 =>
  (chk x39.Nation 31).bind fun _ =>
  some (a16.set x39.Nation.toNat (w64 ((a16.get x39.Nation.toNat) + 1)))) (fun k a=>∀ x,x < 31->a.get x=((cnt (col f) k x:Nat):Int)) (by omega) (fun x hx=>by rw [wPl hx];rfl) (fun k a hk I=>by
   have hn:=G.nat _ (wAb hk)
   have hc:=wQR G hk
   rw [wBf hk,nA,wBy (by omega) (by omega),nA]
   refine ⟨_,rfl,fun x hx=>?_⟩
   rw [show (gd f k).Nation.toNat=col f k from rfl,wOO a hc]
   have hl:=wGR (p:=col f) (x:=col f k) (t:=k)
   by_cases e:x=col f k
   ·rw [if_pos e,I _ hc,wAU (by omega) (by omega),e]
    simp only [cnt,if_true]
    omega
   ·rw [if_neg e,I x hx]
    simp only [cnt,if_neg (Ne.symm e),kX])
 unfold wBr
 rw [e]
 exact ⟨a,rfl,h⟩
theorem wTJ {l:List Int} (h:1 <= l.length) (h2:l.length <= 1000):∃ M,wBg l=some M/\M ∈ l/\∀ x ∈ l,x <= M:=by
 unfold wBg
 rw [if_neg (by omega),show (0:Int)=((0:Nat):Int) from rfl,wBf (by omega),nA,wBL,if_pos (by omega)]
 obtain ⟨M,e,h⟩:=wDm (body:=fun (k17:Nat) (x16:Int) =>
   (idx l (1 + ↑k17:Int)).bind fun x37 =>
   some (max x16 x37)) (fun k M=>M ∈ l/\∀ i,i < k + 1->gd l i <= M) ((↑l.length:Int) - 1).toNat 0 (gd l 0) ⟨wAb (by omega),fun i hi=>by
    rw [show i=0 by omega];omega⟩ (fun k M _ hk ⟨i1,i2⟩=>by
    have hk':1 + k < l.length:=by omega
    refine ⟨max M (gd l (1 + k)),?_,?_,fun i hi=>?_⟩
    ·rw [show (1 + (k:Int))=((1 + k:Nat):Int) by omega,wBf hk',nA]
    ·have:=wAb hk'
     rcases Int.le_total M (gd l (1 + k)) with c | c
     ·rw [Int.max_eq_right c];exact this
     ·rw [Int.max_eq_left c];exact i1
    ·by_cases e:i=1 + k
     ·rw [e];omega
     ·have:=i2 i (by omega)
      omega)
 rw [e]
 refine ⟨M,rfl,h.1,fun x hx=>?_⟩
 obtain ⟨i,hi,ei⟩:=wJP hx
 rw [<- ei]
 exact h.2 i (by omega)
theorem wOP {S:Type} {body:Nat->S->Option S} {s0:S} (I:Nat->S->Prop) (h0:I 0 s0) (h:∀ i s,i < 31->I i s->∃ s',body i s=some s'/\I (i + 1) s'):∃ s,wBL 0 31 body s0=some s/\I 31 s:=wHH (n:=31) I (by omega) h0 h
theorem wIU {q:Nat->Bool}:∀ {C:Nat},((nJ C).filter q).length=sm (fun x=>if q x=true then 1 else 0) C
 | 0=>rfl
 | C + 1=>by
  rw [nf,ke,nQ,wIU (C:=C)]
  simp only [sm]
  by_cases e:q C=true
  ·simp [e]
  ·simp [e]
def wMK (a:Arr Int 31) (M:Int) (k:Nat):List Int:=((nJ k).filter fun x=>decide (a.get x=M)).map fun (x:Nat)=>(x:Int)
theorem wOQ (a:Arr Int 31) {k:Nat} (h:k < 31):idx a.l (k:Int)=some (a.get k):=by
 rw [wEq]
 exact a.at_ h
theorem wRi {a:Arr Int 31} {x:Int} (h:x ∈ a.l):∃ k,k < 31/\a.get k=x:=by
 obtain ⟨k,hk,e⟩:=wJP h
 have:=a.h
 exact ⟨k,by omega,e⟩
theorem wKX (a:Arr Int 31):∃ M,wAh a=some (wMK a M 31,M)/\(∃ x,x < 31/\a.get x=M)/\∀ x,x < 31->a.get x <= M:=by
 have hl:=a.h
 obtain ⟨M,e1,e2,e3⟩:=wTJ (l:=a.l) (by omega) (by omega)
 unfold wAh
 rw [e1,nA]
 obtain ⟨s,e,hs⟩:=wOP (s0:=([]:List Int)) (body:=fun (k43:Nat) (l39:List Int) =>
  (idx (a.l:List Int) (↑k43:Int)).bind fun x66 =>
  if x66=M then
   (app 8 l39 [(↑k43:Int)]).bind fun x76 =>
   some x76
  else
   some l39) (fun k l=>l=wMK a M k) rfl (fun k l hk I=>by
   subst I
   have hlen:(wMK a M k).length <= 31:=by
    unfold wMK
    rw [nG]
    have:=List.length_filter_le (fun x=>decide (a.get x=M)) (nJ k)
    rw [kh] at this
    omega
   have e:wMK a M (k + 1)=if a.get k=M then wMK a M k ++ [(k:Int)] else wMK a M k:=by
    unfold wMK
    rw [nf,ke,nP]
    by_cases e:a.get k=M
    ·simp [e]
    ·simp [e]
   rw [wOQ a hk,nA,e]
   by_cases c:a.get k=M
   ·rw [if_pos c,if_pos c,wCm (by simp;omega)]
    exact ⟨_,rfl,rfl⟩
   ·rw [if_neg c,if_neg c]
    exact ⟨_,rfl,rfl⟩)
 rw [e,nA,hs]
 refine ⟨M,rfl,wRi e2,fun x hx=>e3 _ ?_⟩
 exact List.mem_of_getElem? (a.at_ hx)
theorem wPm {a:Arr Int 31} {M:Int} {k:Nat}:(wMK a M k).length=sm (fun x=>if a.get x=M then 1 else 0) k:=by
 unfold wMK
 rw [nG,wIU]
 exact wCk fun x _=>by simp
theorem wIV {α:Type} [Inhabited α] (g:α->Nat) (l:List α) (x:Nat):cnt (fun r=>g (gd l r)) l.length x=l.countP (fun i=>decide (g i=x)):=by
 have key:∀ k,k <= l.length->cnt (fun r=>g (gd l r)) k x=(l.take k).countP (fun i=>decide (g i=x)):=by
  intro k
  induction k with
  | zero=>intro _;simp [cnt]
  | succ k ih =>
   intro hk
   rw [wDS (by omega),kf]
   simp only [cnt]
   rw [ih (by omega)]
   by_cases e:g (gd l k)=x
   ·simp [e]
   ·simp [e]
 rw [key _ (kU _),nM]
theorem wRj {n k:Nat} (h:k < n):gd (wCY n) k=(k:Int):=by
 rw [wBm (by simpa [wCY] using h)]
 simp [wCY]
theorem wTK {f:List wAA} {o:List Int} (h:o.Perm (wCY f.length)) (x:Nat):man f x=o.countP (fun i=>decide (col f i.toNat=x)):=by
 rw [h.countP_eq]
 have:=wIV (fun i:Int=>col f i.toNat) (wCY f.length) x
 rw [<- this,show (wCY f.length).length=f.length by simp [wCY]]
 exact wFe fun r hr=>by rw [wRj hr];rfl
def pn (f:List wAA) (o:List Int) (r:Nat):Nat:=col f (gd o r).toNat
theorem wFu {f:List wAA} (G:wDT f):sm (man f) 31=f.length:=wOJ fun _ hr=>wQR G hr
end Go.Proofs.YtglpalgiipahjaaGreat
namespace Go.Proofs.YtglpalgiipahjaaGreat
open Go.KL
def Elg (a:Arr Int 31) (l:List (Int × Int)) (t d:Int) (k:Nat):Prop:=0 < a.get k/\(wIg l (k:Int)=true->d <= w64 (t - wCb l (k:Int) 0))
def bRd (a:Arr Int 31) (l:List (Int × Int)) (t d:Int) (k174:Nat) (x173:Int):Option Int :=
  ((idx (a.l:List Int) (↑k174:Int)).bind fun x207 =>
          if 0 < x207 then
            if (wIg l (↑k174:Int))=true then
              if d <= (w64 (t - (wCb l (↑k174:Int) 0))) then
                if x173 < 0 then
                  some (↑k174:Int)
                else
                  (chk x173 31).bind fun _ =>
                  if (a.get x173.toNat) < x207 then
                    some (↑k174:Int)
                  else
                    some x173
              else
                some x173
            else
              if x173 < 0 then
                some (↑k174:Int)
              else
                (chk x173 31).bind fun _ =>
                if (a.get x173.toNat) < x207 then
                  some (↑k174:Int)
                else
                  some x173
          else
            some x173).bind fun x203 =>
          some x203
def BI (a:Arr Int 31) (l:List (Int × Int)) (t d:Int) (k:Nat) (s:Int):Prop :=
 (s=-1/\∀ x,x < k->¬ Elg a l t d x) \/ ∃ b:Nat,b < k/\s=b/\Elg a l t d b/\∀ x,x < k->Elg a l t d x->a.get x <= a.get b
theorem wTL (a:Arr Int 31) (l:List (Int × Int)) (t d:Int) {k:Nat} (hk:k < 31) {s:Int} (I:BI a l t d k s):∃ s',bRd a l t d k s=some s'/\BI a l t d (k + 1) s':=by
 have no:¬ Elg a l t d k->BI a l t d (k + 1) s:=fun c=>by
  rcases I with ⟨i1,i2⟩ | ⟨b,b1,b2,b3,b4⟩
  ·refine .inl ⟨i1,fun x hx=>?_⟩
   by_cases e:x=k
   ·rw [e];exact c
   ·exact i2 x (by omega)
  ·refine .inr ⟨b,by omega,b2,b3,fun x hx ex=>?_⟩
   by_cases e:x=k
   ·rw [e] at ex;exact absurd ex c
   ·exact b4 x (by omega) ex
 have yes:Elg a l t d k->∃ s',(if s < 0 then some (k:Int) else (chk s 31).bind fun _=>if a.get s.toNat < a.get k then some (k:Int) else some s)=some s'/\BI a l t d (k + 1) s':=fun c=>by
  rcases I with ⟨i1,i2⟩ | ⟨b,b1,b2,b3,b4⟩
  ·rw [if_pos (by omega)]
   refine ⟨_,rfl,.inr ⟨k,by omega,rfl,c,fun x hx ex=>?_⟩⟩
   by_cases e:x=k
   ·rw [e];omega
   ·exact absurd ex (i2 x (by omega))
  ·rw [if_neg (by omega),wBy (by omega) (by omega),nA,show s.toNat=b by omega]
   by_cases h:a.get b < a.get k
   ·rw [if_pos h]
    refine ⟨_,rfl,.inr ⟨k,by omega,rfl,c,fun x hx ex=>?_⟩⟩
    by_cases e:x=k
    ·rw [e];omega
    ·have:=b4 x (by omega) ex
     omega
   ·rw [if_neg h]
    refine ⟨_,rfl,.inr ⟨b,by omega,b2,b3,fun x hx ex=>?_⟩⟩
    by_cases e:x=k
    ·rw [e];omega
    ·exact b4 x (by omega) ex
 unfold bRd
 rw [wOQ a hk,nA]
 by_cases h1:0 < a.get k
 ·rw [if_pos h1]
  by_cases h2:wIg l (k:Int)=true
  ·rw [if_pos h2]
   by_cases h3:d <= w64 (t - wCb l (k:Int) 0)
   ·rw [if_pos h3]
    obtain ⟨s',e,h⟩:=yes ⟨h1,fun _=>h3⟩
    rw [e]
    exact ⟨s',rfl,h⟩
   ·rw [if_neg h3]
    exact ⟨s,rfl,no fun c=>h3 (c.2 h2)⟩
  ·rw [if_neg h2]
   obtain ⟨s',e,h⟩:=yes ⟨h1,fun c=>absurd c h2⟩
   rw [e]
   exact ⟨s',rfl,h⟩
 ·rw [if_neg h1]
  exact ⟨s,rfl,no fun c=>h1 c.1⟩
theorem wRk (a:Arr Int 31) (l:List (Int × Int)) (t d:Int):∃ s,wBL 0 31 (bRd a l t d) (-1)=some s/\BI a l t d 31 s :=
 wOP (BI a l t d) (.inl ⟨rfl,fun x hx=>by omega⟩) fun i s hi I=>wTL a l t d hi I
def gRd (p0:List wAA) (d:Int) (k130:Nat):List (Int × Int) × Arr Int 31 × List Int × List Int->Option (List (Int × Int) × Arr Int 31 × List Int × List Int)
  | (l119,a122,l123,l126) =>
        (wBL 0 31 (bRd a122 l119 (↑k130:Int) d) (-1)).bind fun y179 =>
        (wAa l123 (fun x=>wAk x p0 y179)).bind fun x317 =>
        (chk x317 l123.length).bind fun _ =>
        (app 8 l126 [(gd l123 x317.toNat)]).bind fun x341 =>
        (wBJ l123 x317 (w64 (x317 + 1))).bind fun x349 =>
        (chk y179 31).bind fun _ =>
        some ((mput l119 y179 (↑k130:Int)),(a122.set y179.toNat (w64 ((a122.get y179.toNat) - 1))),x349,x341)
theorem wIW (p0:List wAA):wBn p0=(wBt p0).bind fun x11 =>
 if x11=0 then
  (wBr p0).bind fun x25 =>
  (wAh x25).bind fun (x43,x44) =>
  if 1 < x44 then
   (quo (w64 ((↑p0.length:Int) - (↑x43.length:Int))) (w64 (x44 - 1))).bind fun x61 =>
   (wBF p0).bind fun x66 =>
   (wBL 0 (↑p0.length:Int) (gRd p0 x61) (([]:List (Int × Int)),x25,x66,[])).bind fun (y135,y136,y137,y138) =>
   some ((y138,x61,0):List Int × Int × Int)
  else
   (wBF p0).bind fun x423 =>
   (wBL 0 (↑p0.length:Int) (gRd p0 (↑p0.length:Int)) (([]:List (Int × Int)),x25,x423,[])).bind fun (y492,y493,y494,y495) =>
   some ((y495,(↑p0.length:Int),0):List Int × Int × Int)
 else
  some (([],0,x11):List Int × Int × Int):=rfl
theorem wJT {α:Type} [Inhabited α] {p:α->Bool}:∀ {l:List α} {k:Nat},(∃ x ∈ l,p x=true)->∃ j,j < l.length/\first p l k=((k + j:Nat):Int)/\p (gd l j)=true
 | [],_,h=>by obtain ⟨x,hx,_⟩:=h;simp at hx
 | a :: l,k,h=>by
  rw [first]
  by_cases c:p a=true
  ·rw [if_pos c]
   exact ⟨0,by simp,rfl,c⟩
  ·rw [if_neg c]
   obtain ⟨x,hx,e⟩:=h
   rcases List.mem_cons.1 hx with rfl | hx
   ·exact absurd e c
   ·obtain ⟨j,j1,j2,j3⟩:=wJT (l:=l) (k:=k + 1) ⟨x,hx,e⟩
    refine ⟨j + 1,by simp;omega,by rw [j2];omega,?_⟩
    rw [show gd (a :: l) (j + 1)=gd l j from rfl]
    exact j3
theorem Gr.snoc {C d t:Nat} {c p p':Nat->Nat} (G:Gr C d c p t) (e:∀ r,r < t->p' r=p r) (h1:p' t < C) (h2:cnt p t (p' t) < c (p' t)) (h3:∀ r,r < t->p r=p' t->d <= t - r)
  (h4:∀ x,x < C->cnt p t x < c x->(∀ r,r < t->p r=x->d <= t - r)->c x - cnt p t x <= c (p' t) - cnt p t (p' t)):Gr C d c p' (t + 1):=by
 have ec:∀ s x,s <= t->cnt p' s x=cnt p s x:=fun s x hs=>wFe fun r hr=>e r (by omega)
 refine ⟨fun s hs=>?_,fun s hs=>?_,fun s hs r hr er=>?_,fun s hs x hx hx2 hx3=>?_⟩
 ·by_cases es:s=t
  ·rw [es];exact h1
  ·rw [e s (by omega)];exact G.lt s (by omega)
 ·rw [ec s _ (by omega)]
  by_cases es:s=t
  ·rw [es];exact h2
  ·rw [e s (by omega)];exact G.pos s (by omega)
 ·rw [e r (by omega)] at er
  by_cases es:s=t
  ·rw [es] at er hr ⊢;exact h3 r hr er
  ·rw [e s (by omega)] at er;exact G.gap s (by omega) r hr er
 ·rw [ec s _ (by omega)] at hx2 ⊢
  rw [ec s _ (by omega)]
  have hx3':∀ r,r < s->p r=x->d <= s - r:=fun r hr er=>hx3 r hr (by rw [e r (by omega)];exact er)
  by_cases es:s=t
  ·subst es;exact h4 x hx hx2 hx3'
  ·rw [e s (by omega)];exact G.best s (by omega) x hx hx2 hx3'
theorem Gr.zero {C d:Nat} {c p:Nat->Nat}:Gr C d c p 0:=⟨fun _ h=>by omega,fun _ h=>by omega,fun _ h=>by omega,fun _ h=>by omega⟩
structure SI (f:List wAA) (d:Nat) (t:Nat) (s:List (Int × Int) × Arr Int 31 × List Int × List Int):Prop where
 len:s.2.2.2.length=t
 perm:(s.2.2.2 ++ s.2.2.1).Perm (wCY f.length)
 gr:Gr 31 d (man f) (pn f s.2.2.2) t
 left:∀ x,x < 31->s.2.1.get x=((man f x - cnt (pn f s.2.2.2) t x:Nat):Int)
 last:∀ x:Nat,x < 31->(wGI s.1 (x:Int)=none/\∀ r,r < t->pn f s.2.2.2 r ≠ x) \/ ∃ r,r < t/\wGI s.1 (x:Int)=some (r:Int)/\pn f s.2.2.2 r=x/\∀ q,q < t->pn f s.2.2.2 q=x->q <= r
theorem wRl {f:List wAA} {d t:Nat} {s:List (Int × Int) × Arr Int 31 × List Int × List Int} (I:SI f d t s) (ht:t <= 1000) {x:Nat} (hx:x < 31) :
  Elg s.2.1 s.1 t d x ↔ cnt (pn f s.2.2.2) t x < man f x/\∀ r,r < t->pn f s.2.2.2 r=x->d <= t - r:=by
 unfold Elg
 rw [I.left x hx]
 constructor
 ·rintro ⟨h1,h2⟩
  refine ⟨by omega,fun r hr er=>?_⟩
  rcases I.last x hx with ⟨_,i2⟩ | ⟨q,q1,q2,q3,q4⟩
  ·exact absurd er (i2 r hr)
  ·have:=h2 (by rw [wIg,q2];rfl)
   rw [wCb,q2,ki,wAU (by omega) (by omega)] at this
   have:=q4 r hr er
   omega
 ·rintro ⟨h1,h2⟩
  refine ⟨by omega,fun h=>?_⟩
  rcases I.last x hx with ⟨i1,_⟩ | ⟨q,q1,q2,q3,q4⟩
  ·rw [wIg,i1] at h;exact absurd h (by decide)
  ·rw [wCb,q2,ki,wAU (by omega) (by omega)]
   have:=h2 q q1 q3
   omega
theorem wTM {f:List wAA} {o m:List Int} {r:Nat} (h:r < o.length):pn f (o ++ m) r=pn f o r:=by
 unfold pn
 rw [wIN h]
theorem wTN {f:List wAA} (G:wDT f) {d:Nat} (hd:1 <= d) (h0:∀ u,0 < lv 31 (man f) (man f) 0 u->lv 31 (man f) (man f) 0 u + u * d <= f.length) {t:Nat} (ht:t < f.length) {s:List (Int × Int) × Arr Int 31 × List Int × List Int} (I:SI f d t s) :
  ∃ s',gRd f d t s=some s'/\SI f d (t + 1) s':=by
 have hf:=G.l2
 obtain ⟨l,a,sk,o⟩:=s
 have hlen:=I.len
 have hperm:=I.perm
 have hgr:=I.gr
 have hleft:=I.left
 have hlast:=I.last
 have hel:=fun (x:Nat) (hx:x < 31)=>wRl I (by omega) hx
 simp only at hlen hperm hgr hleft hlast hel
 unfold gRd
 simp only
 obtain ⟨y,ey,hy⟩:=wRk a l (t:Int) (d:Int)
 rw [ey,nA]
 obtain ⟨x,hx,hx2,hx3⟩:=wPi hgr hd h0 (wFu G) ht
 have hb:∃ b:Nat,b < 31/\y=b/\Elg a l t d b/\∀ x,x < 31->Elg a l t d x->a.get x <= a.get b:=by
  rcases hy with ⟨_,h2⟩ | h
  ·exact absurd ((hel x hx).2 ⟨hx2,hx3⟩) (h2 x hx)
  ·exact h
 clear hy hx hx2 hx3
 obtain ⟨b,b1,rfl,b2,b3⟩:=hb
 obtain ⟨c1,c2⟩:=(hel b b1).1 b2
 have hsk:∀ i ∈ sk,0 <= i/\i < (f.length:Int):=fun i hi=>wCv _ (hperm.mem_iff.1 (kV _ hi))
 have hnat:∀ i ∈ sk,(decide (col f i.toNat=b))=decide ((gd f i.toNat).Nation=b):=fun i hi=>by
  have:=hsk i hi
  have:=wTI G (i:=i.toNat) (by omega)
  rw [<- this]
  refine decide_eq_decide.2 ⟨fun h=>by omega,fun h=>by omega⟩
 have hex:∃ i ∈ sk,decide ((gd f i.toNat).Nation=b)=true:=by
  have e1:=wTK hperm b
  rw [kf,<- wIV (fun i:Int=>col f i.toNat) o b,hlen] at e1
  have e2:cnt (fun r=>col f (gd o r).toNat) t b=cnt (pn f o) t b:=rfl
  rw [e2] at e1
  have:0 < sk.countP (fun i=>decide (col f i.toNat=b)):=by omega
  obtain ⟨i,hi,e⟩:=List.countP_pos_iff.1 this
  exact ⟨i,hi,by rw [<- hnat i hi];exact e⟩
 have hskl:o.length + sk.length=f.length:=by
  rw [<- nQ,hperm.length_eq];simp [wCY]
 have eI:wAa sk (fun x=>wAk x f (b:Int))=some (first (fun i:Int=>decide ((gd f i.toNat).Nation=b)) sk 0):=by
  unfold wAa
  refine wLv (z:=fun x=>x) (fun i hi=>?_) (by omega)
  have h:=hsk i hi
  unfold wAk
  obtain ⟨k,rfl⟩:=kP h.1
  rw [wBf (by omega),nA]
  rfl
 obtain ⟨j,j1,j2,j3⟩:=wJT (k:=0) hex
 rw [nV] at j2
 have hi:=hsk _ (wAb j1)
 have ec:col f (gd sk j).toNat=b:=by
  have:=hnat _ (wAb j1)
  rw [j3] at this
  simpa using this
 rw [eI,j2,nA,wBy (by omega) (by omega),nA,wCm (by simp;omega),nA,wAU (by omega) (by omega),wBJ,delO,if_pos (by omega),nA,wBy (by omega) (by omega),nA]
 have e1:((j:Int)).toNat=j:=by omega
 have e2:((j:Int) + 1).toNat=j + 1:=by omega
 have e3:((b:Int)).toNat=b:=by omega
 rw [e1,e2,e3]
 refine ⟨_,rfl,?_⟩
 have old:∀ r,r < t->pn f (o ++ [gd sk j]) r=pn f o r:=fun r hr=>wTM (by omega)
 have new:pn f (o ++ [gd sk j]) t=b:=by
  unfold pn
  rw [<- hlen,wGQ]
  exact ec
 have oc:∀ x,cnt (pn f (o ++ [gd sk j])) t x=cnt (pn f o) t x:=fun x=>wFe old
 refine ⟨by simp [hlen],?_,?_,fun x hx=>?_,fun x hx=>?_⟩
 ·simp only
  refine List.Perm.trans ?_ hperm
  have:sk=sk.take j ++ gd sk j :: sk.drop (j + 1):=by
   rw [<- wIM j1,nt]
  rw [nk]
  refine List.Perm.append_left o ?_
  conv=>rhs;rw [this]
  rw [List.singleton_append]
  exact List.perm_middle.symm
 ·simp only
  refine hgr.snoc old (by rw [new];exact b1) (by rw [new];exact c1) (by rw [new];exact c2) fun x hx h1 h2=>?_
  rw [new]
  have:=b3 x hx ((hel x hx).2 ⟨h1,h2⟩)
  rw [hleft x hx,hleft b b1] at this
  omega
 ·simp only
  rw [wOO a b1]
  have hx2:=hleft b b1
  by_cases e:x=b
  ·have hm:man f b <= f.length:=wGR
   rw [if_pos e,hx2,wAU (by omega) (by omega),e]
   simp only [cnt,new,if_true,oc]
   omega
  ·rw [if_neg e,hleft x hx]
   simp only [cnt,new,if_neg (Ne.symm e),oc,kX]
 ·simp only
  rw [wIP]
  by_cases e:x=b
  ·rw [if_pos (by omega)]
   exact .inr ⟨t,by omega,rfl,by rw [new,e],fun q hq _=>by omega⟩
  ·rw [if_neg (by omega)]
   rcases hlast x hx with ⟨i1,i2⟩ | ⟨r,r1,r2,r3,r4⟩
   ·refine .inl ⟨i1,fun r hr=>?_⟩
    by_cases er:r=t
    ·rw [er,new];exact Ne.symm e
    ·rw [old r (by omega)];exact i2 r (by omega)
   ·refine .inr ⟨r,by omega,r2,by rw [old r r1];exact r3,fun q hq eq=>?_⟩
    by_cases er:q=t
    ·rw [er,new] at eq;exact absurd eq.symm e
    ·rw [old q (by omega)] at eq;exact r4 q (by omega) eq
theorem wOR {f:List wAA} (G:wDT f) {d:Nat} (hd:1 <= d) (h0:∀ u,0 < lv 31 (man f) (man f) 0 u->lv 31 (man f) (man f) 0 u + u * d <= f.length) {a:Arr Int 31} (ha:∀ x,x < 31->a.get x=((man f x:Nat):Int)) {r:List Int} (R:Rk f r) :
  ∃ l a' sk o,wBL 0 (↑f.length:Int) (gRd f (d:Int)) (([]:List (Int × Int)),a,r,[])=some (l,a',sk,o)/\o.Perm (wCY f.length)/\Gap (pn f o) d f.length:=by
 have hf:=G.l2
 obtain ⟨⟨l,a',sk,o⟩,e,I⟩:=wHH (SI f d) (by omega) (s0:=(([]:List (Int × Int)),a,r,([]:List Int))) ⟨rfl,by simpa using R.perm,Gr.zero,fun x hx=>by simp only [cnt];rw [ha x hx];omega,fun x hx=>.inl ⟨rfl,fun r hr=>by omega⟩⟩ fun t s ht I=>wTN G hd h0 ht I
 have hperm:=I.perm
 have hlen:=I.len
 have hgr:=I.gr
 simp only at hperm hlen hgr
 have:sk=[]:=by
  have h:=hperm.length_eq
  rw [nQ,hlen,show (wCY f.length).length=f.length by simp [wCY]] at h
  exact kO.1 (by omega)
 rw [this,nu] at hperm
 exact ⟨l,a',sk,o,e,hperm,hgr.gap⟩
end Go.Proofs.YtglpalgiipahjaaGreat
namespace Go.Proofs.YtglpalgiipahjaaGreat
open Go.KL
theorem wPn (n:Nat):(wCY n).length=n:=by simp [wCY]
theorem wTO {f:Nat->Nat} {x:Nat}:∀ {C:Nat},x < C->f x <= sm f C
 | 0,h=>by omega
 | C + 1,h=>by
  simp only [sm]
  by_cases e:x=C
  ·rw [e];omega
  ·have:=wTO (f:=f) (x:=x) (C:=C) (by omega)
   omega
theorem wTP (f:List wAA) (x:Nat):man f x <= f.length:=wGR
structure Grt (f:List wAA) (a:Arr Int 31) (m:Nat):Prop where
 cnt:wBr f=some a
 get:∀ x,x < 31->a.get x=((man f x:Nat):Int)
 grt:wAh a=some (wMK a m 31,(m:Int))
 hit:∃ x,x < 31/\man f x=m
 top:∀ x,x < 31->man f x <= m
 m1:1 <= m
 len:(wMK a m 31).length=nb 31 (man f) m
theorem wQS {f:List wAA} (G:wDT f):∃ a m,Grt f a m:=by
 have h1:=G.l1
 obtain ⟨a,e,ha⟩:=wMA G
 obtain ⟨M,e2,⟨x,hx,ex⟩,ht⟩:=wKX a
 rw [ha x hx] at ex
 subst ex
 have top:∀ y,y < 31->man f y <= man f x:=fun y hy=>by
  have:=ht y hy
  rw [ha y hy] at this
  omega
 refine ⟨a,man f x,e,ha,e2,⟨x,hx,rfl⟩,top,?_,?_⟩
 ·have h:=wOI (f:=man f) (C:=31) (by rw [wFu G];omega)
  obtain ⟨y,hy,h⟩:=h
  have:=top y hy
  omega
 ·rw [wPm]
  refine wCk fun y hy=>?_
  have:=top y hy
  have:=ha y hy
  by_cases c:man f x <= man f y
  ·rw [if_pos (by omega),if_pos c]
  ·rw [if_neg (by omega),if_neg c]
def dd (f:List wAA) (m:Nat):Nat:=if 2 <= m then (f.length - nb 31 (man f) m) / (m - 1) else f.length
theorem wTQ {C m:Nat} {c:Nat->Nat} (h:1 <= m):nb C c m <= sm c C:=wRg fun x _=>by
 split <;> omega
structure DD (f:List wAA) (m d:Nat):Prop where
 sum:(m - 1) * d + nb 31 (man f) m <= f.length
 d1:1 <= d
 dn:d <= f.length
theorem dd_ok {f:List wAA} (G:wDT f) {m:Nat} (hit:∃ x,x < 31/\man f x=m) (top:∀ x,x < 31->man f x <= m) (m1:1 <= m):DD f m (dd f m):=by
 have h1:=G.l1
 have hb:=wTQ (C:=31) (c:=man f) m1
 rw [wFu G] at hb
 unfold dd
 by_cases h2:2 <= m
 ·rw [if_pos h2]
  obtain ⟨x,hx,ex⟩:=hit
  have hk:1 <= nb 31 (man f) m:=by
   have:=wTO (f:=fun x=>if m <= man f x then 1 else 0) hx
   simp only [ex,kU,if_true] at this
   exact this
  have eg:gl 31 (man f) m=f.length:=by
   rw [<- wFu G]
   exact wCk fun y hy=>by have:=top y hy;omega
  have e2:=wIR (C:=31) (c:=man f) (m - 1)
  rw [Nat.sub_add_cancel m1,eg] at e2
  have hu:=wRh (C:=31) (c:=man f) (d:=nb 31 (man f) m) (m - 1) (fun i hi=>wOM (by omega))
  have hq:nb 31 (man f) m <= (f.length - nb 31 (man f) m) / (m - 1):=(Nat.le_div_iff_mul_le (by omega)).2 (by rw [Nat.mul_comm];omega)
  have hm:=Nat.mul_div_le (f.length - nb 31 (man f) m) (m - 1)
  refine ⟨by omega,by omega,?_⟩
  have:=kQ (f.length - nb 31 (man f) m) (m - 1)
  omega
 ·rw [if_neg h2]
  have:m - 1=0:=by omega
  exact ⟨by rw [this];omega,by omega,by omega⟩
theorem wRm {a b:Nat} (ha:a <= 1000) (hb:0 < b):quo (a:Int) (b:Int)=some ((a / b:Nat):Int):=by
 unfold quo
 rw [if_neg (by omega)]
 have e:(a:Int).tdiv (b:Int)=((a / b:Nat):Int):=rfl
 rw [e]
 have:=kQ a b
 generalize a / b=q at this ⊢
 rw [wAU (by omega) (by omega)]
theorem wJU {f:List wAA} (G:wDT f) {a:Arr Int 31} {m:Nat} (T:Grt f a m):∃ o,wBn f=some (o,((dd f m:Nat):Int),0)/\o.Perm (wCY f.length)/\Gap (pn f o) (dd f m) f.length:=by
 have h2:=G.l2
 have D:=dd_ok G T.hit T.top T.m1
 have h0:=wPj (p:=man f) T.m1 T.top (wFu G) D.sum
 obtain ⟨r,er,R⟩:=wHK G
 obtain ⟨l,a',sk,o,e,hp,hg⟩:=wOR G D.d1 h0 T.get R
 have hx:m <= f.length:=by obtain ⟨x,_,ex⟩:=T.hit;rw [<- ex];exact wTP f x
 have hb:=wTQ (C:=31) (c:=man f) T.m1
 rw [wFu G] at hb
 rw [wIW,wLQ G,nA,if_pos rfl,T.cnt,nA,T.grt,nA]
 simp only
 by_cases c:2 <= m
 ·have ed:dd f m=(f.length - nb 31 (man f) m) / (m - 1):=if_pos c
  rw [if_pos (by omega),T.len,wAU (by omega) (by omega),wAU (by omega) (by omega)]
  rw [show (f.length:Int) - (nb 31 (man f) m:Int)=((f.length - nb 31 (man f) m:Nat):Int) by omega,show (m:Int) - 1=((m - 1:Nat):Int) by omega,wRm (by omega) (by omega),nA,er,nA,<- ed,e,nA]
  exact ⟨o,rfl,hp,hg⟩
 ·have ed:dd f m=f.length:=if_neg c
  rw [if_neg (by omega),er,nA]
  rw [ed] at e hg ⊢
  rw [e,nA]
  exact ⟨o,rfl,hp,hg⟩
end Go.Proofs.YtglpalgiipahjaaGreat
namespace Go.Proofs.YtglpalgiipahjaaGreat
open Go.KL
theorem wTR {f:List wAA} {r:List Int} (h:Rk f r) {k:Nat} (hk:k < f.length):r.length=f.length/\0 <= gd r k/\gd r k < f.length:=by
 have hl:r.length=f.length:=by rw [h.perm.length_eq];simp [wCY]
 have:=wCv _ (h.perm.mem_iff.1 (wAb (l:=r) (k:=k) (by omega)))
 exact ⟨hl,this⟩
def wRn (w:Int) (s:List Int × Int):List Int × Int :=
 let a:=if 1 <= gd s.1 0 + s.2/\gd s.1 0 + s.2 <= w then s.1 ++ [gd s.1 0 + s.2] else s.1
 (if 1 <= gd s.1 0 - s.2/\gd s.1 0 - s.2 <= w then a ++ [gd s.1 0 - s.2] else a,s.2 + 1)
def wFf (w:Int):Nat->List Int × Int
 | 0=>([(w + 1).tdiv 2],1)
 | i + 1=>wRn w (wFf w i)
def wFg (w:Nat):List Int:=(wFf w (w / 2)).1
def far (w:Nat) (x:Int):Int:=max (2 * x - w - 1) (w + 1 - 2 * x)
structure LnP (w:Nat):Prop where
 len:(wFg w).length=w
 rng:∀ x ∈ wFg w,1 <= x/\x <= w
 one:(wFg w).Nodup
 out:∀ k,k < w - 1->far w (gd (wFg w) k) <= far w (gd (wFg w) (k + 1))
 rnd:∀ i,i < w / 2->((wFf w i).1.length:Int) < w
 num:∀ i,i <= w / 2->(wFf w i).2=i + 1/\(wFf w i).1.length <= 40/\1 <= (wFf w i).1.length/\gd (wFf w i).1 0=((w:Int) + 1).tdiv 2
instance (w:Nat):Decidable (LnP w) :=
 decidable_of_iff ((wFg w).length=w/\(∀ x ∈ wFg w,1 <= x/\x <= w)/\(wFg w).Nodup/\(∀ k,k < w - 1->far w (gd (wFg w) k) <= far w (gd (wFg w) (k + 1)))/\(∀ i,i < w / 2->((wFf w i).1.length:Int) < w)/\(∀ i,i < w / 2 + 1->(wFf w i).2=i + 1/\(wFf w i).1.length <= 40/\1 <= (wFf w i).1.length/\gd (wFf w i).1 0=((w:Int) + 1).tdiv 2))
  ⟨fun ⟨a,b,c,d,e,f⟩=>⟨a,b,c,d,e,fun i hi=>f i (by omega)⟩,fun ⟨a,b,c,d,e,f⟩=>⟨a,b,c,d,e,fun i hi=>f i (by omega)⟩⟩
theorem wJV:∀ w,w < 21->1 <= w->LnP w:=by decide
def bx (f:List wAA) (w:Nat) (r:List Int) (k:Nat):wAt:=⟨(gd f (gd r k).toNat).Bib,((k / w:Nat):Int) + 1,gd (wFg w) (k % w)⟩
theorem wOS {w:Nat} (w1:1 <= w) (w2:w <= 20) {i:Nat} (hi:i < w / 2):((chk 0 (wFf w i).1.length).bind fun _ =>
          (wBL 0 2 (fun k87 l84 =>
            (idx ([w64 ((gd (wFf w i).1 0) + (wFf w i).2),w64 ((gd (wFf w i).1 0) - (wFf w i).2)]:List Int) (↑k87:Int)).bind fun x110 =>
            (wBY x110 1 w).bind fun x113 =>
            if x113=true then
              (app 8 l84 [x110]).bind fun x130 =>
              some x130
            else
              some l84) (wFf w i).1).bind fun y92 =>
          some (Sum.inl (β:=List wAt × Int) (y92,w64 ((wFf w i).2 + 1))))=some (.inl (wFf w (i + 1))):=by
  have L:=wJV w (by omega) w1
  obtain ⟨n1,n2,n3,n4⟩:=L.num i (by omega)
  have hd:((w:Int) + 1).tdiv 2=(w + 1) / 2:=na (by omega)
  have hm:0 <= gd (wFf w i).1 0/\gd (wFf w i).1 0 <= 20:=by rw [n4,hd];omega
  have e2:(wFf w (i + 1))=wRn w (wFf w i):=rfl
  rw [e2]
  unfold wRn
  generalize wFf w i=s at n1 n2 n3 hm ⊢
  obtain ⟨l,x⟩:=s
  simp only at n1 n2 n3 hm ⊢
  subst n1
  rw [wBy (by omega) (by omega),nA,wAU (by omega) (by omega),wAU (by omega) (by omega),wAU (by omega) (by omega)]
  unfold wBL
  rw [if_pos (by decide)]
  show ((forN' _ 2 0 _).bind _)=_
  generalize gd l 0=m at hm
  have i0:idx [m + ((i:Int) + 1),m - ((i:Int) + 1)] ((0:Nat):Int)=some (m + ((i:Int) + 1)):=rfl
  have i1:idx [m + ((i:Int) + 1),m - ((i:Int) + 1)] ((0 + 1:Nat):Int)=some (m - ((i:Int) + 1)):=rfl
  have ca:∀ (y:Int),(decide (1 <= y) && decide (y <= (w:Int)))=true ↔ 1 <= y/\y <= w:=fun y=>by simp
  simp only [forN',i0,i1,nA,wPb,ca]
  by_cases c1:1 <= m + ((i:Int) + 1)/\m + ((i:Int) + 1) <= w
  · simp only [if_pos c1]
    rw [wCm (by simp;omega)]
    simp only [nA]
    by_cases c2:1 <= m - ((i:Int) + 1)/\m - ((i:Int) + 1) <= w
    · simp only [if_pos c2]
      rw [wCm (by simp;omega)]
      rfl
    · simp only [if_neg c2]
      rfl
  · simp only [if_neg c1]
    by_cases c2:1 <= m - ((i:Int) + 1)/\m - ((i:Int) + 1) <= w
    · simp only [if_pos c2]
      rw [wCm (by simp;omega)]
      rfl
    · simp only [if_neg c2]
      rfl
theorem wLR {f:List wAA} (G:wDT f) {r:List Int} (hr:wBF f=some r) (R:Rk f r) {w:Nat} (w1:1 <= w) (w2:w <= 20):wBu f w=some ((nJ f.length).map (bx f w r),0):=by
  unfold wBu
  have L:=wJV w (by omega) w1
  have h2:=G.l2
  have hrl:r.length=f.length:=by rw [R.perm.length_eq];simp [wCY]
  rw [wLQ G,nA,if_pos rfl,wPb,nA,if_pos (by simp;omega),quo,if_neg (by decide),nA]
  have hd:((w:Int) + 1).tdiv 2=(w + 1) / 2:=na (by omega)
  rw [wAU (x:=(w:Int) + 1) (by omega) (by omega),wAU (x:=((w:Int) + 1).tdiv 2) (by omega) (by omega)]
  have e0:(([((w:Int) + 1).tdiv 2],1):List Int × Int)=wFf w 0:=rfl
  refine wRa (m:=w / 2) (wFf w) (fun i hi=>?_) ?_ e0.symm (by omega)
  · simp only
    rw [if_pos (L.rnd i hi)]
    exact wOS w1 w2 hi
  · have hlen:(wFf w (w / 2)).1.length=w:=L.len
    simp only
    rw [if_neg (by omega),hr,nA]
    have e1:(wFf w (w / 2)).1=wFg w:=rfl
    rw [e1]
    have:=wDB (body:=fun (k204:Nat) (l200:List wAt) =>
            (chk (↑k204:Int) r.length).bind fun _ =>
            (idx f (gd r k204)).bind fun x237 =>
            (quo (↑k204:Int) w).bind fun x246 =>
            (rem (↑k204:Int) w).bind fun x249 =>
            (chk x249 (wFg w).length).bind fun _ =>
            (app 24 l200 [(⟨x237.Bib,w64 (x246 + 1),(gd (wFg w) x249.toNat)⟩:wAt)]).bind fun x262 =>
            some x262) (n:=r.length) (s0:=[]) (fun k=>(nJ k).map (bx f w r)) rfl (by omega) (fun i hi=>by
        obtain ⟨_,g0,g1⟩:=wTR R (k:=i) (by omega)
        have hmod:=Nat.mod_lt i w1
        have hdiv:=kQ i w
        have et:(i:Int).tmod (w:Int)=((i % w:Nat):Int):=by
          rw [nZ (by omega)];simp
        have ed:(i:Int).tdiv (w:Int)=((i / w:Nat):Int):=by
          rw [na (by omega)];simp
        have ei:idx f (gd r i)=some (gd f (gd r i).toNat):=by
          unfold idx
          rw [if_pos g0,wBM (by omega)]
        have ll:=L.len
        have q0:(0:Int) <= ((i / w:Nat):Int):=Int.natCast_nonneg _
        have q1:((i / w:Nat):Int) <= (i:Int):=Int.ofNat_le.2 hdiv
        have q2:w64 ((i / w:Nat):Int)=((i / w:Nat):Int):=wAU (kM (by decide) q0) (kM q1 (by omega))
        have q3:w64 (((i / w:Nat):Int) + 1)=((i / w:Nat):Int) + 1:=wAU (kM (by decide) (Int.le_add_of_nonneg_left q0)) (kM (Int.add_le_add_right q1 1) (by omega))
        rw [wBy (by omega) (by omega),nA,ei,nA,quo,if_neg (by omega),nA,rem,if_neg (by omega),nA,et,ed,q2,q3,wBy (by omega) (by omega),nA,wCm (by simp;omega),nA,nf,nP]
        rfl)
    rw [this,nA,hrl]
    rfl
end Go.Proofs.YtglpalgiipahjaaGreat
namespace Go.Proofs.YtglpalgiipahjaaGreat
open Go.KL
theorem wPo {l:List Int} {i k:Int} (i0:0 <= i) (i1:i < l.length) (k0:0 <= k) (k1:k < l.length):(nN (nN l i.toNat (gd l k.toNat)) k.toNat (gd l i.toNat)).Perm l:=by
 rw [wBm (show k.toNat < l.length by omega),wBm (show i.toNat < l.length by omega)]
 exact List.set_set_perm (by omega) (by omega)
theorem wEg (d:wAC) (n:Nat) (h0:0 <= d.next) (h1:d.next <= 100000) (hn:n <= 1000):∃ l d',wAV d (n:Int)=some (l,d')/\0 <= d'.next/\d'.next <= d.next + n/\l.Perm ((nJ n).map fun (k:Nat)=>(k:Int)):=by
 unfold wAV
 have e1:max (0:Int) n=n:=by omega
 rw [e1,wDH (by omega)]
 obtain ⟨s,hs,hI⟩:=wDm (body:=fun (k19:Nat) (l15:List Int)=>(app 8 l15 [(k19:Int)]).bind fun x47=>some x47) (fun k l=>l=(nJ k).map fun (k:Nat)=>(k:Int)) n 0 [] rfl (fun i s _ hi e=>by
  subst e
  refine ⟨_,by rw [app,if_pos (by simp;omega)];rfl,?_⟩
  rw [nf,nP];rfl)
 rw [hs,nA]
 rw [nV] at hI
 have hlen:s.length=n:=by rw [hI];simp
 rw [wAU (by omega) (by omega)]
 refine (wPY (I:=fun j (st:List Int × Int × Int × List Int × Int)=>st.2.2.2.1.Perm s/\0 <= st.2.1/\st.2.1 <= d.next + j/\st.2.2.2.2=(s.length:Int) - 1 - j) (Z:=fun (b:List Int × wAC)=>0 <= b.2.next/\b.2.next <= d.next + n/\b.1.Perm s) n ?_ ⟨List.Perm.refl _,by simpa using h0,by simp,by simp⟩ (by omega)).elim fun b hb=>⟨b.1,b.2,hb.1,hb.2.1,hb.2.2.1,hI ▸ hb.2.2.2⟩
 rintro j ⟨b,nx,st,l,i⟩ hj ⟨hp,n0,n1,hi⟩
 simp only at hp n0 n1 hi ⊢
 have hl:l.length=s.length:=hp.length_eq
 by_cases c:0 < i
 ·left
  refine ⟨by omega,?_⟩
  rw [if_pos c,wAU (x:=i + 1) (by omega) (by omega)]
  obtain ⟨x,d',e,m0,m1,x0,x1⟩:=wIQ ⟨b,nx,st⟩ (i + 1) n0 (by simp only;omega)
  have x1':x < l.length:=by omega
  rw [e,nA]
  simp only
  rw [wBy x0 (by omega),nA,wBy (by omega) (by omega),nA,wBy x0 (by rw [kR];omega),nA,wAU (by omega) (by omega)]
  exact ⟨_,rfl,(wPo (by omega) (by omega) x0 x1').trans hp,m0,by simp only at m1 ⊢;omega,by simp only;omega⟩
 ·right
  rw [if_neg c]
  exact ⟨_,rfl,n0,by simp only;omega,hp⟩
theorem wGS {α:Type} [Inhabited α] {l:List α} {p:List Int} (h:p.Perm ((nJ l.length).map fun (k:Nat)=>(k:Int))):(p.map fun i=>gd l i.toNat).Perm l:=by
 have:=h.map fun i=>gd l i.toNat
 refine this.trans ?_
 rw [nh]
 have e:(nJ l.length).map ((fun i:Int=>gd l i.toNat) ∘ fun (k:Nat)=>(k:Int))=l:=by
  refine List.ext_getElem (by simp) fun i h1 h2=>?_
  simp only [nI,kg,Function.comp]
  rw [nK,wBm h2]
 rw [e]
theorem wRo {p:List Int} {n:Nat} (h:p.Perm ((nJ n).map fun (k:Nat)=>(k:Int))):∀ i ∈ p,0 <= i/\i < n:=by
 intro i hi
 obtain ⟨k,hk,e⟩:=nL.1 (h.mem_iff.1 hi)
 have:=nU.1 hk
 omega
end Go.Proofs.YtglpalgiipahjaaGreat
namespace Go.Proofs.YtglpalgiipahjaaGreat
open Go.KL
def sRd (x2:Int) (x16:List Int) (k85:Nat):List Int × Int × Int × List wAA->Option (List Int × Int × Int × List wAA)
 | (l76,x79,x80,l81) =>
  (chk (↑k85:Int) x16.length).bind fun _ =>
  (wAG (⟨l76,x79,x80⟩:wAC) 1 9).bind fun (x184,x185) =>
  (wAL x185 x2).bind fun (x198,x199) =>
  (wAG x199 1 3).bind fun (x212,x213) =>
  (app 24 l81 [(⟨w64 ((w64 (10 * (↑k85:Int))) + x184),x198,w64 ((w64 (3 * (gd x16 k85))) + x212)⟩:wAA)]).bind fun x231 =>
  some (x213.bytes,x213.next,x213.state,x231)
theorem wKY (p0:wAC) (p1:Int):wBq p0 p1=(wAG p0 1 6).bind fun (x2,x3) =>
 (wAV x3 60).bind fun (x16,x17) =>
 (wAG x17 1 p1).bind fun (x33,x34) =>
 (wBL 0 x33 (sRd x2 x16) (x34.bytes,x34.next,x34.state,[])).bind fun (y90,y91,y92,y93) =>
 some (y93,(⟨y90,y91,y92⟩:wAC)):=rfl
structure MInv (p:List Int) (n:Int) (k:Nat) (s:List Int × Int × Int × List wAA):Prop where
 n0:0 <= s.2.1
 n1:s.2.1 <= n + 3 * (k:Int)
 len:s.2.2.2.length=k
 el:∀ i,i < k->(10 * (i:Int) + 1 <= (gd s.2.2.2 i).Bib/\(gd s.2.2.2 i).Bib <= 10 * (i:Int) + 9)/\(0 <= (gd s.2.2.2 i).Nation/\(gd s.2.2.2 i).Nation <= 5)/\3 * gd p i + 1 <= (gd s.2.2.2 i).Rank/\(gd s.2.2.2 i).Rank <= 3 * gd p i + 3
theorem wOT {p:List Int} (hp:p.length=60) (hr:∀ i ∈ p,0 <= i/\i < 60) {x n:Int} (x0:1 <= x) (x1:x <= 6) (n1:0 <= n) (n2:n <= 1000) {k:Nat} {s:List Int × Int × Int × List wAA} (hk:k < 30) (I:MInv p n k s):∃ s',sRd x p k s=some s'/\MInv p n (k + 1) s':=by
 obtain ⟨b,nx,st,l⟩:=s
 obtain ⟨i0,i1,hl,el⟩:=I
 simp only at i0 i1 hl el
 unfold sRd
 simp only
 have hg:=hr _ (wAb (l:=p) (k:=k) (by omega))
 obtain ⟨a,d2,e2,p0,p1,a0,a1⟩:=wHI ⟨b,nx,st⟩ 1 9 i0 (by simp only;omega) (by omega) (by omega) (by omega)
 simp only at p1
 obtain ⟨y,d3,e3,q0,q1,y0,y1⟩:=wIQ d2 x p0 (by omega)
 obtain ⟨v,d4,e4,r0,r1,v0,v1⟩:=wHI d3 1 3 q0 (by omega) (by omega) (by omega) (by omega)
 rw [wBy (by omega) (by omega),nA,e2,nA]
 simp only
 rw [e3,nA]
 simp only
 rw [e4,nA]
 simp only
 rw [wAU (x:=10 * (k:Int)) (by omega) (by omega),wAU (x:=10 * (k:Int) + a) (by omega) (by omega),wAU (x:=3 * gd p k) (by omega) (by omega),wAU (x:=3 * gd p k + v) (by omega) (by omega),wCm (by simp;omega),nA]
 refine ⟨_,rfl,r0,by simp only;omega,by simp [hl],fun i hi=>?_⟩
 simp only
 by_cases e:i=k
 ·rw [e,show gd (l ++ [(⟨10 * (k:Int) + a,y,3 * gd p k + v⟩:wAA)]) k=⟨10 * (k:Int) + a,y,3 * gd p k + v⟩ by rw [<- hl,wGQ]]
  simp only
  omega
 ·rw [wIN (by omega)]
  exact el i (by omega)
theorem wLS {α:Type} {l:List α} [Inhabited α] {g:α->Int} (h:∀ i j,i < j->j < l.length->g (gd l i) ≠ g (gd l j)):(l.map g).Nodup:=by
 rw [nD,nB]
 intro i j hi hj hij e
 rw [nG] at hi hj
 rw [nI,nI,<- wBm hi,<- wBm hj] at e
 exact h i j hij hj e
theorem wRp (d:wAC) (h0:d.next=0) {u:Int} (u1:1 <= u) (u2:u <= 30):∃ f d',wBq d u=some (f,d')/\wDT f/\(f.length:Int) <= u/\(∀ s ∈ f,s.Bib <= 299/\s.Rank <= 200/\s.Nation <= 5)/\0 <= d'.next/\d'.next <= 200:=by
 rw [wKY]
 obtain ⟨x,d1,e1,m0,m1,x0,x1⟩:=wHI d 1 6 (by omega) (by omega) (by omega) (by omega) (by omega)
 rw [e1,nA]
 simp only
 obtain ⟨p,d2,e2,p0,p1,pp⟩:=wEg d1 60 m0 (by omega) (by omega)
 rw [show ((60:Nat):Int)=60 from rfl] at e2
 rw [e2,nA]
 simp only
 obtain ⟨n,d3,e3,q0,q1,n0,n1⟩:=wHI d2 1 u p0 (by omega) (by omega) (by omega) (by omega)
 rw [e3,nA]
 simp only
 obtain ⟨m,rfl⟩:∃ m:Nat,n=m:=⟨n.toNat,by omega⟩
 have hpl:p.length=60:=by rw [pp.length_eq];simp
 have hpr:=wRo pp
 have hpn:p.Nodup:=pp.nodup_iff.2 (nD.2 ((wKW 60).imp fun h=>by omega))
 have hpd:∀ i j,i < j->j < 60->gd p i ≠ gd p j:=fun i j hij hj e=>by
  have:=nB.1 (nD.1 hpn) i j (by omega) (by omega) hij
  rw [<- wBm (by omega),<- wBm (by omega)] at this
  exact this e
 rw [wDH (by omega)]
 obtain ⟨⟨b,nx,st,l⟩,hs,I⟩:=wDm (body:=sRd x p) (MInv p d3.next) m 0 (d3.bytes,d3.next,d3.state,[]) ⟨q0,by simp only;omega,rfl,fun i hi=>by omega⟩ (fun i s _ hi I=>wOT hpl hpr x0 x1 q0 (by omega) (by omega) I)
 rw [hs,nA]
 obtain ⟨i0,i1,hl,el⟩:=I
 simp only at i0 i1 hl el ⊢
 rw [nV] at hl el
 have hg:∀ i,i < m->0 <= gd p i/\gd p i < 60:=fun i hi=>hpr _ (wAb (by omega))
 have hf:∀ s ∈ l,(1 <= s.Bib/\s.Bib <= 299)/\(0 <= s.Nation/\s.Nation <= 5)/\1 <= s.Rank/\s.Rank <= 200:=fun s hs=>by
  obtain ⟨i,hi,e⟩:=wJP hs
  have h1:=el i (by omega)
  have h2:=hg i (by omega)
  rw [e] at h1
  omega
 refine ⟨l,_,rfl,⟨by omega,by omega,fun s hs=>by have:=hf s hs;omega,fun s hs=>by have:=hf s hs;omega,fun s hs=>by have:=hf s hs;omega,wLS fun i j hij hj=>?_,wLS fun i j hij hj=>?_⟩,by omega,fun s hs=>by have:=hf s hs;omega,i0,by simp only;omega⟩
 ·have h1:=el i (by omega)
  have h2:=el j (by omega)
  omega
 ·have h1:=el i (by omega)
  have h2:=el j (by omega)
  have h3:=hpd i j hij (by omega)
  omega
end Go.Proofs.YtglpalgiipahjaaGreat
namespace Go.Proofs.YtglpalgiipahjaaGreat
open Go.KL
def ren (τ:List Int) (s:wAA):wAA:=⟨s.Bib,gd τ s.Nation.toNat,s.Rank⟩
def mix (f:List wAA) (τ σ:List Int):List wAA:=σ.map fun i=>ren τ (gd f i.toNat)
theorem wBS {n:Nat} {o:List Int} (h:o.Perm (wCY n)):o.length=n/\(∀ i ∈ o,0 <= i/\i < (n:Int))/\o.Nodup :=
 ⟨by rw [h.length_eq,wPn],fun i hi=>wCv _ (h.mem_iff.1 hi),h.nodup_iff.2 (nD.2 ((wKW n).imp fun h=>by omega))⟩
theorem wFM {n:Nat} {o:List Int} (h:o.Perm (wCY n)) {k:Nat} (hk:k < n):0 <= gd o k/\gd o k < (n:Int):=by
 obtain ⟨h1,h2,_⟩:=wBS h
 exact h2 _ (wAb (by omega))
theorem wPp {n:Nat} {o:List Int} (h:o.Perm (wCY n)) {i j:Nat} (hi:i < n) (hj:j < n) (e:gd o i=gd o j):i=j:=by
 obtain ⟨h1,_,h3⟩:=wBS h
 have pw:=nB.1 (nD.1 h3)
 rcases kC i j with c | c | c
 ·have:=pw i j (by omega) (by omega) c
  rw [<- wBm,<- wBm] at this
  exact absurd e this
 ·exact c
 ·have:=pw j i (by omega) (by omega) c
  rw [<- wBm,<- wBm] at this
  exact absurd e.symm this
theorem wIX {f:List wAA} {τ σ:List Int} (h:σ.Perm (wCY f.length)):(mix f τ σ).Perm (f.map (ren τ)):=by
 have:=(wGS (l:=f) (p:=σ) h).map (ren τ)
 rw [nh] at this
 exact this
theorem wIY {f:List wAA} {τ σ:List Int} (h:σ.Perm (wCY f.length)):(mix f τ σ).length=f.length:=by
 rw [(wIX (τ:=τ) h).length_eq,nG]
theorem wOU {f:List wAA} {τ σ:List Int} {k:Nat} (hk:k < σ.length):gd (mix f τ σ) k=ren τ (gd f (gd σ k).toNat):=wFq _ hk
theorem wIZ {f:List wAA} (G:wDT f) {τ σ:List Int} (h:σ.Perm (wCY f.length)) (ht:τ.Perm (wCY 31)):wDT (mix f τ σ):=by
 have hp:=wIX (τ:=τ) h
 have hl:=wIY (τ:=τ) h
 have hm:∀ s ∈ mix f τ σ,∃ u ∈ f,s=ren τ u:=fun s hs=>by
  obtain ⟨u,hu,e⟩:=nL.1 (hp.mem_iff.1 hs)
  exact ⟨u,hu,e.symm⟩
 refine ⟨by rw [hl];exact G.l1,by rw [hl];exact G.l2,fun s hs=>?_,fun s hs=>?_,fun s hs=>?_,?_,?_⟩
 ·obtain ⟨u,hu,rfl⟩:=hm s hs
  exact G.bib u hu
 ·obtain ⟨u,hu,rfl⟩:=hm s hs
  exact G.rank u hu
 ·obtain ⟨u,hu,rfl⟩:=hm s hs
  have:=G.nat u hu
  have:=wFM ht (k:=u.Nation.toNat) (by omega)
  simp only [ren]
  omega
 ·refine (hp.map _).nodup_iff.2 ?_
  rw [nh]
  exact G.bibs
 ·refine (hp.map _).nodup_iff.2 ?_
  rw [nh]
  exact G.ranks
theorem wPq {f:List wAA} (G:wDT f) {τ σ:List Int} (h:σ.Perm (wCY f.length)) (ht:τ.Perm (wCY 31)):wBL 0 (↑σ.length:Int) (fun k105 l101 =>
  (chk (↑k105:Int) σ.length).bind fun _ =>
  (chk (gd σ k105) f.length).bind fun _ =>
  (chk ((gd f (gd σ k105).toNat).Nation) τ.length).bind fun _ =>
  (app 24 l101 [(⟨(gd f (gd σ k105).toNat).Bib,(gd τ ((gd f (gd σ k105).toNat).Nation).toNat),(gd f (gd σ k105).toNat).Rank⟩:wAA)]).bind fun x162 =>
  some x162) []=some (mix f τ σ):=by
 have h2:=G.l2
 obtain ⟨s1,_,_⟩:=wBS h
 obtain ⟨t1,_,_⟩:=wBS ht
 have:=wDB (n:=σ.length) (s0:=([]:List wAA)) (body:=fun (k105:Nat) (l101:List wAA) =>
  (chk (↑k105:Int) σ.length).bind fun _ =>
  (chk (gd σ k105) f.length).bind fun _ =>
  (chk ((gd f (gd σ k105).toNat).Nation) τ.length).bind fun _ =>
  (app 24 l101 [(⟨(gd f (gd σ k105).toNat).Bib,(gd τ ((gd f (gd σ k105).toNat).Nation).toNat),(gd f (gd σ k105).toNat).Rank⟩:wAA)]).bind fun x162 =>
  some x162) (fun k=>mix f τ (σ.take k)) rfl (by omega) (fun i hi=>by
   have hg:=wFM h (k:=i) (by omega)
   have hn:=G.nat _ (wAb (l:=f) (k:=(gd σ i).toNat) (by omega))
   have hm:(mix f τ (σ.take i)).length <= 60:=by
    unfold mix
    rw [nG,kG]
    omega
   rw [wBy (by omega) (by omega),nA,wBy (by omega) (by omega),nA,wBy (by omega) (by omega),nA,wCm (by simp only [nr,nv];omega),nA]
   unfold mix
   rw [wDS hi,nP]
   rfl)
 rw [this,nM]
theorem wPr {f:List wAA} {τ σ r r':List Int} (h:σ.Perm (wCY f.length)) (R:Rk f r) (R':Rk (mix f τ σ) r'):r=r'.map fun j=>gd σ j.toNat:=by
 obtain ⟨s1,_,_⟩:=wBS h
 have hl:=wIY (τ:=τ) h
 have hp':=R'.perm
 rw [hl] at hp'
 have hin:∀ j ∈ r',0 <= j/\j < (f.length:Int):=(wBS hp').2.1
 refine wTH R ⟨?_,?_⟩
 ·have:=wGS (l:=σ) (p:=r') (by rw [s1];exact hp')
  exact this.trans h
 ·rw [nX]
  refine R'.ord.imp_of_mem fun {a b} ha hb hab=>?_
  have ha':=hin a ha
  have hb':=hin b hb
  unfold rk at hab ⊢
  rw [wOU (by omega),wOU (by omega)] at hab
  exact hab
theorem wOV {f:List wAA} (G:wDT f) {τ σ:List Int} (h:σ.Perm (wCY f.length)) (ht:τ.Perm (wCY 31)):∃ b,b.length <= 60/\wBu f 7=some (b,0)/\wBu (mix f τ σ) 7=some (b,0):=by
 have G':=wIZ G h ht
 have h2:=G.l2
 obtain ⟨s1,_,_⟩:=wBS h
 have hl:=wIY (τ:=τ) h
 obtain ⟨r,er,R⟩:=wHK G
 obtain ⟨r',er',R'⟩:=wHK G'
 have e1:=wLR G er R (w:=7) (by omega) (by omega)
 have e2:=wLR G' er' R' (w:=7) (by omega) (by omega)
 have hr:=wPr h R R'
 have hp':=R'.perm
 rw [hl] at hp'
 obtain ⟨r1,r2,_⟩:=wBS hp'
 refine ⟨_,?_,e1,?_⟩
 ·simp only [nG,kh]
  omega
 ·rw [show (((7:Nat):Int))=7 from rfl] at e2
  rw [e2,hl]
  have:(nJ f.length).map (bx (mix f τ σ) 7 r')=(nJ f.length).map (bx f 7 r):=List.map_congr_left fun k hk=>by
   have hk:=nU.1 hk
   have hg:=r2 _ (wAb (l:=r') (k:=k) (by omega))
   unfold bx
   rw [wOU (by omega),hr,wFq _ (by omega)]
   rfl
  rw [this]
theorem wQT {f:List wAA} (G:wDT f) (x:Nat):man f x=f.countP (fun s=>decide (s.Nation=(x:Int))):=by
 refine (wIV (fun s:wAA=>s.Nation.toNat) f x).trans ?_
 refine np fun s hs=>?_
 have:=G.nat s hs
 simp only [decide_eq_true_iff]
 omega
def tn (τ:List Int) (x:Nat):Nat:=(gd τ x).toNat
theorem wKZ {f:List wAA} (G:wDT f) {τ σ:List Int} (h:σ.Perm (wCY f.length)) (ht:τ.Perm (wCY 31)) {x:Nat} (hx:x < 31):man (mix f τ σ) (tn τ x)=man f x:=by
 rw [wQT (wIZ G h ht),wQT G,(wIX h).countP_eq,kS]
 refine np fun s hs=>?_
 have hn:=G.nat s hs
 have h1:=wFM ht (k:=s.Nation.toNat) (by omega)
 have h2:=wFM ht (k:=x) (by omega)
 simp only [Function.comp]
 rw [decide_eq_true_iff,decide_eq_true_iff]
 show gd τ s.Nation.toNat=(((gd τ x).toNat:Nat):Int) ↔ s.Nation=(x:Int)
 constructor
 ·intro e
  have:=wPp ht (i:=s.Nation.toNat) (j:=x) (by omega) (by omega) (by omega)
  omega
 ·intro e
  rw [e,show ((x:Int)).toNat=x by omega]
  omega
theorem wOW {τ:List Int} (ht:τ.Perm (wCY 31)):((nJ 31).map (tn τ)).Perm (nJ 31):=by
 obtain ⟨t1,_,_⟩:=wBS ht
 have e1:(nJ 31).map (tn τ)=τ.map Int.toNat:=by
  refine List.ext_getElem (by simp [t1]) fun i h1 h2=>?_
  simp only [nI,kg,tn]
  rw [wBm (by simpa using h2)]
 have e2:(wCY 31).map Int.toNat=nJ 31:=by
  unfold wCY
  rw [nh]
  have:(Int.toNat ∘ fun (k:Nat)=>(k:Int))=id:=by funext k;simp
  rw [this,List.map_id]
 rw [e1,<- e2]
 exact ht.map _
theorem wJW {C j:Nat} {c:Nat->Nat}:nb C c j=(nJ C).countP (fun x=>decide (j <= c x)):=by
 rw [List.countP_eq_length_filter,wIU]
 exact wCk fun x _=>by simp
theorem wTS {f:List wAA} (G:wDT f) {τ σ:List Int} (h:σ.Perm (wCY f.length)) (ht:τ.Perm (wCY 31)) (j:Nat):nb 31 (man (mix f τ σ)) j=nb 31 (man f) j:=by
 rw [wJW,wJW,<- (wOW ht).countP_eq,kS]
 refine np fun x hx=>?_
 simp only [Function.comp]
 rw [wKZ G h ht (nU.1 hx)]
theorem wMB {f:List wAA} (G:wDT f) {τ σ:List Int} (h:σ.Perm (wCY f.length)) (ht:τ.Perm (wCY 31)):∃ a b d,wBn f=some (a,d,0)/\wBn (mix f τ σ)=some (b,d,0):=by
 have G':=wIZ G h ht
 obtain ⟨a,m,T⟩:=wQS G
 obtain ⟨a',m',T'⟩:=wQS G'
 have em:m=m':=by
  obtain ⟨x,hx,ex⟩:=T.hit
  obtain ⟨y,hy,ey⟩:=T'.hit
  have hs:∀ x,x < 31->tn τ x < 31:=fun x hx=>by
   have:=wFM ht (k:=x) hx
   unfold tn
   omega
  have h1:=T'.top (tn τ x) (hs x hx)
  rw [wKZ G h ht hx,ex] at h1
  obtain ⟨z,hz,ez⟩:=nL.1 ((wOW ht).mem_iff.2 (nU.2 hy))
  have hz:=nU.1 hz
  have h2:=T.top z hz
  rw [<- wKZ G h ht hz,ez,ey] at h2
  omega
 subst em
 obtain ⟨o,e1,_,_⟩:=wJU G T
 obtain ⟨o',e2,_,_⟩:=wJU G' T'
 have ed:dd (mix f τ σ) m=dd f m:=by
  unfold dd
  rw [wTS G h ht,wIY h]
 rw [ed] at e2
 exact ⟨_,_,_,e1,e2⟩
end Go.Proofs.YtglpalgiipahjaaGreat
namespace Go.Proofs.YtglpalgiipahjaaGreat
open Go.KL
def dbl (l:List Int):List Int:=l.map fun x=>2 * x
def wSA (r:wAD):wAD:=⟨r.Laps,r.Bibs,r.Times.map dbl⟩
theorem wKa {l:List Int} {t:Int}:2 * t ∈ dbl l ↔ t ∈ l:=by
 unfold dbl
 constructor
 ·intro h
  obtain ⟨x,hx,e⟩:=nL.1 h
  have:x=t:=by omega
  rwa [<- this]
 ·intro h
  exact nL.2 ⟨t,h,rfl⟩
theorem wHn (l:List Int) (t:Int):cn (dbl l) (2 * t)=cn l t:=by
 unfold cn dbl
 rw [kS]
 refine np fun x _=>?_
 simp only [Function.comp]
 rw [decide_eq_true_iff,decide_eq_true_iff]
 omega
theorem wEa {r:wAD} {i:Nat} (hi:i < r.Times.length):gd (wSA r).Times i=dbl (gd r.Times i):=wFq _ hi
def t2 (τ:Nat->Option Int) (i:Nat):Option Int:=(τ i).map fun s=>2 * s
theorem wKb {τ:Nat->Option Int} {i:Nat} {s:Int} (h:t2 τ i=some s):∃ u,τ i=some u/\s=2 * u:=by
 unfold t2 at h
 cases e:τ i with
 | none=>rw [e] at h;cases h
 | some u=>rw [e] at h;exact ⟨u,rfl,(nS h).symm⟩
theorem wLT {τ:Nat->Option Int} {i:Nat} {u:Int}:t2 τ i=some (2 * u) ↔ τ i=some u:=by
 constructor
 ·intro h
  obtain ⟨v,e,h2⟩:=wKb h
  rw [e]
  have:u=v:=by omega
  rw [this]
 ·intro h
  unfold t2
  rw [h]
  rfl
theorem nbf2 {τ:Nat->Option Int} {i:Nat} {u:Int}:nbf (t2 τ) i (2 * u) ↔ nbf τ i u:=by
 constructor
 ·intro h s hs
  have:=h (2 * s) (wLT.2 hs)
  omega
 ·intro h s hs
  obtain ⟨v,e,rfl⟩:=wKb hs
  have:=h v e
  omega
theorem lap2 {r:wAD} (ht:r.Times.length=r.Bibs.length) {τ:Nat->Option Int} {i j:Nat} (hi:i < r.Bibs.length) {u:Int}:lap (wSA r) (t2 τ) i (2 * u) j ↔ lap r τ i u j:=by
 unfold lap
 constructor
 ·rintro ⟨h1,h2,h3,h4⟩
  have h1':j < r.Bibs.length:=h1
  rw [wEa (by omega)] at h3 h4
  rw [wEa (by omega),wHn,wHn] at h4
  exact ⟨h1,nbf2.1 h2,wKa.1 h3,h4⟩
 ·rintro ⟨h1,h2,h3,h4⟩
  refine ⟨h1,nbf2.2 h2,?_,?_⟩
  ·rw [wEa (by omega)];exact wKa.2 h3
  ·rw [wEa (by omega),wEa (by omega),wHn,wHn];exact h4
def o2 (o:wAE):wAE:=⟨o.Bib,o.Done,2 * o.Time,o.By⟩
theorem wMC {r:wAD} (G:wGG r) {A:List wAE} {τ:Nat->Option Int} (F:wEZ r A τ):wEZ (wSA r) (A.map o2) (t2 τ):=by
 have ht:=G.t
 refine ⟨fun i hi j hj t htj hn=>?_,fun i s hi hs=>?_,⟨fun o ho=>?_,fun i hi hn=>?_,?_⟩,?_⟩
 ·have hi':i < r.Bibs.length:=hi
  have hj':j < r.Bibs.length:=hj
  rw [wEa (by omega)] at htj
  obtain ⟨u,hu,rfl⟩:=nL.1 htj
  have:=F.ex i hi j hj u hu (nbf2.1 hn)
  rw [wLT,this]
  exact ⟨fun ⟨k,hk⟩=>⟨k,(lap2 ht hi).2 hk⟩,fun ⟨k,hk⟩=>⟨k,(lap2 ht hi).1 hk⟩⟩
 ·obtain ⟨u,e,rfl⟩:=wKb hs
  obtain ⟨l,hl,hu⟩:=F.in_ i u hi e
  exact ⟨dbl l,nL.2 ⟨l,hl,rfl⟩,wKa.2 hu⟩
 ·obtain ⟨q,hq,rfl⟩:=nL.1 ho
  obtain ⟨i,hi,E⟩:=F.ents.of q hq
  refine ⟨i,hi,E.bib,wLT.2 E.time,?_,?_⟩
  ·rw [wEa (by omega)]
   show q.Done=_
   rw [E.done]
   show _=((cn (dbl _) (2 * q.Time):Nat):Int)
   rw [wHn]
  ·obtain ⟨j,e,hl,hmin⟩:=E.by_
   exact ⟨j,e,(lap2 ht hi).2 hl,fun k hk=>hmin k ((lap2 ht hi).1 hk)⟩
 ·obtain ⟨o,ho,e⟩:=F.ents.all i hi (fun c=>hn (by unfold t2;rw [c];rfl))
  exact ⟨o2 o,nL.2 ⟨o,ho,rfl⟩,e⟩
 ·rw [nh]
  exact F.ents.one
 ·rw [nX]
  refine F.ord.imp fun {a b} h=>?_
  rcases h with h | ⟨h1,h2⟩
  ·exact .inl (by simp only [o2];omega)
  ·exact .inr ⟨by simp only [o2];omega,h2⟩
theorem wOX {r:wAD} (G:wHU r) (h:∀ l ∈ r.Times,∀ x ∈ l,x <= 1000):wHU (wSA r):=by
 have hm:∀ l ∈ (wSA r).Times,∃ k ∈ r.Times,l=dbl k:=fun l hl=>by
  obtain ⟨k,hk,e⟩:=nL.1 hl
  exact ⟨k,hk,e.symm⟩
 refine ⟨⟨G.g.n,?_,fun l hl=>?_,fun l hl=>?_,fun l hl x hx=>?_,G.g.one⟩,G.laps,fun l hl=>?_,G.bib⟩
 ·show (r.Times.map dbl).length=_
  rw [nG]
  exact G.g.t
 ·obtain ⟨k,hk,rfl⟩:=hm l hl
  unfold dbl
  rw [nG]
  exact G.g.len k hk
 ·obtain ⟨k,hk,rfl⟩:=hm l hl
  unfold dbl
  rw [nX]
  exact (G.g.inc k hk).imp fun h=>by omega
 ·obtain ⟨k,hk,rfl⟩:=hm l hl
  obtain ⟨y,hy,rfl⟩:=nL.1 hx
  have:=h k hk y hy
  have:=G.g.pos k hk y hy
  omega
 ·obtain ⟨k,hk,rfl⟩:=hm l hl
  unfold dbl
  rw [nG]
  exact G.le k hk
theorem wJX {r:wAD} (G:wHU r) (h:∀ l ∈ r.Times,∀ x ∈ l,x <= 1000):∃ D,D.length <= 60/\wBD r=some (D,0)/\wBD (wSA r)=some (D,0):=by
 have G':=wOX G h
 have hn:=G.g.n
 have ht:=G.g.t
 obtain ⟨p,A,τ,e1,R⟩:=wLJ G.g
 obtain ⟨p',A',τ',e2,R'⟩:=wLJ G'.g
 have ed:p'.done=p.done:=by
  have dl':p'.done.length=r.Bibs.length:=R'.dl
  have dl:=R.dl
  refine wJM (by omega) fun i hi=>?_
  have hi':i < r.Bibs.length:=by omega
  have hτ:=wFd G'.g (wMC G.g R.found) R'.found (i:=i) hi'
  have hg:=wEa (r:=r) (i:=i) (by omega)
  rcases R.done i hi' with ⟨a1,a2⟩ | ⟨s,a1,a2⟩
  ·have c:τ' i=none:=by rw [<- hτ];unfold t2;rw [a1];rfl
   rcases R'.done i hi' with ⟨b1,b2⟩ | ⟨s,b1,b2⟩
   ·rw [b2,hg,a2]
    unfold dbl
    rw [nG]
   ·rw [c] at b1;cases b1
  ·have c:τ' i=some (2 * s):=by rw [<- hτ];exact wLT.2 a1
   rcases R'.done i hi' with ⟨b1,b2⟩ | ⟨s',b1,b2⟩
   ·rw [c] at b1;cases b1
   ·rw [c] at b1
    rw [b2,<- nS b1,hg,wHn,a2]
 refine ⟨p.done,by rw [R.dl];exact hn,wHm G e1,?_⟩
 rw [wHm G' e2,ed]
def wLU (r:wAD) (σ:List Int):wAD:=⟨r.Laps,σ.map fun i=>gd r.Bibs i.toNat,σ.map fun i=>gd r.Times i.toNat⟩
section
variable {r:wAD} {σ:List Int} (h:σ.Perm (wCY r.Bibs.length))
include h
theorem wIa:(wLU r σ).Bibs.length=r.Bibs.length:=by
 show (σ.map _).length=_
 rw [nG,(wBS h).1]
theorem wDg {i:Nat} (hi:i < r.Bibs.length):tn σ i < r.Bibs.length/\gd (wLU r σ).Bibs i=gd r.Bibs (tn σ i)/\gd (wLU r σ).Times i=gd r.Times (tn σ i):=by
 have hg:=wFM h hi
 have hl:=(wBS h).1
 exact ⟨by unfold tn;omega,wFq _ (by omega),wFq _ (by omega)⟩
theorem wIb {k:Nat} (hk:k < r.Bibs.length):∃ i,i < r.Bibs.length/\tn σ i=k:=by
 have hl:=(wBS h).1
 have:(k:Int) ∈ σ:=h.mem_iff.2 (nL.2 ⟨k,nU.2 hk,rfl⟩)
 obtain ⟨i,hi,e⟩:=wJP this
 exact ⟨i,by omega,by unfold tn;omega⟩
theorem lapm {τ:Nat->Option Int} {i j:Nat} (hi:i < r.Bibs.length) (hj:j < r.Bibs.length) {t:Int}:lap (wLU r σ) (fun i=>τ (tn σ i)) i t j ↔ lap r τ (tn σ i) t (tn σ j):=by
 obtain ⟨a1,a2,a3⟩:=wDg h hi
 obtain ⟨b1,b2,b3⟩:=wDg h hj
 unfold lap
 rw [wIa h,a3,b3]
 exact ⟨fun ⟨_,c⟩=>⟨b1,c⟩,fun ⟨_,c⟩=>⟨hj,c⟩⟩
theorem wMD (G:wGG r) {A:List wAE} {τ:Nat->Option Int} (F:wEZ r A τ):wEZ (wLU r σ) A (fun i=>τ (tn σ i)):=by
 have hb:=wIa h
 have hex:∀ i t,i < r.Bibs.length->((∃ k,lap (wLU r σ) (fun i=>τ (tn σ i)) i t k) ↔ ∃ k,lap r τ (tn σ i) t k):=fun i t hi=>by
  constructor
  ·rintro ⟨k,hk⟩
   have hk1:k < r.Bibs.length:=by rw [<- hb];exact hk.1
   exact ⟨tn σ k,(lapm h hi hk1).1 hk⟩
  ·rintro ⟨k,hk⟩
   obtain ⟨k',h1,rfl⟩:=wIb h hk.1
   exact ⟨k',(lapm h hi h1).2 hk⟩
 refine ⟨fun i hi j hj t htj hn=>?_,fun i s hi hs=>?_,⟨fun o ho=>?_,fun i hi hn=>?_,F.ents.one⟩,F.ord⟩
 ·rw [hb] at hi hj
  obtain ⟨a1,a2,a3⟩:=wDg h hi
  obtain ⟨b1,b2,b3⟩:=wDg h hj
  rw [b3] at htj
  rw [hex i t hi]
  exact F.ex _ a1 _ b1 t htj hn
 ·rw [hb] at hi
  obtain ⟨a1,a2,a3⟩:=wDg h hi
  obtain ⟨l,hl,hs2⟩:=F.in_ _ s a1 hs
  obtain ⟨k,hk,ek⟩:=wJP hl
  have ht:=G.t
  obtain ⟨j,hj,ej⟩:=wIb h (k:=k) (by omega)
  obtain ⟨b1,b2,b3⟩:=wDg h hj
  refine ⟨l,?_,hs2⟩
  rw [<- ek,<- ej,<- b3]
  refine wAb ?_
  show j < (σ.map _).length
  rw [nG,(wBS h).1]
  exact hj
 ·obtain ⟨i,hi,E⟩:=F.ents.of o ho
  obtain ⟨j,hj,rfl⟩:=wIb h hi
  obtain ⟨b1,b2,b3⟩:=wDg h hj
  refine ⟨j,by rw [hb];exact hj,by rw [b2];exact E.bib,E.time,by rw [b3];exact E.done,?_⟩
  obtain ⟨k,e,hl,hmin⟩:=E.by_
  obtain ⟨k',hk',rfl⟩:=wIb h hl.1
  obtain ⟨c1,c2,c3⟩:=wDg h hk'
  refine ⟨k',by rw [c2];exact e,(lapm h hj hk').2 hl,fun q hq=>?_⟩
  have hq1:q < r.Bibs.length:=by rw [<- hb];exact hq.1
  rw [c2,(wDg h hq1).2.1]
  exact hmin _ ((lapm h hj hq1).1 hq)
 ·rw [hb] at hi
  obtain ⟨a1,a2,a3⟩:=wDg h hi
  obtain ⟨o,ho,e⟩:=F.ents.all _ a1 hn
  exact ⟨o,ho,by rw [a2];exact e⟩
theorem wOY (G:wHU r):wHU (wLU r σ):=by
 have hl:=(wBS h).1
 have ht:=G.g.t
 have pb:(wLU r σ).Bibs.Perm r.Bibs:=wGS (l:=r.Bibs) (p:=σ) h
 have pt:(wLU r σ).Times.Perm r.Times:=wGS (l:=r.Times) (p:=σ) (by rw [ht];exact h)
 refine ⟨⟨by rw [wIa h];exact G.g.n,by rw [pt.length_eq,pb.length_eq];exact ht,fun l hl=>G.g.len l (pt.mem_iff.1 hl),fun l hl=>G.g.inc l (pt.mem_iff.1 hl),fun l hl=>G.g.pos l (pt.mem_iff.1 hl),pb.nodup_iff.2 G.g.one⟩,G.laps,fun l hl=>G.le l (pt.mem_iff.1 hl),fun b hb=>G.bib b (pb.mem_iff.1 hb)⟩
theorem wKc (G:wHU r):∃ A,A.length <= 100000/\wBG r=some (A,0)/\wBG (wLU r σ)=some (A,0):=by
 have G':=wOY h G
 obtain ⟨p,A,τ,e1,R⟩:=wLJ G.g
 obtain ⟨p',A',τ',e2,R'⟩:=wLJ G'.g
 have:=wOH G'.g (wMD h G.g R.found) R'.found
 subst this
 exact ⟨A,R.al,wJQ G e1,wJQ G' e2⟩
end
theorem wKd {α:Type} [Inhabited α] {l:List α} {i k:Nat} {x:α} (hi:i < l.length) (hk:k < l.length):gd (l.set i x) k=if k=i then x else gd l k:=by
 rw [wBm (by simpa using hk),List.getElem_set]
 by_cases e:i=k
 ·rw [if_pos e,if_pos e.symm]
 ·rw [if_neg e,if_neg (Ne.symm e),wBm hk]
def upT (T:List (List Int)) (k:Nat):List (List Int):=(nJ T.length).map fun i=>if i < k then dbl (gd T i) else gd T i
theorem wDh (T:List (List Int)) (k:Nat):(upT T k).length=T.length:=by simp [upT]
theorem wJY {T:List (List Int)} {k i:Nat} (hi:i < T.length):gd (upT T k) i=if i < k then dbl (gd T i) else gd T i:=by
 rw [wBm (by rw [wDh];exact hi)]
 simp [upT]
theorem wOZ {T:List (List Int)} (hT:T.length <= 60) (hl:∀ l ∈ T,l.length <= 20) (hx:∀ l ∈ T,∀ x ∈ l,0 <= x/\x <= 1000):wBL 0 (↑T.length:Int) (fun k2605 l2604 =>
                (chk (↑k2605:Int) l2604.length).bind fun _ =>
                (wBL 0 (↑((gd l2604 k2605).length):Int) (fun k2653 l2652 =>
                  (chk (↑k2605:Int) l2652.length).bind fun _ =>
                  (chk (↑k2653:Int) (gd l2652 k2605).length).bind fun _ =>
                  some (nN l2652 k2605 (nN (gd l2652 k2605) k2653 (w64 ((gd (gd l2652 k2605) k2653) * 2))))) l2604).bind fun y2658 =>
                some y2658) T=some (T.map dbl):=by
  have h0:upT T 0=T:=wJM (wDh T 0) fun i hi=>by
    rw [wDh] at hi
    rw [wJY hi,if_neg (by omega)]
  have hN:upT T T.length=T.map dbl:=wJM (by rw [wDh,nG]) fun i hi=>by
    rw [wDh] at hi
    rw [wJY hi,if_pos hi,wFq _ hi]
  rw [<- hN]
  refine wDB (upT T) h0 (by omega) fun k hk=>?_
  have hrow:=hl _ (wAb hk)
  have hkl:k < (upT T k).length:=by rw [wDh];exact hk
  rw [wBy (by omega) (by omega),nA]
  have hgk:gd (upT T k) k=gd T k:=by rw [wJY hk,if_neg (by omega)]
  rw [hgk]
  have key:=wDB (n:=(gd T k).length) (s0:=upT T k) (body:=fun (k2653:Nat) (l2652:List (List Int)) =>
                  (chk (↑k:Int) l2652.length).bind fun _ =>
                  (chk (↑k2653:Int) (gd l2652 k).length).bind fun _ =>
                  some (nN l2652 k (nN (gd l2652 k) k2653 (w64 ((gd (gd l2652 k) k2653) * 2))))) (fun j=>(upT T k).set k (dbl ((gd T k).take j) ++ (gd T k).drop j)) (by
      refine wJM (by simp) fun i hi=>?_
      have hi':i < (upT T k).length:=by simpa using hi
      rw [wKd hkl hi']
      by_cases e:i=k
      · rw [if_pos e,e,hgk];rfl
      · rw [if_neg e]) (by omega) (fun j hj=>by
      have hls:((upT T k).set k (dbl ((gd T k).take j) ++ (gd T k).drop j)).length=T.length:=by rw [kR,wDh]
      have hgs:gd ((upT T k).set k (dbl ((gd T k).take j) ++ (gd T k).drop j)) k=dbl ((gd T k).take j) ++ (gd T k).drop j:=by rw [wKd hkl hkl,if_pos rfl]
      have hdl:(dbl ((gd T k).take j)).length=j:=by
        unfold dbl
        rw [nG,kG]
        omega
      have hx':=hx _ (wAb hk) _ (wAb hj)
      rw [hls,wBy (by omega) (by omega),nA,hgs,wBy (by omega) (by rw [nQ,hdl,List.length_drop];omega),nA,List.set_set]
      have e1:dbl ((gd T k).take j) ++ (gd T k).drop j=dbl ((gd T k).take j) ++ gd (gd T k) j :: (gd T k).drop (j + 1):=by rw [wIM hj]
      have e2:gd (dbl ((gd T k).take j) ++ gd (gd T k) j :: (gd T k).drop (j + 1)) j=gd (gd T k) j:=by
        conv=>lhs;rw [<- hdl]
        rw [hdl]
        have:=wGQ (dbl ((gd T k).take j)) ((gd T k).drop (j + 1)) (gd (gd T k) j)
        rwa [hdl] at this
      have e3:(dbl ((gd T k).take j) ++ gd (gd T k) j :: (gd T k).drop (j + 1)).set j (2 * gd (gd T k) j)=dbl ((gd T k).take (j + 1)) ++ (gd T k).drop (j + 1):=by
        rw [kW _ _ (by omega),hdl,kc,wDS hj]
        unfold dbl
        rw [nP,nk]
        rfl
      rw [e1,e2,wAU (by omega) (by omega),Int.mul_comm,e3])
  rw [key,nA,nM,List.drop_length,nu]
  congr 1
  refine wJM (by rw [kR,wDh,wDh]) fun i hi=>?_
  have hi':i < (upT T k).length:=by simpa using hi
  have hi2:i < T.length:=by rwa [wDh] at hi'
  rw [wKd hkl hi',wJY (k:=k) hi2,wJY (k:=k + 1) hi2]
  by_cases e:i=k
  · rw [if_pos e,if_pos (by omega),e]
  · rw [if_neg e]
    by_cases c:i < k
    · rw [if_pos c,if_pos (by omega)]
    · rw [if_neg c,if_neg (by omega)]
theorem wOa {α:Type} [Inhabited α] {l:List α} {i:Int} (h0:0 <= i) (h1:i < l.length):idx l i=some (gd l i.toNat):=by
 obtain ⟨k,rfl⟩:=kP h0
 rw [wBf (by omega)]
 rfl
theorem wOb {r:wAD} (ht:r.Times.length=r.Bibs.length) (hn:r.Bibs.length <= 60) {σ:List Int} (h:σ.Perm (wCY r.Bibs.length)):wBL 0 (↑σ.length:Int) (fun k2800 (l2791,l2795) =>
                (chk (↑k2800:Int) σ.length).bind fun _ =>
                (idx r.Bibs (gd σ k2800)).bind fun x2834 =>
                (app 8 l2791 [x2834]).bind fun x2849 =>
                (idx r.Times (gd σ k2800)).bind fun x2857 =>
                (app 24 l2795 [x2857]).bind fun x2878 =>
                some (x2849,x2878)) ([],[])=some ((wLU r σ).Bibs,(wLU r σ).Times):=by
  have hl:=(wBS h).1
  have:=wDB (n:=σ.length) (s0:=(([]:List Int),([]:List (List Int)))) (body:=fun (k2800:Nat) (x:List Int × List (List Int))=>match x with
    | (l2791,l2795) =>
                (chk (↑k2800:Int) σ.length).bind fun _ =>
                (idx r.Bibs (gd σ k2800)).bind fun x2834 =>
                (app 8 l2791 [x2834]).bind fun x2849 =>
                (idx r.Times (gd σ k2800)).bind fun x2857 =>
                (app 24 l2795 [x2857]).bind fun x2878 =>
                some (x2849,x2878)) (fun k=>((σ.take k).map fun i=>gd r.Bibs i.toNat,(σ.take k).map fun i=>gd r.Times i.toNat)) rfl (by omega) (fun k hk=>by
      have hg:=wFM h (k:=k) (by omega)
      simp only
      rw [wBy (by omega) (by omega),nA,wOa hg.1 hg.2,nA,wCm (by simp;omega),nA,wOa hg.1 (by omega),nA,wCm (by simp;omega),nA,wDS hk,nP,nP]
      rfl)
  rw [this,nM]
  rfl
end Go.Proofs.YtglpalgiipahjaaGreat
namespace Go.Proofs.YtglpalgiipahjaaGreat
open Go.KL
theorem wTT (l:List Int) (hl:l.length <= 1000):wBN l l=some true:=by
 unfold wBN
 exact wFr (by omega)
theorem wTU (l:List wAE) (hl:l.length <= 100000):wAq l l=some true:=by
 unfold wAq
 exact wFr (by omega)
theorem wTV (l:List wAt) (hl:l.length <= 1000):wAo l l=some true:=by
 unfold wAo
 exact wFr (by omega)
theorem wQU {l:List Int} (hl:l.length <= 1000):wAm l=some l:=by
 unfold wAm
 rw [wCm (by simp;omega)];rfl
theorem wTW {T:List (List Int)} (hT:T.length <= 60) (hl:∀ l ∈ T,l.length <= 20):wBC T=some T:=by
 unfold wBC
 have:=wDB (n:=T.length) (s0:=([]:List (List Int))) (body:=fun (k24:Nat) (l18:List (List Int)) =>
  (idx T (↑k24:Int)).bind fun x50 =>
  (wAm x50).bind fun x63 =>
  (app 24 l18 [x63]).bind fun x88 =>
  some x88) (fun k=>T.take k) rfl (by omega) (fun k hk=>by
   have:=hl _ (wAb hk)
   rw [wBf hk,nA,wQU (by omega),nA,wCm (by simp;omega),nA,wDS hk])
 rw [this,nM]
 rfl
theorem wOc (p0 p1:List Int):wBU p0 p1=some true:=by
 unfold wBU wCL
 rw [nA,nA]
 obtain ⟨f,d1,e1,G,hf,_,a0,a1⟩:=wRp ⟨p0,0,17⟩ rfl (u:=20) (by omega) (by omega)
 have hf2:=G.l2
 rw [e1,nA]
 simp only
 obtain ⟨τ,q2,e2,b0,b1,ht⟩:=wEg (⟨p1,0,17⟩:wAC) 31 (by simp) (by simp) (by omega)
 rw [show ((31:Nat):Int)=31 from rfl] at e2
 rw [e2,nA]
 simp only at b1 ⊢
 obtain ⟨σ,q3,e3,c0,c1,hs⟩:=wEg q2 f.length b0 (by omega) (by omega)
 rw [e3,nA]
 simp only
 rw [wPq G hs ht,nA]
 obtain ⟨bx,hbx,e4,e5⟩:=wOV G hs ht
 obtain ⟨o1,o2,d,e6,e7⟩:=wMB G hs ht
 rw [e4,nA]
 simp only
 rw [e5,nA]
 simp only
 rw [e6,nA]
 simp only
 rw [e7,nA]
 simp only
 rw [if_pos trivial,if_pos trivial,if_pos trivial,if_pos trivial,wTV bx (by omega),nA,if_pos rfl,if_pos trivial]
 obtain ⟨r,d2,e8,W,hx⟩:=wOG (d:=d1) (M:=200) (by omega) (by omega) ⟨a0,a1⟩ (u:=10) (by omega) (by omega)
 have hn:=W.g.n
 have htl:=W.g.t
 rw [e8,nA]
 simp only
 unfold wBZ
 rw [wQU (by omega),nA,wTW (by omega) W.g.len,nA,nA,nA]
 simp only
 rw [wOZ (by omega) W.g.len (fun l hl x h=>⟨(W.g.pos l hl x h).1,hx l hl x h⟩),nA]
 obtain ⟨ρ,q4,e9,g0,g1,hr⟩:=wEg q3 r.Bibs.length c0 (by omega) (by omega)
 rw [e9,nA]
 simp only
 obtain ⟨D,hD,k1,k2⟩:=wJX W hx
 obtain ⟨A,hA,k3,k4⟩:=wKc hr W
 have ml:=wOb htl hn hr
 have k1':wBD (⟨r.Laps,r.Bibs,r.Times⟩:wAD)=some (D,0):=k1
 have k2':wBD (⟨r.Laps,r.Bibs,r.Times.map dbl⟩:wAD)=some (D,0):=k2
 have k3':wBG (⟨r.Laps,r.Bibs,r.Times⟩:wAD)=some (A,0):=k3
 have k4':wBG (⟨r.Laps,(wLU r ρ).Bibs,(wLU r ρ).Times⟩:wAD)=some (A,0):=k4
 simp only at ml
 rw [ml,nA]
 simp only
 rw [k1',nA]
 simp only
 rw [k2',nA]
 simp only
 rw [k3',nA]
 simp only
 rw [k4',nA]
 simp only
 rw [if_pos trivial,if_pos trivial,if_pos trivial,if_pos trivial,wTT D (by omega),nA,if_pos rfl,wTU A hA,nA,if_pos rfl]
 rfl
end Go.Proofs.YtglpalgiipahjaaGreat
