import Derived.Test.YtkghaiefcjgfkaaGreatY0
import Derived.Lib.AppendZerosOnto
set_option linter.all false
open Option renaming bind_some->hH
open List renaming length_append->hJ,append_assoc->nA,length_take->nB,set->nE,take_append_drop->nG,length_singleton->nH,length_cons->nI,replicate->nK,length_drop->nM,getElem?_append_left->nN,length_nil->nO,getElem_of_mem->nP,pairwise_append->nQ,range->nT,getElem?_append_right->nU,getD_eq_getElem?_getD->nV,eq_nil_of_length_eq_zero->nW,getElem?_eq_getElem->nX,mem_singleton->nY,length_set->nZ,mem_append->na,mem_cons->nc,flatMap->nf,getElem?_take->ng,mem_append_left->nj,mem_map->nk,take_length->nm,take_of_length_le->no,set_append_right->np,mem_append_right->nq,append_nil->nv,drop_eq_getElem_cons->nw,map_append->ny,getElem?_drop->nz,pairwise_cons->kA,getElem_drop->kB,getElem_take->kC,all_eq_true->kD,cons_append->kE,getElem_map->kF,getElem?_eq_none->kG,mem_of_mem_take->kI,mem_cons_of_mem->kJ,mem_range->kK,perm_append_singleton->kM,flatMap_cons->kO,ext_getElem?->kP,nodup_append->kQ,pairwise_iff_getElem->kR,ext_getElem->kS,length_map->kX,drop_eq_nil_of_le->ka,sum_replicate_nat->kb,length_eq_one_iff->kc,mem_of_getElem?->ke,range_eq_range'->kf,length_flatMap->kg,map_congr_left->kh,getElem?_range->ki,getElem?_map->ko
open Int renaming toNat_natCast->nJ,toNat_of_nonneg->nR,sub_add_cancel->nn,tmod_eq_emod_of_nonneg->nu,le_refl->kL,add_comm->kU,eq_ofNat_of_zero_le->kW,emod_nonneg->kY,lt_or_le->kj,tmod_lt_of_pos->kn
open Nat renaming le_refl->nL,zero_add->nb,min_eq_left->ni,min_eq_right->nl,mul_le_mul_right->nr,sub_self->kT,le_of_lt->kV,one_mul->kZ,lt_or_ge->kl,add_sub_cancel->km,add_mul->kr
open Bool renaming false_eq_true->nS,and_eq_true->nt
open Option.some renaming inj->nh
open Array renaming replicate->kH
open List.Perm renaming append_left->kd,refl->ku
open List.Pairwise renaming nil->kq
open Classical renaming em->kv
namespace Go.Proofs.YtkghaiefcjgfkaaGreat
open Go.KL
structure wAP where
 bytes:List Int
 next:Int
 state:Int
deriving DecidableEq,Inhabited,Repr
structure wAK where
 Bib:Int
 Time:Int
deriving DecidableEq,Inhabited,Repr
structure wAX where
 Unit:Int
 Limit:Int
deriving DecidableEq,Inhabited,Repr
structure wBR where
 Bib:Int
 Time:Int
 Gate:Int
deriving DecidableEq,Inhabited,Repr
structure wAF where
 Lo:Int
 Hi:Int
deriving DecidableEq,Inhabited,Repr
structure wAO where
 Offset:wAF
 Error:Int
deriving DecidableEq,Inhabited,Repr
structure wAJ where
 Skier:Int
 Mat:Int
 Clock:Int
 Time:Int
deriving DecidableEq,Inhabited,Repr
structure wAD where
 Starts:List Int
 Splits:List wAF
 Clocks:List wAO
 Readings:List wAJ
deriving DecidableEq,Inhabited,Repr
structure wAM where
 Skier:Int
 Mat:Int
deriving DecidableEq,Inhabited,Repr
structure wAI where
 skier:Int
 mat:Int
deriving DecidableEq,Inhabited,Repr
structure wAH where
 Kind:Int
 Skier:Int
 Index:Int
 Up:Bool
deriving DecidableEq,Inhabited,Repr
structure wAa where
 step:wAH
 from_:Int
 to_:Int
 count:Int
deriving DecidableEq,Inhabited,Repr
structure wAb where
 Race:wAD
 number:List (wAI × Int)
 edges:List wAa
structure wDJ where
 far:List Int
 by_:List Int
deriving DecidableEq,Inhabited,Repr
def wCM (p0:List Int):Option (wAP) :=
 some (⟨p0,0,17⟩:wAP)
def wAh (p0:wAP) (p1:Int):Option (Int × wAP) :=
 if p1 <= 1 then
  some (0,p0)
 else
  if (↑p0.bytes.length:Int)=0 then
   some (0,p0)
  else
   (rem p0.next (↑p0.bytes.length:Int)).bind fun x10 =>
   (idx p0.bytes x10).bind fun x13 =>
   (quo p0.next (↑p0.bytes.length:Int)).bind fun x20 =>
   (rem (wEp ((wEp ((wEp ((wEp (p0.state * 45)) + (wEp x13))) + (wEp (77 * (wEp x20))))) + 1)) 65519).bind fun x32 =>
   if (wEp x20)=0 then
    if p1 <= 256 then
     (rem (w64 (wEp x13)) p1).bind fun x42 =>
     some (x42,(⟨p0.bytes,w64 (p0.next + 1),x32⟩:wAP))
    else
     (rem (w64 (wEp ((wEp (x32 * 256)) + (wEp x13)))) p1).bind fun x46 =>
     some (x46,(⟨p0.bytes,w64 (p0.next + 1),x32⟩:wAP))
   else
    (rem (w64 (wEp ((wEp (x32 * 256)) + (wEp x13)))) p1).bind fun x50 =>
    some (x50,(⟨p0.bytes,w64 (p0.next + 1),x32⟩:wAP))
def wAZ (p0:wAP) (p1:Int) (p2:Int):Option (Int × wAP) :=
 (wAh p0 (w64 ((w64 (p2 - p1)) + 1))).bind fun (x2,x3) =>
 some (w64 (p1 + x2),x3)
def wCN (p0:Int) (p1:Int):Option (Int) :=
 if p1 <= 0 then
  some 0
 else
  (rem p0 p1).bind fun x4 =>
  (rem (w64 (x4 + p1)) p1).bind fun x7 =>
  some x7
def wBJ (p0:List wAK) (p1:(wAK->Option Bool)):Option (Bool) :=
 jn (wFD 0 (↑p0.length:Int) (fun k2 _ =>
  (idx p0 (↑k2:Int)).bind fun x22 =>
  (p1 x22).bind fun x37 =>
  if x37=true then
   some (.inl ())
  else
   esc (some false)) ()) fun _ =>
 some true
def wDK (p0:Int) (p1:Int) (p2:Int):Option (Bool) :=
 if p1 <= p0 then
  some (decide (p0 <= p2))
 else
  some false
def wBK (p0:wAK):Option (Bool) :=
 (wDK p0.Bib 1 999).bind fun x5 =>
 if x5=true then
  (wDK p0.Time 0 360000).bind fun x17 =>
  some x17
 else
  some false
def wDL (p0:List Int):Option (Bool) :=
 jn (wFD 0 (↑p0.length:Int) (fun k20 l17 =>
  (idx p0 (↑k20:Int)).bind fun x41 =>
  if (wAw l17 x41 false)=true then
   esc (some true)
  else
   some (.inl (wFN l17 x41 true))) ([]:List (Int × Bool))) fun y68 =>
 some false
def wCm (p0:List wAK) (p1:wAX):Option (Int) :=
 (wBy 0 (↑p0.length:Int) (fun k22 l18 =>
  (idx p0 (↑k22:Int)).bind fun x47 =>
  (app 8 l18 [x47.Bib]).bind fun x67 =>
  some x67) []).bind fun y27 =>
 if 60 < (↑p0.length:Int) then
  some 2
 else
  (wBJ p0 wBK).bind fun x101 =>
  if x101=true then
   (wDK p1.Unit 1 600).bind fun x113 =>
   if x113=true then
    (wDK p1.Limit 0 360000).bind fun x125 =>
    if x125=true then
     (wDL y27).bind fun x142 =>
     if x142=true then
      some 5
     else
      some 0
    else
     some 3
   else
    some 3
  else
   some 3
def wCV (p0:List wAK) (p1:wAX):Option ((List Int) × Int) :=
 (wCm p0 p1).bind fun x5 =>
 if x5=0 then
  (wBy 0 (↑p0.length:Int) (fun k23 x22 =>
   (idx p0 (↑k23:Int)).bind fun x46 =>
   some (min x22 x46.Time)) 360000).bind fun y28 =>
  (wBy 0 (↑p0.length:Int) (fun k94 l90 =>
   (idx p0 (↑k94:Int)).bind fun x119 =>
   (rem (w64 (x119.Time - y28)) p1.Unit).bind fun x138 =>
   (app 8 l90 [min (w64 ((w64 (x119.Time - y28)) - x138)) p1.Limit]).bind fun x146 =>
   some x146) []).bind fun y99 =>
  some (y99,0)
 else
  some ([],x5)
def wCn (p0:Int):Option (Bool) :=
 some (decide (¬ (p0=p0)))
def wBp (p0:Int) (p1:Int):Option (Int) :=
 (wCn p0).bind fun x1 =>
 (wCn p1).bind fun x11 =>
 if x1=true then
  if x11=true then
   some 0
  else
   some (-1)
 else
  if x11=true then
   some 1
  else
   if p0 < p1 then
    some (-1)
   else
    if p1 < p0 then
     some 1
    else
     some 0
def wDh (p0:List Int):Option (Int) :=
 jn (wFD 0 (↑p0.length:Int) (fun k2 _ =>
  (idx p0 (↑k2:Int)).bind fun x22 =>
  if x22=0 then
   some (.inl ())
  else
   esc (some x22)) ()) fun _ =>
 some 0
def wBL (p0:Int) (p1:Int) (p2:List Int) (p3:List wAK):Option (Int) :=
 (idx p2 p0).bind fun x3 =>
 (idx p2 p1).bind fun x10 =>
 (idx p3 p0).bind fun x17 =>
 (idx p3 p1).bind fun x24 =>
 (wBp x3 x10).bind fun x31 =>
 (wBp x17.Time x24.Time).bind fun x41 =>
 (wDh [x31,x41]).bind fun x61 =>
 some x61
def wAU (p0:List Int) (p1:Int) (p2:Int) (p3:((Int × Int)->Option Int)):Option ((List Int)) :=
 iter (fun (l8,x9) =>
  if x9 < p2 then
   iter (fun (l34,x35) =>
    if p1 < x35 then
     (chk x35 l34.length).bind fun _ =>
     (chk (w64 (x35 - 1)) l34.length).bind fun _ =>
     (p3 ((gd l34 x35.toNat),(gd l34 (w64 (x35 - 1)).toNat))).bind fun x65 =>
     if x65 < 0 then
      (chk (w64 (x35 - 1)) (nE l34 x35.toNat (gd l34 (w64 (x35 - 1)).toNat)).length).bind fun _ =>
      some (.inl ((nE (nE l34 x35.toNat (gd l34 (w64 (x35 - 1)).toNat)) (w64 (x35 - 1)).toNat (gd l34 x35.toNat)),w64 (x35 - 1)))
     else
      esc (some (.inl (l34,w64 (x9 + 1))))
    else
     esc (some (.inl (l34,w64 (x9 + 1))))) big (l8,x9)
  else
   esc (some l8)) big (p0,w64 (p1 + 1))
def wAQ (p0:List Int) (p1:Int) (p2:Int) (p3:Int) (p4:((Int × Int)->Option Int)):Option ((List Int)) :=
 (wBy 0 p3 (fun k8 l7 =>
  (chk (w64 (p2 + (↑k8:Int))) l7.length).bind fun _ =>
  (chk (w64 (p1 + (↑k8:Int))) l7.length).bind fun _ =>
  (chk (w64 (p2 + (↑k8:Int))) (nE l7 (w64 (p1 + (↑k8:Int))).toNat (gd l7 (w64 (p2 + (↑k8:Int))).toNat)).length).bind fun _ =>
  some (nE (nE l7 (w64 (p1 + (↑k8:Int))).toNat (gd l7 (w64 (p2 + (↑k8:Int))).toNat)) (w64 (p2 + (↑k8:Int))).toNat (gd l7 (w64 (p1 + (↑k8:Int))).toNat))) p0).bind fun y13 =>
 some y13
def wAi (p0:List Int) (p1:Int) (p2:Int) (p3:Int) (p4:((Int × Int)->Option Int)):Option ((List Int)) :=
 (iter (fun (l16,x17,x18) =>
  if x17=x18 then
   esc (some (l16,x17))
  else
   if x18 < x17 then
    (wAQ l16 (w64 (p2 - x17)) p2 x18 p4).bind fun x46 =>
    some (.inl (x46,w64 (x17 - x18),x18))
   else
    (wAQ l16 (w64 (p2 - x17)) (w64 ((w64 (p2 + x18)) - x17)) x17 p4).bind fun x62 =>
    some (.inl (x62,x17,w64 (x18 - x17)))) big (p0,w64 (p2 - p1),w64 (p3 - p2))).bind fun (l2,x3) =>
 (wAQ l2 (w64 (p2 - x3)) p2 x3 p4).bind fun x87 =>
 some x87
def wAo (rec_:(List Int)->Int->Int->Int->((Int × Int)->Option Int)->Option ((List Int))) (p0:List Int) (p1:Int) (p2:Int) (p3:Int) (p4:((Int × Int)->Option Int)):Option ((List Int)) :=
 if (w64 (p2 - p1))=1 then
  (iter (fun (x14,x15) =>
   if x14 < x15 then
    (chk (w64 ((wAf (w64 (x14 + x15))) / 2)) p0.length).bind fun _ =>
    (chk p1 p0.length).bind fun _ =>
    (p4 ((gd p0 (w64 ((wAf (w64 (x14 + x15))) / 2)).toNat),(gd p0 p1.toNat))).bind fun x43 =>
    if x43 < 0 then
     some (.inl (w64 ((w64 ((wAf (w64 (x14 + x15))) / 2)) + 1),x15))
    else
     some (.inl (x14,w64 ((wAf (w64 (x14 + x15))) / 2)))
   else
    esc (some x14)) big (p2,p3)).bind fun x4 =>
  iter (fun (l80,x81) =>
   if x81 < (w64 (x4 - 1)) then
    (chk (w64 (x81 + 1)) l80.length).bind fun _ =>
    (chk x81 l80.length).bind fun _ =>
    (chk (w64 (x81 + 1)) (nE l80 x81.toNat (gd l80 (w64 (x81 + 1)).toNat)).length).bind fun _ =>
    some (.inl ((nE (nE l80 x81.toNat (gd l80 (w64 (x81 + 1)).toNat)) (w64 (x81 + 1)).toNat (gd l80 x81.toNat)),w64 (x81 + 1)))
   else
    esc (some l80)) big (p0,p1)
 else
  if (w64 (p3 - p2))=1 then
   (iter (fun (x137,x138) =>
    if x137 < x138 then
     (chk p2 p0.length).bind fun _ =>
     (chk (w64 ((wAf (w64 (x137 + x138))) / 2)) p0.length).bind fun _ =>
     (p4 ((gd p0 p2.toNat),(gd p0 (w64 ((wAf (w64 (x137 + x138))) / 2)).toNat))).bind fun x166 =>
     if x166 < 0 then
      some (.inl (x137,w64 ((wAf (w64 (x137 + x138))) / 2)))
     else
      some (.inl (w64 ((w64 ((wAf (w64 (x137 + x138))) / 2)) + 1),x138))
    else
     esc (some x137)) big (p1,p2)).bind fun x127 =>
   iter (fun (l203,x204) =>
    if x127 < x204 then
     (chk (w64 (x204 - 1)) l203.length).bind fun _ =>
     (chk x204 l203.length).bind fun _ =>
     (chk (w64 (x204 - 1)) (nE l203 x204.toNat (gd l203 (w64 (x204 - 1)).toNat)).length).bind fun _ =>
     some (.inl ((nE (nE l203 x204.toNat (gd l203 (w64 (x204 - 1)).toNat)) (w64 (x204 - 1)).toNat (gd l203 x204.toNat)),w64 (x204 - 1)))
    else
     esc (some l203)) big (p0,p2)
  else
   if (w64 ((wAf (w64 (p1 + p3))) / 2)) < p2 then
    (iter (fun (x260,x261) =>
     if x260 < x261 then
      (chk (w64 ((w64 ((w64 ((w64 ((wAf (w64 (p1 + p3))) / 2)) + p2)) - 1)) - (w64 ((wAf (w64 (x260 + x261))) / 2)))) p0.length).bind fun _ =>
      (chk (w64 ((wAf (w64 (x260 + x261))) / 2)) p0.length).bind fun _ =>
      (p4 ((gd p0 (w64 ((w64 ((w64 ((w64 ((wAf (w64 (p1 + p3))) / 2)) + p2)) - 1)) - (w64 ((wAf (w64 (x260 + x261))) / 2)))).toNat),(gd p0 (w64 ((wAf (w64 (x260 + x261))) / 2)).toNat))).bind fun x294 =>
      if x294 < 0 then
       some (.inl (x260,w64 ((wAf (w64 (x260 + x261))) / 2)))
      else
       some (.inl (w64 ((w64 ((wAf (w64 (x260 + x261))) / 2)) + 1),x261))
     else
      esc (some x260)) big (w64 ((w64 ((w64 ((wAf (w64 (p1 + p3))) / 2)) + p2)) - p3),w64 ((wAf (w64 (p1 + p3))) / 2))).bind fun x250 =>
    (if x250 < p2 then
     some (decide (p2 < (w64 ((w64 ((w64 ((wAf (w64 (p1 + p3))) / 2)) + p2)) - x250))))
    else
     some false).bind fun b330 =>
    if b330=true then
     (wAi p0 x250 p2 (w64 ((w64 ((w64 ((wAf (w64 (p1 + p3))) / 2)) + p2)) - x250)) p4).bind fun x357 =>
     if p1 < x250 then
      if x250 < (w64 ((wAf (w64 (p1 + p3))) / 2)) then
       (rec_ x357 p1 x250 (w64 ((wAf (w64 (p1 + p3))) / 2)) p4).bind fun x373 =>
       if (w64 ((wAf (w64 (p1 + p3))) / 2)) < (w64 ((w64 ((w64 ((wAf (w64 (p1 + p3))) / 2)) + p2)) - x250)) then
        if (w64 ((w64 ((w64 ((wAf (w64 (p1 + p3))) / 2)) + p2)) - x250)) < p3 then
         (rec_ x373 (w64 ((wAf (w64 (p1 + p3))) / 2)) (w64 ((w64 ((w64 ((wAf (w64 (p1 + p3))) / 2)) + p2)) - x250)) p3 p4).bind fun x389 =>
         some x389
        else
         some x373
       else
        some x373
      else
       if (w64 ((wAf (w64 (p1 + p3))) / 2)) < (w64 ((w64 ((w64 ((wAf (w64 (p1 + p3))) / 2)) + p2)) - x250)) then
        if (w64 ((w64 ((w64 ((wAf (w64 (p1 + p3))) / 2)) + p2)) - x250)) < p3 then
         (rec_ x357 (w64 ((wAf (w64 (p1 + p3))) / 2)) (w64 ((w64 ((w64 ((wAf (w64 (p1 + p3))) / 2)) + p2)) - x250)) p3 p4).bind fun x408 =>
         some x408
        else
         some x357
       else
        some x357
     else
      if (w64 ((wAf (w64 (p1 + p3))) / 2)) < (w64 ((w64 ((w64 ((wAf (w64 (p1 + p3))) / 2)) + p2)) - x250)) then
       if (w64 ((w64 ((w64 ((wAf (w64 (p1 + p3))) / 2)) + p2)) - x250)) < p3 then
        (rec_ x357 (w64 ((wAf (w64 (p1 + p3))) / 2)) (w64 ((w64 ((w64 ((wAf (w64 (p1 + p3))) / 2)) + p2)) - x250)) p3 p4).bind fun x427 =>
        some x427
       else
        some x357
      else
       some x357
    else
     if p1 < x250 then
      if x250 < (w64 ((wAf (w64 (p1 + p3))) / 2)) then
       (rec_ p0 p1 x250 (w64 ((wAf (w64 (p1 + p3))) / 2)) p4).bind fun x447 =>
       if (w64 ((wAf (w64 (p1 + p3))) / 2)) < (w64 ((w64 ((w64 ((wAf (w64 (p1 + p3))) / 2)) + p2)) - x250)) then
        if (w64 ((w64 ((w64 ((wAf (w64 (p1 + p3))) / 2)) + p2)) - x250)) < p3 then
         (rec_ x447 (w64 ((wAf (w64 (p1 + p3))) / 2)) (w64 ((w64 ((w64 ((wAf (w64 (p1 + p3))) / 2)) + p2)) - x250)) p3 p4).bind fun x463 =>
         some x463
        else
         some x447
       else
        some x447
      else
       if (w64 ((wAf (w64 (p1 + p3))) / 2)) < (w64 ((w64 ((w64 ((wAf (w64 (p1 + p3))) / 2)) + p2)) - x250)) then
        if (w64 ((w64 ((w64 ((wAf (w64 (p1 + p3))) / 2)) + p2)) - x250)) < p3 then
         (rec_ p0 (w64 ((wAf (w64 (p1 + p3))) / 2)) (w64 ((w64 ((w64 ((wAf (w64 (p1 + p3))) / 2)) + p2)) - x250)) p3 p4).bind fun x483 =>
         some x483
        else
         some p0
       else
        some p0
     else
      if (w64 ((wAf (w64 (p1 + p3))) / 2)) < (w64 ((w64 ((w64 ((wAf (w64 (p1 + p3))) / 2)) + p2)) - x250)) then
       if (w64 ((w64 ((w64 ((wAf (w64 (p1 + p3))) / 2)) + p2)) - x250)) < p3 then
        (rec_ p0 (w64 ((wAf (w64 (p1 + p3))) / 2)) (w64 ((w64 ((w64 ((wAf (w64 (p1 + p3))) / 2)) + p2)) - x250)) p3 p4).bind fun x503 =>
        some x503
       else
        some p0
      else
       some p0
   else
    (iter (fun (x527,x528) =>
     if x527 < x528 then
      (chk (w64 ((w64 ((w64 ((w64 ((wAf (w64 (p1 + p3))) / 2)) + p2)) - 1)) - (w64 ((wAf (w64 (x527 + x528))) / 2)))) p0.length).bind fun _ =>
      (chk (w64 ((wAf (w64 (x527 + x528))) / 2)) p0.length).bind fun _ =>
      (p4 ((gd p0 (w64 ((w64 ((w64 ((w64 ((wAf (w64 (p1 + p3))) / 2)) + p2)) - 1)) - (w64 ((wAf (w64 (x527 + x528))) / 2)))).toNat),(gd p0 (w64 ((wAf (w64 (x527 + x528))) / 2)).toNat))).bind fun x561 =>
      if x561 < 0 then
       some (.inl (x527,w64 ((wAf (w64 (x527 + x528))) / 2)))
      else
       some (.inl (w64 ((w64 ((wAf (w64 (x527 + x528))) / 2)) + 1),x528))
     else
      esc (some x527)) big (p1,p2)).bind fun x517 =>
    (if x517 < p2 then
     some (decide (p2 < (w64 ((w64 ((w64 ((wAf (w64 (p1 + p3))) / 2)) + p2)) - x517))))
    else
     some false).bind fun b597 =>
    if b597=true then
     (wAi p0 x517 p2 (w64 ((w64 ((w64 ((wAf (w64 (p1 + p3))) / 2)) + p2)) - x517)) p4).bind fun x624 =>
     if p1 < x517 then
      if x517 < (w64 ((wAf (w64 (p1 + p3))) / 2)) then
       (rec_ x624 p1 x517 (w64 ((wAf (w64 (p1 + p3))) / 2)) p4).bind fun x640 =>
       if (w64 ((wAf (w64 (p1 + p3))) / 2)) < (w64 ((w64 ((w64 ((wAf (w64 (p1 + p3))) / 2)) + p2)) - x517)) then
        if (w64 ((w64 ((w64 ((wAf (w64 (p1 + p3))) / 2)) + p2)) - x517)) < p3 then
         (rec_ x640 (w64 ((wAf (w64 (p1 + p3))) / 2)) (w64 ((w64 ((w64 ((wAf (w64 (p1 + p3))) / 2)) + p2)) - x517)) p3 p4).bind fun x656 =>
         some x656
        else
         some x640
       else
        some x640
      else
       if (w64 ((wAf (w64 (p1 + p3))) / 2)) < (w64 ((w64 ((w64 ((wAf (w64 (p1 + p3))) / 2)) + p2)) - x517)) then
        if (w64 ((w64 ((w64 ((wAf (w64 (p1 + p3))) / 2)) + p2)) - x517)) < p3 then
         (rec_ x624 (w64 ((wAf (w64 (p1 + p3))) / 2)) (w64 ((w64 ((w64 ((wAf (w64 (p1 + p3))) / 2)) + p2)) - x517)) p3 p4).bind fun x675 =>
         some x675
        else
         some x624
       else
        some x624
     else
      if (w64 ((wAf (w64 (p1 + p3))) / 2)) < (w64 ((w64 ((w64 ((wAf (w64 (p1 + p3))) / 2)) + p2)) - x517)) then
       if (w64 ((w64 ((w64 ((wAf (w64 (p1 + p3))) / 2)) + p2)) - x517)) < p3 then
        (rec_ x624 (w64 ((wAf (w64 (p1 + p3))) / 2)) (w64 ((w64 ((w64 ((wAf (w64 (p1 + p3))) / 2)) + p2)) - x517)) p3 p4).bind fun x694 =>
        some x694
       else
        some x624
      else
       some x624
    else
     if p1 < x517 then
      if x517 < (w64 ((wAf (w64 (p1 + p3))) / 2)) then
       (rec_ p0 p1 x517 (w64 ((wAf (w64 (p1 + p3))) / 2)) p4).bind fun x714 =>
       if (w64 ((wAf (w64 (p1 + p3))) / 2)) < (w64 ((w64 ((w64 ((wAf (w64 (p1 + p3))) / 2)) + p2)) - x517)) then
        if (w64 ((w64 ((w64 ((wAf (w64 (p1 + p3))) / 2)) + p2)) - x517)) < p3 then
         (rec_ x714 (w64 ((wAf (w64 (p1 + p3))) / 2)) (w64 ((w64 ((w64 ((wAf (w64 (p1 + p3))) / 2)) + p2)) - x517)) p3 p4).bind fun x730 =>
         some x730
        else
         some x714
       else
        some x714
      else
       if (w64 ((wAf (w64 (p1 + p3))) / 2)) < (w64 ((w64 ((w64 ((wAf (w64 (p1 + p3))) / 2)) + p2)) - x517)) then
        if (w64 ((w64 ((w64 ((wAf (w64 (p1 + p3))) / 2)) + p2)) - x517)) < p3 then
         (rec_ p0 (w64 ((wAf (w64 (p1 + p3))) / 2)) (w64 ((w64 ((w64 ((wAf (w64 (p1 + p3))) / 2)) + p2)) - x517)) p3 p4).bind fun x750 =>
         some x750
        else
         some p0
       else
        some p0
     else
      if (w64 ((wAf (w64 (p1 + p3))) / 2)) < (w64 ((w64 ((w64 ((wAf (w64 (p1 + p3))) / 2)) + p2)) - x517)) then
       if (w64 ((w64 ((w64 ((wAf (w64 (p1 + p3))) / 2)) + p2)) - x517)) < p3 then
        (rec_ p0 (w64 ((wAf (w64 (p1 + p3))) / 2)) (w64 ((w64 ((w64 ((wAf (w64 (p1 + p3))) / 2)) + p2)) - x517)) p3 p4).bind fun x770 =>
        some x770
       else
        some p0
      else
       some p0
def wAS:Nat->(List Int)->Int->Int->Int->((Int × Int)->Option Int)->Option ((List Int))
 | 0=>fun _ _ _ _ _=>none
 | n_ + 1=>wAo (wAS n_)
def wBX (p0:List Int) (p1:Int) (p2:((Int × Int)->Option Int)):Option ((List Int)) :=
 (iter (fun (l16,x17,x18) =>
  if x18 <= p1 then
   (wAU l16 x17 x18 p2).bind fun x39 =>
   some (.inl (x39,x18,w64 (x18 + 20)))
  else
   esc (some (l16,x17))) big (p0,0,20)).bind fun (l2,x3) =>
 (wAU l2 x3 p1 p2).bind fun x71 =>
 iter (fun (l88,x89) =>
  if x89 < p1 then
   (iter (fun (l121,x122,x123) =>
    if x123 <= p1 then
     (wAS 1000 l121 x122 (w64 (x122 + x89)) x123 p2).bind fun x146 =>
     some (.inl (x146,x123,w64 (x123 + (w64 (2 * x89)))))
    else
     esc (some (l121,x122))) big (l88,0,w64 (2 * x89))).bind fun (l107,x108) =>
   if (w64 (x108 + x89)) < p1 then
    (wAS 1000 l107 x108 (w64 (x108 + x89)) p1 p2).bind fun x182 =>
    some (.inl (x182,w64 (x89 * 2)))
   else
    some (.inl (l107,w64 (x89 * 2)))
  else
   esc (some l88)) big (x71,20)
def wAm (p0:List Int) (p1:((Int × Int)->Option Int)):Option ((List Int)) :=
 (wBX p0 (↑p0.length:Int) p1).bind fun x2 =>
 some x2
def wCo (p0:List wAK) (p1:wAX):Option ((List wBR) × Int) :=
 (wCV p0 p1).bind fun (x15,x16) =>
 if x16=0 then
  (wBy 0 (↑p0.length:Int) (fun k56 l52 =>
   (app 8 l52 [(↑k56:Int)]).bind fun x85 =>
   some x85) []).bind fun y61 =>
  (wAm y61 (fun x=>wBL x.1 x.2 x15 p0)).bind fun x132 =>
  (wBy 0 (↑x132.length:Int) (fun k161 l157 =>
   (chk (↑k161:Int) x132.length).bind fun _ =>
   (idx p0 (gd x132 k161)).bind fun x195 =>
   (idx x15 (gd x132 k161)).bind fun x206 =>
   (app 24 l157 [(⟨x195.Bib,x206,0⟩:wBR)]).bind fun x220 =>
   some x220) []).bind fun y166 =>
  some (y166,0)
 else
  some ([],x16)
def wBD (p0:Int) (p1:Int) (p2:Int):Option (Bool) :=
 if p1 <= p0 then
  some (decide (p0 <= p2))
 else
  some false
def wCO (p0:List Int) (p1:(Int->Option Bool)):Option (Bool) :=
 jn (wFD 0 (↑p0.length:Int) (fun k2 _ =>
  (idx p0 (↑k2:Int)).bind fun x22 =>
  (p1 x22).bind fun x30 =>
  if x30=true then
   some (.inl ())
  else
   esc (some false)) ()) fun _ =>
 some true
def wCY (p0:Int):Option (Bool) :=
 (wBD p0 0 360000).bind fun x1 =>
 some x1
def wBZ (p0:List wAF) (p1:(wAF->Option Bool)):Option (Bool) :=
 jn (wFD 0 (↑p0.length:Int) (fun k2 _ =>
  (idx p0 (↑k2:Int)).bind fun x22 =>
  (p1 x22).bind fun x37 =>
  if x37=true then
   some (.inl ())
  else
   esc (some false)) ()) fun _ =>
 some true
def wCZ (p0:wAF) (p1:Int) (p2:Int):Option (Bool) :=
 if p0.Lo <= p0.Hi then
  if p1 <= p0.Lo then
   some (decide (p0.Hi <= p2))
  else
   some false
 else
  some false
def wCa (p0:wAF):Option (Bool) :=
 (wCZ p0 0 360000).bind fun x5 =>
 some x5
def wBM (p0:List wAO) (p1:(wAO->Option Bool)):Option (Bool) :=
 jn (wFD 0 (↑p0.length:Int) (fun k2 _ =>
  (idx p0 (↑k2:Int)).bind fun x22 =>
  (p1 x22).bind fun x37 =>
  if x37=true then
   some (.inl ())
  else
   esc (some false)) ()) fun _ =>
 some true
def wCb (p0:wAO):Option (Bool) :=
 (wCZ p0.Offset (-36000) 36000).bind fun x5 =>
 if x5=true then
  (wBD p0.Error 0 600).bind fun x17 =>
  some x17
 else
  some false
def wAp (p0:List wAJ) (p1:(wAJ->Option Bool)):Option (Bool) :=
 jn (wFD 0 (↑p0.length:Int) (fun k2 _ =>
  (idx p0 (↑k2:Int)).bind fun x22 =>
  (p1 x22).bind fun x37 =>
  if x37=true then
   some (.inl ())
  else
   esc (some false)) ()) fun _ =>
 some true
def wCc (p0:wAJ):Option (Bool) :=
 (wBD p0.Time 0 360000).bind fun x5 =>
 some x5
def wAj (p0:wAD) (p1:wAM):Option (Bool) :=
 (wBD p1.Skier 0 (w64 ((↑p0.Starts.length:Int) - 1))).bind fun x9 =>
 if x9=true then
  (wBD p1.Mat 0 (↑p0.Splits.length:Int)).bind fun x21 =>
  some x21
 else
  some false
def wCd (p0:wAJ) (p1:wAD):Option (Bool) :=
 (wAj p1 (⟨p0.Skier,p0.Mat⟩:wAM)).bind fun x5 =>
 if x5=true then
  (wBD p0.Clock 0 (w64 ((↑p1.Clocks.length:Int) - 1))).bind fun x18 =>
  some x18
 else
  some false
def wCQ (p0:wAD):Option (Int) :=
 (wBD (↑p0.Starts.length:Int) 1 8).bind fun x10 =>
 if x10=true then
  if 7 < (↑p0.Splits.length:Int) then
   some 2
  else
   if 4 < (↑p0.Clocks.length:Int) then
    some 2
   else
    if 40 < (↑p0.Readings.length:Int) then
     some 2
    else
     (wCO p0.Starts wCY).bind fun x35 =>
     if x35=true then
      (wBZ p0.Splits wCa).bind fun x52 =>
      if x52=true then
       (wBM p0.Clocks wCb).bind fun x70 =>
       if x70=true then
        (wAp p0.Readings wCc).bind fun x92 =>
        if x92=true then
         (wAp p0.Readings (fun x=>wCd x p0)).bind fun x116 =>
         if x116=true then
          some 0
         else
          some 1
        else
         some 3
       else
        some 3
      else
       some 3
     else
      some 3
 else
  some 2
def wCR :Option (wAI) :=
 some (⟨-1,0⟩:wAI)
def wBt {S E:Type} (f:S->wAH->Option (S ⊕ E)) (s0:S) (p1:wAD):Option (S ⊕ E) :=
 jn (wFD 0 4 (fun k12 s10 =>
  (idx ([1,(↑p1.Splits.length:Int),(↑p1.Clocks.length:Int),(↑p1.Readings.length:Int)]:List Int) (↑k12:Int)).bind fun x33 =>
  (if (↑k12:Int)=2 then
   some (true,s10)
  else
   some (decide ((↑k12:Int)=3),s10)).bind fun (b37,s38) =>
  if b37=true then
   jn (wFD 0 1 (fun k78 s76 =>
    jn (wFD 0 x33 (fun k113 s111 =>
     (f s111 (⟨(↑k12:Int),(↑k78:Int),(↑k113:Int),true⟩:wAH)).bind fun yr141 =>
     match yr141 with
     | .inl s151 =>
      (f s151 (⟨(↑k12:Int),(↑k78:Int),(↑k113:Int),false⟩:wAH)).bind fun yr154 =>
      match yr154 with
      | .inl s164 =>
       some (.inl s164)
      | .inr s164 =>
       esc (esc (esc (some (.inr s164))))
     | .inr s151 =>
      esc (esc (esc (some (.inr s151))))) s76) fun y195 =>
    some (.inl y195)) s38) fun y219 =>
   some (.inl y219)
  else
   jn (wFD 0 (↑p1.Starts.length:Int) (fun k247 s245 =>
    jn (wFD 0 x33 (fun k282 s280 =>
     (f s280 (⟨(↑k12:Int),(↑k247:Int),(↑k282:Int),true⟩:wAH)).bind fun yr310 =>
     match yr310 with
     | .inl s320 =>
      (f s320 (⟨(↑k12:Int),(↑k247:Int),(↑k282:Int),false⟩:wAH)).bind fun yr323 =>
      match yr323 with
      | .inl s333 =>
       some (.inl s333)
      | .inr s333 =>
       esc (esc (esc (some (.inr s333))))
     | .inr s320 =>
      esc (esc (esc (some (.inr s320))))) s245) fun y364 =>
    some (.inl y364)) s38) fun y388 =>
   some (.inl y388)) s0) fun y409 =>
 some (.inl y409)
def wCr (p0:wAD):Option (Unit) :=
 some ()
def wET (p0:wAD) (p1:wAH):Option (Bool) :=
 (wBD p1.Skier 0 (w64 ((↑p0.Starts.length:Int) - 1))).bind fun x9 =>
 if x9=true then
  some (decide (p1.Index=0))
 else
  some false
def wDZ (p0:wAD) (p1:wAH):Option (wAI × wAI) :=
 ((wCR).bind fun x22 =>
 some (x22.skier,x22.mat)).bind fun (x17,x18) =>
 some ((⟨x17,x18⟩:wAI),(⟨p1.Skier,0⟩:wAI))
def wDa (p0:wAD) (p1:wAH):Option (Int × Int) :=
 (idx p0.Starts p1.Skier).bind fun x11 =>
 some (x11,w64 (-x11))
def wEU (p0:wAD) (p1:wAH):Option (Bool) :=
 (wBD p1.Skier 0 (w64 ((↑p0.Starts.length:Int) - 1))).bind fun x9 =>
 if x9=true then
  (wBD p1.Index 0 (w64 ((↑p0.Splits.length:Int) - 1))).bind fun x21 =>
  some x21
 else
  some false
def wDb (p0:wAD) (p1:wAH):Option (wAI × wAI) :=
 (some ()).bind fun _ =>
 some ((⟨p1.Skier,p1.Index⟩:wAI),(⟨p1.Skier,w64 (p1.Index + 1)⟩:wAI))
def wDc (p0:wAD) (p1:wAH):Option (Int × Int) :=
 (idx p0.Splits p1.Index).bind fun x11 =>
 some (x11.Hi,w64 (-x11.Lo))
def wEV (p0:wAD) (p1:wAH):Option (Bool) :=
 if p1.Skier=0 then
  (wBD p1.Index 0 (w64 ((↑p0.Clocks.length:Int) - 1))).bind fun x11 =>
  some x11
 else
  some false
def wCe (p0:Int):Option (wAI) :=
 some (⟨-1,w64 (1 + p0)⟩:wAI)
def wDd (p0:wAD) (p1:wAH):Option (wAI × wAI) :=
 (wCR).bind fun x19 =>
 (wCe p1.Index).bind fun x29 =>
 some (x19,x29)
def wDe (p0:wAD) (p1:wAH):Option (Int × Int) :=
 (idx p0.Clocks p1.Index).bind fun x11 =>
 some (w64 (-x11.Offset.Lo),x11.Offset.Hi)
def wDz (p0:wAD) (p1:wAH):Option (Bool) :=
 if p1.Skier=0 then
  (wBD p1.Index 0 (w64 ((↑p0.Readings.length:Int) - 1))).bind fun x11 =>
  some x11
 else
  some false
def wDM (p0:wAD) (p1:wAH):Option (wAI × wAI) :=
 (idx p0.Readings p1.Index).bind fun x17 =>
 ((wCe x17.Clock).bind fun x36 =>
 some (x36.skier,x36.mat)).bind fun (x31,x32) =>
 some ((⟨x31,x32⟩:wAI),(⟨x17.Skier,x17.Mat⟩:wAI))
def wDN (p0:wAD) (p1:wAH):Option (Int × Int) :=
 (idx p0.Readings p1.Index).bind fun x9 =>
 (idx p0.Clocks x9.Clock).bind fun x25 =>
 some (w64 (x9.Time + x25.Error),w64 (x25.Error - x9.Time))
def wBN :Option (Unit) :=
 some ()
def wBO (p0:wAD) (p1:wAH):Option (wAI × wAI × Int) :=
 if p1.Kind=0 then
  ((wBN).bind fun _ =>
  some ()).bind fun _ =>
  (wDZ p0 p1).bind fun (x92,x93) =>
  (wDa p0 p1).bind fun (x113,x114) =>
  if p1.Up=true then
   (some ()).bind fun _ =>
   some (x92,x93,x113)
  else
   some (x93,x92,x114)
 else
  if p1.Kind=1 then
   ((wBN).bind fun _ =>
   some ()).bind fun _ =>
   (wDb p0 p1).bind fun (x251,x252) =>
   (wDc p0 p1).bind fun (x272,x273) =>
   if p1.Up=true then
    (some ()).bind fun _ =>
    some (x251,x252,x272)
   else
    some (x252,x251,x273)
  else
   if p1.Kind=2 then
    ((wBN).bind fun _ =>
    some ()).bind fun _ =>
    (wDd p0 p1).bind fun (x410,x411) =>
    (wDe p0 p1).bind fun (x431,x432) =>
    if p1.Up=true then
     (some ()).bind fun _ =>
     some (x410,x411,x431)
    else
     some (x411,x410,x432)
   else
    if p1.Kind=3 then
     ((wBN).bind fun _ =>
     some ()).bind fun _ =>
     (wDM p0 p1).bind fun (x569,x570) =>
     (wDN p0 p1).bind fun (x590,x591) =>
     if p1.Up=true then
      (some ()).bind fun _ =>
      some (x569,x570,x590)
     else
      some (x570,x569,x591)
    else
     (wBN).bind fun _ =>
     none
def wCs (p0:wAD):Option (wAb) :=
 ((wCR).bind fun x22 =>
 some (wFN ([]:List (wAI × Int)) x22 0)).bind fun l13 =>
 (wCr p0).bind fun _ =>
 (wBt (S:=(List wAa) × (List (wAI × Int))) (E:=Empty) (fun (l1591,l1595) x1616 =>
  (wBO p0 x1616).bind fun (x1652,x1653,x1654) =>
  (wBy 0 2 (fun k1692 l1689 =>
   (idx ([x1652,x1653]:List wAI) (↑k1692:Int)).bind fun x1718 =>
   if (wKF l1689 x1718)=true then
    some l1689
   else
    some (wFN l1689 x1718 (↑(l1689.length):Int))) l1595).bind fun y1697 =>
  (app 56 l1591 [(⟨x1616,(wAw y1697 x1652 0),(wAw y1697 x1653 0),x1654⟩:wAa)]).bind fun x1773 =>
  some (.inl (x1773,y1697))) ([],l13) p0).bind fun rr1606 =>
 match rr1606 with
 | .inl (y1845,y1846) =>
  some (⟨p0,y1846,y1845⟩:wAb)
 | .inr e1851 =>
  e1851.elim
def wBz (p0:wAD):Option ((Option wAb) × Int) :=
 (wCQ p0).bind fun x5 =>
 if x5=0 then
  (wCs p0).bind fun x21 =>
  some ((some x21),0)
 else
  some (none,x5)
def wAz (p0:List wAM) (p1:(wAM->Option Bool)):Option (Bool) :=
 jn (wFD 0 (↑p0.length:Int) (fun k2 _ =>
  (idx p0 (↑k2:Int)).bind fun x22 =>
  (p1 x22).bind fun x37 =>
  if x37=true then
   some (.inl ())
  else
   esc (some false)) ()) fun _ =>
 some true
def wDO (p0 p1:Int):Option (Int × Int):=if 0 <= p0/\p0 < 18446744073709551616/\0 <= p1/\p1 < 18446744073709551616 then some (p0 * p1 / 18446744073709551616,p0 * p1 % 18446744073709551616) else none
def wBA (p0:List Int) (p1:Int):Option ((List Int)) :=
 if p1 < 0 then
  none
 else
  (wDO (wAf (↑p0.length:Int)) (wAf p1)).bind fun (x4,x5) =>
  (if 0 < x4 then
   some true
  else
   some (decide (9223372036854775807 < x5))).bind fun b15 =>
  if b15=true then
   none
  else
   (mkz 8 (w64 x5) (0:Int)).bind fun x35 =>
   (wLM x35 0 p0).bind fun x45 =>
   iter (fun (l58,x59) =>
    if x59 < (↑l58.length:Int) then
     (cut l58 x59 (↑(l58.length):Int)).bind fun x77 =>
     (cut l58 0 x59).bind fun x86 =>
     (wLM l58 x59 x86).bind fun x95 =>
     some (.inl (x95,w64 (x59 + (↑(min x86.length (x77.length)):Int))))
    else
     esc (some l58)) big (x45,(↑(min p0.length (x35.length)):Int))
def wAg (p0:wAb) (p1:Int) (p2:Bool):Option (wDJ × Int × Bool) :=
 ((wBA [1125899906842624] (↑(p0.number.length):Int)).bind fun x28 =>
 (wBA [-1] (↑(p0.number.length):Int)).bind fun x51 =>
 some (x28,x51)).bind fun (l9,l12) =>
 (wBy 0 (↑l9.length:Int) (fun k1254 l1253 =>
  if p1 < 0 then
   (chk (↑k1254:Int) l1253.length).bind fun _ =>
   some (nE l1253 k1254 0)
  else
   if (↑k1254:Int)=p1 then
    (chk (↑k1254:Int) l1253.length).bind fun _ =>
    some (nE l1253 k1254 0)
   else
    some l1253) l9).bind fun y1259 =>
 jn (wFD 0 (w64 ((↑(p0.number.length):Int) + 1)) (fun k1336 (l1333,l1334,x1335) =>
  (wBy 0 (↑p0.edges.length:Int) (fun k1375 (l1372,l1373,x1374) =>
   ((idx p0.edges (↑k1375:Int)).bind fun x1412 =>
   if p2=true then
    (chk x1412.to_ l1372.length).bind fun _ =>
    if (gd l1372 x1412.to_.toNat) < 1125899906842624 then
     (chk x1412.from_ l1372.length).bind fun _ =>
     if (w64 ((gd l1372 x1412.to_.toNat) + x1412.count)) < (gd l1372 x1412.from_.toNat) then
      ((chk x1412.from_ l1373.length).bind fun _ =>
      some ()).bind fun _ =>
      some ((nE l1372 x1412.from_.toNat (w64 ((gd l1372 x1412.to_.toNat) + x1412.count))),(nE l1373 x1412.from_.toNat (↑k1375:Int)),x1412.from_)
     else
      some (l1372,l1373,x1374)
    else
     some (l1372,l1373,x1374)
   else
    (chk x1412.from_ l1372.length).bind fun _ =>
    if (gd l1372 x1412.from_.toNat) < 1125899906842624 then
     (chk x1412.to_ l1372.length).bind fun _ =>
     if (w64 ((gd l1372 x1412.from_.toNat) + x1412.count)) < (gd l1372 x1412.to_.toNat) then
      ((chk x1412.to_ l1373.length).bind fun _ =>
      some ()).bind fun _ =>
      some ((nE l1372 x1412.to_.toNat (w64 ((gd l1372 x1412.from_.toNat) + x1412.count))),(nE l1373 x1412.to_.toNat (↑k1375:Int)),x1412.to_)
     else
      some (l1372,l1373,x1374)
    else
     some (l1372,l1373,x1374)).bind fun (l1406,l1407,x1408) =>
   some (l1406,l1407,x1408)) (l1333,l1334,-1)).bind fun (y1380,y1381,y1382) =>
  if y1382 < 0 then
   esc (some ((⟨y1380,y1381⟩:wDJ),0,true))
  else
   some (.inl (y1380,y1381,y1382))) (y1259,l12,-1)) fun (y1697,y1698,y1699) =>
 some ((⟨y1697,y1698⟩:wDJ),y1699,false)
def wAu (p0:wAb):Option (Bool) :=
 (wAg p0 (-1) false).bind fun (x3,x4,x5) =>
 some x5
def wCp (p0:wAD) (p1:List wAM):Option ((Option wAb) × Int) :=
 (wBz p0).bind fun (x5,x6) =>
 match x5 with
 | none =>
  if x6=0 then
   (wAz p1 (fun x=>wAj p0 x)).bind fun x40 =>
   if x40=true then
    none
   else
    some (none,1)
  else
   some (none,x6)
 | some x30 =>
  if x6=0 then
   (wAz p1 (fun x=>wAj p0 x)).bind fun x71 =>
   if x71=true then
    (wAu x30).bind fun x96 =>
    if x96=true then
     some ((some x30),0)
    else
     some (none,7)
   else
    some (none,1)
  else
   some (none,x6)
def wDP (p0:wAD) (p1:Int):Option ((Option wAb) × Int) :=
 (wCp p0 [(⟨0,p1⟩:wAM)]).bind fun (x19,x20) =>
 match x19 with
 | none =>
  some (none,x20)
 | some x44 =>
  some ((some x44),x20)
def wBj (p0:wAb) (p1:Int):Option ((Arr Int 64)) :=
 (wBy 0 (↑p0.Race.Starts.length:Int) (fun k19 a18 =>
  (wAg p0 (wAw p0.number (⟨(↑k19:Int),p1⟩:wAI) 0) false).bind fun (x47,x48,x49) =>
  (wBy 0 (↑p0.Race.Starts.length:Int) (fun k79 a78 =>
   (chk (wAw p0.number (⟨(↑k79:Int),p1⟩:wAI) 0) x47.far.length).bind fun _ =>
   (chk (↑k19:Int) 8).bind fun _ =>
   (chk (↑k79:Int) 8).bind fun _ =>
   some (a78.set (k19 * 8 + k79) (gd x47.far (wAw p0.number (⟨(↑k79:Int),p1⟩:wAI) 0).toNat))) a18).bind fun y84 =>
  some y84) (Arr.fill 64 0)).bind fun y24 =>
 some y24
def wBm (p0:wAD) (p1:Int):Option ((List wAF) × Int) :=
 (wDP p0 p1).bind fun (x5,x6) =>
 match x5 with
 | none =>
  if x6=0 then
   none
  else
   some ([],x6)
 | some x30 =>
  if x6=0 then
   (wBj x30 p1).bind fun x48 =>
   (wBy 0 (↑p0.Starts.length:Int) (fun k83 l79 =>
    (wBy 0 (↑p0.Starts.length:Int) (fun k124 (x122,x123) =>
     (chk (↑k83:Int) 8).bind fun _ =>
     (chk (↑k124:Int) 8).bind fun _ =>
     if (x48.get (k83 * 8 + k124)) < 0 then
      if 0 < (x48.get (k124 * 8 + k83)) then
       some (w64 (x122 + 1),w64 (x123 + 1))
      else
       some (w64 (x122 + 1),x123)
     else
      if 0 < (x48.get (k124 * 8 + k83)) then
       some (x122,w64 (x123 + 1))
      else
       some (x122,x123)) (1,1)).bind fun (y129,y130) =>
    (app 16 l79 [(⟨y129,y130⟩:wAF)]).bind fun x207 =>
    some x207) []).bind fun y88 =>
   some (y88,0)
  else
   some ([],x6)
def wBw (p0:List Int):Option ((List Int)) :=
 (app 8 ([]:List Int) p0).bind fun x4 =>
 some x4
def wBS (p0:List wAF):Option ((List wAF)) :=
 (app 16 ([]:List wAF) p0).bind fun x4 =>
 some x4
def wBF (p0:List wAO):Option ((List wAO)) :=
 (app 24 ([]:List wAO) p0).bind fun x4 =>
 some x4
def wBB (p0:List wAJ):Option ((List wAJ)) :=
 (app 32 ([]:List wAJ) p0).bind fun x4 =>
 some x4
def wBk (p0:wAD):Option (wAD) :=
 (wBw p0.Starts).bind fun x11 =>
 (wBS p0.Splits).bind fun x25 =>
 (wBF p0.Clocks).bind fun x40 =>
 (wBB p0.Readings).bind fun x56 =>
 some (⟨x11,x25,x40,x56⟩:wAD)
def wCA (p0:Int) (p1:wAF):Option (Bool) :=
 if p1.Lo <= p0 then
  some (decide (p0 <= p1.Hi))
 else
  some false
def wAv :Option (wAD) :=
 some (⟨[0,300],[(⟨1000,1200⟩:wAF),(⟨900,1500⟩:wAF)],[(⟨(⟨-5,5⟩:wAF),1⟩:wAO)],[(⟨0,2,0,2250⟩:wAJ),(⟨1,1,0,1400⟩:wAJ),(⟨1,2,0,2499⟩:wAJ)]⟩:wAD)
def wAq (p0:Int) (p1:Int):Option (wAM) :=
 some (⟨p0,p1⟩:wAM)
def wDA (p0:wAM):Option (wAI) :=
 some (⟨p0.Skier,p0.Mat⟩:wAI)
def wCS (p0:wAb) (p1:wAI) (p2:wAI):Option (wAF) :=
 ((wAg p0 (wAw p0.number p1 0) false).bind fun (x26,x27,x28) =>
 some (x26.far,x26.by_)).bind fun (l17,l20) =>
 ((wAg p0 (wAw p0.number p2 0) false).bind fun (x145,x146,x147) =>
 some (x145.far,x145.by_)).bind fun (l131,l134) =>
 (chk (wAw p0.number p1 0) l131.length).bind fun _ =>
 (chk (wAw p0.number p2 0) l17.length).bind fun _ =>
 some (⟨w64 (-(gd l131 (wAw p0.number p1 0).toNat)),(gd l17 (wAw p0.number p2 0).toNat)⟩:wAF)
def wEL (p0:wAD) (p1:wAM):Option (wAF × Int) :=
 (wCp p0 [p1]).bind fun (x27,x28) =>
 match x27 with
 | none =>
  if x28=0 then
   (wCR).bind fun x58 =>
   (wDA p1).bind fun x68 =>
   none
  else
   some ((⟨0,0⟩:wAF),x28)
 | some x52 =>
  if x28=0 then
   (wCR).bind fun x95 =>
   (wDA p1).bind fun x105 =>
   (wCS x52 x95 x105).bind fun x125 =>
   some (x125,0)
  else
   some ((⟨0,0⟩:wAF),x28)
def wFw (p0:wAD) (p1:wAM) (p2:wAM):Option (wAF × Int) :=
 (wCp p0 [p1,p2]).bind fun (x31,x32) =>
 match x31 with
 | none =>
  if x32=0 then
   (wDA p1).bind fun x62 =>
   (wDA p2).bind fun x72 =>
   none
  else
   some ((⟨0,0⟩:wAF),x32)
 | some x56 =>
  if x32=0 then
   (wDA p1).bind fun x99 =>
   (wDA p2).bind fun x109 =>
   (wCS x56 x99 x109).bind fun x129 =>
   some (x129,0)
  else
   some ((⟨0,0⟩:wAF),x32)
def wCB (p0:wAD) (p1:wAH):Option (Bool) :=
 if p1.Kind=0 then
  (wBD p1.Kind 0 3).bind fun x16 =>
  if x16=true then
   (wBN).bind fun _ =>
   (wET p0 p1).bind fun x45 =>
   some x45
  else
   some false
 else
  if p1.Kind=1 then
   (wBD p1.Kind 0 3).bind fun x67 =>
   if x67=true then
    (wBN).bind fun _ =>
    (wEU p0 p1).bind fun x96 =>
    some x96
   else
    some false
  else
   if p1.Kind=2 then
    (wBD p1.Kind 0 3).bind fun x118 =>
    if x118=true then
     (wBN).bind fun _ =>
     (wEV p0 p1).bind fun x147 =>
     some x147
    else
     some false
   else
    if p1.Kind=3 then
     (wBD p1.Kind 0 3).bind fun x169 =>
     if x169=true then
      (wBN).bind fun _ =>
      (wDz p0 p1).bind fun x198 =>
      some x198
     else
      some false
    else
     (wBD p1.Kind 0 3).bind fun x220 =>
     if x220=true then
      (wBN).bind fun _ =>
      none
     else
      some false
def wCT (p0:List wAH) (p1:(wAH->Option Bool)):Option (Bool) :=
 jn (wFD 0 (↑p0.length:Int) (fun k2 _ =>
  (idx p0 (↑k2:Int)).bind fun x22 =>
  (p1 x22).bind fun x37 =>
  if x37=true then
   some (.inl ())
  else
   esc (some false)) ()) fun _ =>
 some true
def wCU (p0:wAD) (p1:List wAH):Option (Int) :=
 if 80 < (↑p1.length:Int) then
  some 2
 else
  (wCT p1 (fun x=>wCB p0 x)).bind fun x9 =>
  if x9=true then
   some 0
  else
   some 1
def wCh (p0:wAD) (p1:wAI) (p2:List wAH):Option (wAI × Int × Bool) :=
 jn (wFD 0 (↑p2.length:Int) (fun k27 (x24,x25,x26) =>
  (idx p2 (↑k27:Int)).bind fun x50 =>
  (wBO p0 x50).bind fun (x69,x70,x71) =>
  if x69=(⟨x24,x25⟩:wAI) then
   some (.inl (x70.skier,x70.mat,w64 (x26 + x71)))
  else
   esc (some ((⟨x24,x25⟩:wAI),0,false))) (p1.skier,p1.mat,0)) fun (y114,y115,y116) =>
 some ((⟨y114,y115⟩:wAI),y116,true)
def wEg (p0:wAD) (p1:wAM) (p2:wAM) (p3:List wAH):Option (Int × Int) :=
 (wCQ p0).bind fun x13 =>
 if x13=0 then
  (wAj p0 p1).bind fun x29 =>
  if x29=true then
   (wAj p0 p2).bind fun x45 =>
   if x45=true then
    (wCU p0 p3).bind fun x64 =>
    if x64=0 then
     ((wDA p1).bind fun x85 =>
     (wCh p0 x85 p3).bind fun (x105,x106,x107) =>
     some (x105.skier,x105.mat,x106,x107)).bind fun (x78,x79,x80,b81) =>
     if b81=true then
      (wDA p2).bind fun x256 =>
      if (⟨x78,x79⟩:wAI)=x256 then
       some (x80,0)
      else
       some (0,8)
     else
      some (0,8)
    else
     some (0,x64)
   else
    some (0,1)
  else
   some (0,1)
 else
  some (0,x13)
def wCW (p0:wAJ) (p1:Int) (p2:Int):Option (Bool) :=
 some (decide ((⟨p0.Skier,p0.Mat⟩:wAM)=(⟨p1,p2⟩:wAM)))
def wAn (p0:List wAJ) (p1:(wAJ->Option Bool)):Option (Int) :=
 jn (wFD 0 (↑p0.length:Int) (fun k2 _ =>
  (idx p0 (↑k2:Int)).bind fun x22 =>
  (p1 x22).bind fun x30 =>
  if x30=true then
   esc (some (↑k2:Int))
  else
   some (.inl ())) ()) fun _ =>
 some (-1)
def wAl (p0:List wAJ) (p1:(wAJ->Option Bool)):Option (Bool) :=
 (wAn p0 p1).bind fun x1 =>
 some (decide (0 <= x1))
def wEW (p0:wAD):Option ((List wAM) × Int) :=
 (wCQ p0).bind fun x5 =>
 if x5=0 then
  (wBy 0 (↑p0.Starts.length:Int) (fun k34 l30 =>
   iter (fun (l91,x95) =>
    if x95 <= (↑p0.Splits.length:Int) then
     (wAl p0.Readings (fun x=>wCW x (↑k34:Int) x95)).bind fun x127 =>
     if x127=true then
      some (.inl (l91,w64 (x95 + 1)))
     else
      (app 16 l91 [(⟨(↑k34:Int),x95⟩:wAM)]).bind fun x163 =>
      some (.inl (x163,w64 (x95 + 1)))
    else
     esc (some l91)) big (l30,1)) []).bind fun y39 =>
  some (y39,0)
 else
  some ([],x5)
def wBu (p0:List wAF) (p1:List wAF):Option (Bool) :=
 if (↑p0.length:Int)=(↑p1.length:Int) then
  jn (wFD 0 (↑p0.length:Int) (fun k4 _ =>
   (idx p0 (↑k4:Int)).bind fun x26 =>
   (idx p1 (↑k4:Int)).bind fun x34 =>
   if x26=x34 then
    some (.inl ())
   else
    esc (some false)) ()) fun _ =>
  some true
 else
  some false
def wBn (p0:List wAM) (p1:List wAM):Option (Bool) :=
 if (↑p0.length:Int)=(↑p1.length:Int) then
  jn (wFD 0 (↑p0.length:Int) (fun k4 _ =>
   (idx p0 (↑k4:Int)).bind fun x26 =>
   (idx p1 (↑k4:Int)).bind fun x34 =>
   if x26=x34 then
    some (.inl ())
   else
    esc (some false)) ()) fun _ =>
  some true
 else
  some false
def wBP :Option (wAD) :=
 (wAv).bind fun x5 =>
 (chk 1 x5.Readings.length).bind fun _ =>
 some (⟨x5.Starts,x5.Splits,x5.Clocks,(nE x5.Readings 1 (⟨(gd x5.Readings 1).Skier,(gd x5.Readings 1).Mat,(gd x5.Readings 1).Clock,1700⟩:wAJ))⟩:wAD)
def wDm (p0:wAb) (p1:List Int):Option ((List (List Int)) × (List Int)) :=
 (idx p1 0).bind fun x3 =>
 (wBy 0 (↑p0.Race.Starts.length:Int) (fun k31 l26 =>
  (wBy 0 (w64 ((↑p0.Race.Splits.length:Int) + 1)) (fun k74 l70 =>
   (idx p1 (wAw p0.number (⟨(↑k31:Int),(↑k74:Int)⟩:wAI) 0)).bind fun x103 =>
   (app 8 l70 [w64 (x103 - x3)]).bind fun x117 =>
   some x117) []).bind fun y79 =>
  (app 24 l26 [y79]).bind fun x161 =>
  some x161) []).bind fun y36 =>
 (wBy 0 (↑p0.Race.Clocks.length:Int) (fun k215 l211 =>
  (wCe (↑k215:Int)).bind fun x243 =>
  (idx p1 (wAw p0.number x243 0)).bind fun x253 =>
  (app 8 l211 [w64 (x3 - x253)]).bind fun x268 =>
  some x268) []).bind fun y220 =>
 some (y36,y220)
def wEt (p0:wAD):Option ((List (List Int)) × (List Int) × Int) :=
 (wBz p0).bind fun (x5,x6) =>
 match x5 with
 | none =>
  if x6=0 then
   none
  else
   some ([],[],x6)
 | some x30 =>
  if x6=0 then
   (wAg x30 (-1) false).bind fun (x59,x60,x61) =>
   if x61=true then
    (wDm x30 x59.far).bind fun (x101,x102) =>
    some (x101,x102,0)
   else
    some ([],[],7)
  else
   some ([],[],x6)
def wEX (p0:wAD) (p1:List wAH):Option (Int × Int) :=
 (wCQ p0).bind fun x5 =>
 if x5=0 then
  (wCU p0 p1).bind fun x22 =>
  if x22=0 then
   if (↑p1.length:Int)=0 then
    some (0,8)
   else
    ((idx p1 0).bind fun x44 =>
    (wBO p0 x44).bind fun (x56,x57,x58) =>
    some (x56.skier,x56.mat)).bind fun (x39,x40) =>
    (wCh p0 (⟨x39,x40⟩:wAI) p1).bind fun (x279,x280,x281) =>
    if x281=true then
     if x279=(⟨x39,x40⟩:wAI) then
      if 0 <= x280 then
       some (0,8)
      else
       some (x280,0)
     else
      some (0,8)
    else
     some (0,8)
  else
   some (0,x22)
 else
  some (0,x5)
def wDB (p0:Int) (p1:wAJ) (p2:Int):Option (Bool) :=
 some (decide (p0=p2))
def wBv (p0:wAD) (p1:((Int × wAJ)->Option Bool)):Option (wAb) :=
 (mkz 32 (↑p0.Readings.length:Int) (⟨0,0,0,0⟩:wAJ)).bind fun x5 =>
 (wLM x5 0 p0.Readings).bind fun x13 =>
 (wBy 0 (↑x13.length:Int) (fun k34 (l32,k33) =>
  (chk (↑k34:Int) l32.length).bind fun _ =>
  (p1 ((↑k34:Int),(gd l32 k34))).bind fun x68 =>
  if x68=true then
   some (l32,k33)
  else
   (chk (((k33):Nat):Int) l32.length).bind fun _ =>
   some ((nE l32 k33 (gd l32 k34)),(k33 + 1))) (x13,0)).bind fun (y39,y40) =>
 (cut y39 0 ((y40:Nat):Int)).bind fun x114 =>
 (wCs (⟨p0.Starts,p0.Splits,p0.Clocks,x114⟩:wAD)).bind fun x130 =>
 some x130
def wDC (p0:Int) (p1:wAJ) (p2:Int) (p3:Int):Option (Bool) :=
 if p0=p2 then
  some true
 else
  some (decide (p0=p3))
def wEu (p0:wAD):Option ((List Int) × Int) :=
 (wBz p0).bind fun (x5,x6) =>
 match x5 with
 | none =>
  if x6=0 then
   none
  else
   some ([],x6)
 | some x30 =>
  if x6=0 then
   (wAu x30).bind fun x57 =>
   if x57=true then
    some ([],0)
   else
    jn (wFD 0 (↑p0.Readings.length:Int) (fun k73 _ =>
     (wBv p0 (fun x=>wDB x.1 x.2 (↑k73:Int))).bind fun x126 =>
     (wAu x126).bind fun x167 =>
     if x167=true then
      esc (some ([(↑k73:Int)],0))
     else
      some (.inl ())) ()) fun _ =>
    jn (wFD 0 (↑p0.Readings.length:Int) (fun k204 _ =>
     iter (fun x250 =>
      if x250 < (↑p0.Readings.length:Int) then
       (wBv p0 (fun x=>wDC x.1 x.2 (↑k204:Int) x250)).bind fun x309 =>
       (wAu x309).bind fun x350 =>
       if x350=true then
        esc (esc (some ([(↑k204:Int),x250],0)))
       else
        some (.inl (w64 (x250 + 1)))
      else
       esc (some (.inl ()))) big (↑(k204 + 1):Int)) ()) fun _ =>
    some ([],10)
  else
   some ([],x6)
def wDD (p0:Int) (p1:wAJ) (p2:Int):Option (Bool) :=
 some (decide (p1.Skier=p2))
def wEv (p0:wAD):Option ((List Int) × Int) :=
 (wBz p0).bind fun (x5,x6) =>
 match x5 with
 | none =>
  if x6=0 then
   none
  else
   some ([],x6)
 | some x30 =>
  if x6=0 then
   (wAu x30).bind fun x57 =>
   if x57=true then
    some ([],6)
   else
    (wBy 0 (↑p0.Starts.length:Int) (fun k89 l85 =>
     (wBv p0 (fun x=>wDD x.1 x.2 (↑k89:Int))).bind fun x145 =>
     (wAu x145).bind fun x186 =>
     if x186=true then
      (app 8 l85 [(↑k89:Int)]).bind fun x206 =>
      some x206
     else
      some l85) []).bind fun y94 =>
    some (y94,0)
  else
   some ([],x6)
def wBx (p0:List Int) (p1:List Int):Option (Bool) :=
 if (↑p0.length:Int)=(↑p1.length:Int) then
  jn (wFD 0 (↑p0.length:Int) (fun k4 _ =>
   (idx p0 (↑k4:Int)).bind fun x26 =>
   (idx p1 (↑k4:Int)).bind fun x34 =>
   if x26=x34 then
    some (.inl ())
   else
    esc (some false)) ()) fun _ =>
  some true
 else
  some false
def wCH :Option (Bool) :=
 (wAv).bind fun x1 =>
 (wAq 0 2).bind fun x23 =>
 (wEL x1 x23).bind fun (x59,x60) =>
 (wAv).bind fun x77 =>
 (wAq 0 1).bind fun x99 =>
 (wEL x77 x99).bind fun (x135,x136) =>
 (wAv).bind fun x153 =>
 (wAq 0 2).bind fun x175 =>
 (wAq 1 2).bind fun x185 =>
 (wFw x153 x175 x185).bind fun (x221,x222) =>
 (wAv).bind fun x239 =>
 (wAq 0 2).bind fun x261 =>
 (wAq 1 2).bind fun x271 =>
 (wEg x239 x261 x271 [(⟨3,0,0,false⟩:wAH),(⟨3,0,2,true⟩:wAH)]).bind fun (x321,x322) =>
 (wAv).bind fun x342 =>
 (wBm x342 2).bind fun (x390,x391) =>
 (wAv).bind fun x404 =>
 (wEW x404).bind fun (x452,x453) =>
 (if x60=0 then
  if x136=0 then
   if x222=0 then
    if x322=0 then
     if x391=0 then
      if x453=0 then
       if x59=(⟨2244,2256⟩:wAF) then
        if x135=(⟨1000,1200⟩:wAF) then
         if x221=(⟨247,251⟩:wAF) then
          if x321=251 then
           (wBu x390 [(⟨1,1⟩:wAF),(⟨2,2⟩:wAF)]).bind fun x506 =>
           if x506=true then
            (wAq 0 1).bind fun x518 =>
            (wBn x452 [x518]).bind fun x544 =>
            some (!x544)
           else
            some true
          else
           some true
         else
          some true
        else
         some true
       else
        some true
      else
       some true
     else
      some true
    else
     some true
   else
    some true
  else
   some true
 else
  some true).bind fun b466 =>
 if b466=true then
  some false
 else
  (wBP).bind fun x586 =>
  (wEt x586).bind fun (x634,x635,x636) =>
  (wBP).bind fun x654 =>
  (wEX x654 [(⟨0,1,0,true⟩:wAH),(⟨1,1,0,true⟩:wAH),(⟨3,0,1,false⟩:wAH),(⟨2,0,0,false⟩:wAH)]).bind fun (x716,x717) =>
  (wBP).bind fun x727 =>
  (wEu x727).bind fun (x775,x776) =>
  (wBP).bind fun x789 =>
  (wEv x789).bind fun (x837,x838) =>
  if x636=7 then
   if x717=0 then
    if x776=0 then
     if x838=0 then
      if x716=(-194) then
       (wBx x775 [1]).bind fun x886 =>
       if x886=true then
        (wBx x837 [1]).bind fun x914 =>
        some x914
       else
        some false
      else
       some false
     else
      some false
    else
     some false
   else
    some false
  else
   some false
def wBY (p0:List Int) (p1:List Int) (p2:Int):Option (Bool) :=
 (wCM p0).bind fun x1 =>
 (wCM p1).bind fun x17 =>
 (wAZ x1 1 7).bind fun (x33,x34) =>
 (wBy 0 x33 (fun k85 (l76,x79,x80,l81) =>
  (wAh (⟨l76,x79,x80⟩:wAP) 200).bind fun (x114,x115) =>
  (app 16 l81 [(⟨(↑(k85 + 1):Int),w64 (12000 + (w64 (7 * x114)))⟩:wAK)]).bind fun x133 =>
  some (x115.bytes,x115.next,x115.state,x133)) (x34.bytes,x34.next,x34.state,[])).bind fun (y90,y91,y92,y93) =>
 (wCN p2 50).bind fun x175 =>
 (wCo y93 (⟨w64 (x175 + 1),1000⟩:wAX)).bind fun (x190,x191) =>
 if x191=0 then
  if (↑x190.length:Int)=(↑y93.length:Int) then
   (wAZ (⟨y90,y91,y92⟩:wAP) 1 3).bind fun (x223,x224) =>
   (wBy 0 x223 (fun k279 (l269,x272,x273,l274,x278) =>
    (wAZ (⟨l269,x272,x273⟩:wAP) 1 9).bind fun (x310,x311) =>
    (wAh x311 20).bind fun (x324,x325) =>
    (app 16 l274 [(⟨w64 (50 * x310),w64 ((w64 (50 * x310)) + (w64 (10 * x324)))⟩:wAF)]).bind fun x350 =>
    some (x325.bytes,x325.next,x325.state,x350,w64 ((w64 (x278 + (w64 ((w64 (50 * x310)) + (w64 (10 * x324)))))) - (w64 (50 * x310))))) (x224.bytes,x224.next,x224.state,[],0)).bind fun (y284,y285,y286,y287,y288) =>
   (wBy 0 (↑x190.length:Int) (fun k1158 (l1145,l1149,x1152,x1153,l1154) =>
    (chk (↑k1158:Int) x190.length).bind fun _ =>
    (app 8 l1145 [(gd x190 k1158).Time]).bind fun x1217 =>
    (wBy 0 (↑y287.length:Int) (fun k1254 (l1248,x1251,x1252,x1253) =>
     (chk (↑k1254:Int) y287.length).bind fun _ =>
     (wAZ (⟨l1248,x1251,x1252⟩:wAP) ((gd y287 k1254).Lo) ((gd y287 k1254).Hi)).bind fun (x1300,x1301) =>
     some (x1301.bytes,x1301.next,x1301.state,w64 (x1253 + x1300))) (l1149,x1152,x1153,(gd x190 k1158).Time)).bind fun (y1259,y1260,y1261,y1262) =>
    (app 8 l1154 [y1262]).bind fun x1355 =>
    some (x1217,y1259,y1260,y1261,x1355)) ([],x17.bytes,x17.next,x17.state,[])).bind fun (y1163,y1164,y1165,y1166,y1167) =>
   (wBm (⟨y1163,y287,[(⟨(⟨0,0⟩:wAF),0⟩:wAO)],[]⟩:wAD) (↑y287.length:Int)).bind fun (x1426,x1427) =>
   if x1427=0 then
    if (↑x1426.length:Int)=(↑x190.length:Int) then
     (wBk (⟨y1163,y287,[(⟨(⟨0,0⟩:wAF),0⟩:wAO)],[]⟩:wAD)).bind fun x1447 =>
     (wBy 0 (↑y1167.length:Int) (fun k1490 l1487 =>
      (chk (↑k1490:Int) y1167.length).bind fun _ =>
      (app 32 l1487 [(⟨(↑k1490:Int),(↑y287.length:Int),0,(gd y1167 k1490)⟩:wAJ)]).bind fun x1527 =>
      some x1527) x1447.Readings).bind fun y1495 =>
     (wBm (⟨x1447.Starts,x1447.Splits,x1447.Clocks,y1495⟩:wAD) (↑y287.length:Int)).bind fun (x1589,x1590) =>
     if x1590=0 then
      if (↑x1589.length:Int)=(↑x190.length:Int) then
       jn (wFD 0 (↑x190.length:Int) (fun k1609 _ =>
        (wBy 0 (↑x190.length:Int) (fun k1643 (x1641,x1642) =>
         (chk (↑k1643:Int) y1167.length).bind fun _ =>
         (chk (↑k1609:Int) y1167.length).bind fun _ =>
         if (gd y1167 k1643) < (gd y1167 k1609) then
          (idx y1163 (↑k1609:Int)).bind fun x1688 =>
          (idx y1163 (↑k1643:Int)).bind fun x1704 =>
          if (w64 (x1704 + y288)) < x1688 then
           some (w64 (x1641 + 1),w64 (x1642 + 1))
          else
           some (w64 (x1641 + 1),x1642)
         else
          (idx y1163 (↑k1609:Int)).bind fun x1721 =>
          (idx y1163 (↑k1643:Int)).bind fun x1737 =>
          if (w64 (x1737 + y288)) < x1721 then
           some (x1641,w64 (x1642 + 1))
          else
           some (x1641,x1642)) (1,1)).bind fun (y1648,y1649) =>
        (chk (↑k1609:Int) x1589.length).bind fun _ =>
        if (gd x1589 k1609)=(⟨y1648,y1648⟩:wAF) then
         (chk (↑k1609:Int) x1426.length).bind fun _ =>
         (wCA y1648 (gd x1426 k1609)).bind fun x1785 =>
         if x1785=true then
          if ((gd x1426 k1609).Lo)=y1649 then
           some (.inl ())
          else
           esc (some false)
         else
          esc (some false)
        else
         esc (some false)) ()) fun _ =>
       (wCH).bind fun x1828 =>
       some x1828
      else
       some false
     else
      some false
    else
     some false
   else
    some false
  else
   some false
 else
  some false
end Go.Proofs.YtkghaiefcjgfkaaGreat
namespace Go.KL
open Go.RowKit
section
variable {B:Base} {U:PHeap} {L:List Res} {w:World}
theorem St.cutRowM {α:Type} {enc:α->List Value} {m:List α} {k c T sz b:Nat} {A:Option Addr} (h:St B U L w) (hk:L[k]?=some (.row A c T sz (nf enc m))):St B U (L.set k (.row A c T sz (nf enc (m.take b)))) w :=
 h.cutRow (a:=nf enc (m.take b)) (d:=nf enc (m.drop b)) (by rw [<- List.flatMap_append,nG];exact hk)
end
section
variable {P:Program} {N:Nat} {l:List Oper} {Q:wER} {D:List Deferred} {ks:List Nat} {s:Sch} {σ:Env} {w:World} {B:Base} {U:PHeap} {L:List Res} {i d:Nat} {o:Oper}
theorem slc0 {A:Option Addr} {c sz:Nat}:Value.slice (if c=(0:Int).toNat then A else A.map (·.add ((0:Int).toNat * sz))) ((0:Int).toNat - (0:Int).toNat) (c - (0:Int).toNat)=.slice A 0 c:=by
 have:A.map (·.add ((0:Int).toNat * sz))=A:=by
  cases A with
  | none=>rfl
  | some a=>simp [Addr.add]
 rw [this]
 simp
end
theorem St.cutRowC {α:Type} {enc:α->List Value} {m xs:List α} {k c T sz:Nat} {b:Int} {A:Option Addr} {B:Base} {U:PHeap} {L:List Res} {w:World} (h:St B U L w) (hk:L[k]?=some (.row A c T sz (nf enc m))) (hc:cut m 0 b=some xs):St B U (L.set k (.row A c T sz (nf enc xs))) w:=by
 obtain ⟨h0,h1,h2,rfl,hn⟩:=wID hc
 have:=h.cutRowM (b:=b.toNat) hk
 simpa using this
end Go.KL
namespace Go.KL
open Go.RowKit
section
variable {P:Program} {N:Nat} {l:List Oper} {Q:wER} {D:List Deferred} {ks:List Nat} {s:Sch} {σ:Env} {w:World} {B:Base} {U:PHeap} {L:List Res} {i d:Nat} {o:Oper}
theorem OKS.appendP {α:Type} {t e sz j c c2 k:Nat} {A A2:Option Addr} {inf:TypeInfo} {x y:Operand} {enc:α->List Value} {m:List α} {v:α}
  (ho:l[i]?=some o) (hd:o.dst=some d) (hN:Nat.blt d N=true) (hw:wanted l σ o=true) (hop:o.op=.call { callee:=.builtin .append,args:=#[x,y],argTypes:=#[t,t] })
  (ht:P.underlying t=some (.slice e)) (hi:P.info? e=some inf) (hsize:inf.size=sz) (hsz:Nat.blt 0 sz=true)
  (hS:St B U L w) (hk:L[j]?=some (.row A c e sz (m.flatMap enc))) (hx:ev σ x=.slice A k c) (hy:ev σ y=.slice A2 1 c2)
  (hsrc:([v]:List α).length=0 \/ ∃ a,A2=some a/\∀ j u,(([v]:List α).flatMap enc)[j]?=some u->w.cell? (a.add j)=some u) (hel:∀ x,(enc x).length=sz) (h1:∀ x,(enc x).all (·.oneCell')=true)
  (hm:chk (k:Int) m.length=some ()) (hne:wFe (kOf ks i)=false)
  (kk:∀ w',St B U (L.set j (.row A c e sz ((m.set k v).flatMap enc))) w'->OKS N P l Q D ks s (upd σ d (.slice A (k + 1) c)) w'):OKS N P l Q D ks (.fx i s .stop) σ w:=by
 have hkm:k < m.length:=by have:=wAR hm;omega
 have hsz':0 < sz:=by simpa [Nat.blt_eq] using hsz
 have hlen:(m.flatMap enc).length=m.length * sz:=wAC hel m
 obtain ⟨b0,hA⟩:=hS.rowSome hk (by rw [hlen];exact Nat.mul_pos (by omega) hsz')
 subst hA hsize
 obtain ⟨cur,g1,g2,g3,g4,g5⟩:=RowAt.cells (hS.at_ _ (ke hk))
 have hmc:m.length <= c:=by rw [hlen] at g2;exact Nat.le_of_mul_le_mul_right g2 hsz'
 obtain ⟨a,rfl,hc⟩:=hsrc.resolve_left (by simp)
 have e1:([v]:List α).flatMap enc=enc v:=by simp
 rw [e1] at hc
 have hle:(k + 1) * inf.size <= c * inf.size:=nr _ (by omega)
 rw [kr,kZ] at hle
 have hr:=run_append_room (P:=P) w t o.type e inf ht hi b0 k c cur g1 a 1 c2 (enc v) (by rw [hel,kZ]) hc (fun u hu=>kD.1 (h1 v) u hu) (by omega) (by rw [hel,g4];exact hle)
 have hset:cur.toList.take (k * inf.size) ++ enc v ++ cur.toList.drop (k * inf.size + (enc v).length)=wEl cur.toList (k * inf.size) (enc v):=(wIj _ _ _ (by rw [hel];simp only [Array.length_toList];omega)).symm
 rw [hset] at hr
 refine OKS.v (v:=.slice (some ⟨b0,0,none⟩) (k + 1) c) (w':=w.setRow b0 (wEl cur.toList (k * inf.size) (enc v)).toArray) ho hd hN hw ⟨by rw [hop];rfl,?_⟩ (.inl hne) (kk _ (hS.set hk ⟨rfl,⟨rfl,nL _⟩,rfl,by simp [World.setRow],fun q _ hq=>setRow_other w b0 q _ fun e=>hq (by rw [e];rfl)⟩ (.inr ⟨b0,_,rfl,setRow_heap w b0 cur _ e _ g1,?_,g3,?_,?_⟩) fun b hb=>.inl hb))
 ·simp [execOp,hop,resolve,invoke,builtin,hx,hy,hr,Result.andThen]
 ·rw [wAC hel,nZ]
  exact nr _ hmc
 ·simp [wDF,g4]
 ·have h2:(m.flatMap enc).length=((m.set k v).flatMap enc).length:=by rw [wAC hel,wAC hel,nZ]
  have h3:k * inf.size + (enc v).length <= (m.flatMap enc).length:=by
   have:(k + 1) * inf.size <= m.length * inf.size:=nr _ (by omega)
   rw [kr,kZ] at this
   rw [hel,hlen];exact this
  show (wEl cur.toList (k * inf.size) (enc v)).take _=_
  rw [<- h2,wGU _ _ _ _ h3,g5]
  have hx:m[k]?=some m[k]:=nX hkm
  have:=wEs (f:=enc) hel (vs:=enc v) (off:=0) m k _ v hx (by rw [hel];omega) (by
   have hv:(enc m[k]).length=(enc v).length:=by rw [hel,hel]
   rw [wIj _ _ _ (by omega),List.take_zero,List.nil_append,nb,<- hv,List.drop_length,nv])
  simpa using this
end
theorem wNO {α:Type} {m xs:List α} {k:Nat} (h:Go.KL.cut m 0 (k:Int)=some xs):xs.length=k:=by
 obtain ⟨_,_,_,_,hn⟩:=wID h
 rw [hn];simp
end Go.KL
namespace Go.KL
open Go.RowKit
section
variable {N:Nat} {P:Program} {l:List Oper} {Q:wER} {D:List Deferred} {ks:List Nat} {s:Sch} {σ:Env} {w:World} {B:Base} {U:PHeap} {L:List Res} {i d:Nat} {o:Oper}
theorem Runs.shr1 {t u:TypeId} {x y:Operand} {m:Int} (ho:o.op=.binOp .shr t x y u) (hx:ev σ x=.int .u64 m) (hy:ev σ y=.int .u64 1):Runs P σ w o (.int .u64 (m / 2)) w:=by
 refine ⟨by rw [ho];rfl,?_⟩
 have e:m.fdiv 2=m / 2:=Int.fdiv_eq_ediv_of_nonneg m (by decide)
 have b:Min.min 1 IntKind.u64.bits=1:=by decide
 simp [execOp,ho,hx,hy,binOp,eqGuard,Op.shift,b]
 exact e
theorem wJs (v:Value) (k n:Nat) (hk:0 < k):madeCells (kH k v) n=(nK n v).toArray:=by
 apply Array.ext'
 simp only [madeCells]
 apply kS
 ·simp
 ·intro i h1 h2
  simp at h1 ⊢
  have hm:i % k < (kH k v).size:=by simpa using Nat.mod_lt i hk
  rw [getElem!_pos (kH k v) (i % k) hm]
  simp
theorem wFh {α:Type} {enc:α->List Value} {z:α} {v:Value} {k:Nat} (h:enc z=nK k v) (n:Nat):nf enc (nK n z)=nK (n * k) v:=by
 induction n with
 | zero=>simp
 | succ n ih=>rw [List.replicate_succ,kO,ih,h,List.replicate_append_replicate,kr,kZ,Nat.add_comm]
theorem OKS.makeSliceZ {α:Type} {t e:TypeId} {inf:TypeInfo} {x y:Operand} {n:Int} {v u:Value} {enc:α->List Value} {z:α} {xs:List α} {sz:Nat} (ho:l[i]?=some o) (hd:o.dst=some d) (hN:Nat.blt d N=true) (hw:wanted l σ o=true) (hop:o.op=.makeSlice t x y)
  (ht:P.underlying t=some (.slice e)) (hi:P.info? e=some inf) (hz:inf.zero=some u) (hc:u.cells=kH sz v) (hs:inf.size=sz) (henc:enc z=nK sz v) (hsz:0 < sz) (hb:sz <= 16) (hx:ev σ x=.int .i64 n) (hy:ev σ y=.int .i64 n) (hm:mkz inf.bytes n z=some xs) (hS:St B U L w)
  (k:∀ w' b,St B U (.row (some ⟨b,0,none⟩) xs.length e sz (nf enc xs) :: L) w'->OKS N P l Q D ks s (upd σ d (.slice (some ⟨b,0,none⟩) xs.length xs.length)) w'):OKS N P l Q D ks (.fx i s .stop) σ w:=by
 unfold mkz at hm
 split at hm
 ·rename_i h
  obtain ⟨h0,h1,h2⟩:=h
  cases hm
  obtain ⟨m,rfl⟩:=kW h0
  have hr:=run_make (P:=P) w t e inf _ ht hi hz .i64 .i64 (m:Int) (m:Int) (by omega) (by omega) h2 (by omega)
  simp only [hs,nJ,hc,wJs v sz (m * sz) hsz] at hr
  simp only [nJ,List.length_replicate,wFh henc] at k
  have hmax:m <= maxLen:=by
   have h16:(16777216:Nat) <= maxLen:=by decide
   omega
  refine OKS.v (v:=.slice (some ⟨w.heap.size,0,none⟩) m m) (w':=w.alloc (.cells (nK (m * sz) v).toArray e)) ho hd hN hw ⟨by rw [hop];rfl,?_⟩ (.inr (wBh w _))
   (k _ _ (hS.new (wBh w _) (.inr ⟨_,(nK (m * sz) v).toArray,rfl,wEq w _ e,by simp,hmax,by simp,by simp⟩) rfl (nL _)))
  simp [execOp,hop,hx,hy,hr,Result.andThen]
 ·cases hm
end
end Go.KL
namespace Go.KL.Net
structure Ed where
 a:Nat
 b:Nat
 c:Int
def wGn (es:List Ed) (x:Nat->Int):Prop:=∀ e ∈ es,x e.b <= x e.a + e.c
theorem wMY {P:Int->Prop} {B:Int} (h:∃ m,P m) (hB:∀ m,P m->m <= B):∃ m,P m/\∀ k,P k->k <= m:=by
 have key:∀ (d:Nat) (m:Int),P m->(B - m).toNat <= d->∃ m,P m/\∀ k,P k->k <= m:=by
  intro d
  induction d with
  | zero =>
   intro m hm hd
   exact ⟨m,hm,fun k hk=>by have:=hB k hk;omega⟩
  | succ d ih =>
   intro m hm hd
   rcases kv (∃ k,P k/\m < k) with ⟨k,hk,hlt⟩ | h
   ·exact ih k hk (by have:=hB k hk;omega)
   ·exact ⟨m,hm,fun k hk=>by
     rcases kj m k with c | c
     ·exact absurd ⟨k,hk,c⟩ h
     ·exact c⟩
 obtain ⟨m,hm⟩:=h
 exact key _ m hm (nL _)
structure Con (n:Nat) (R:Int) (es:List Ed):Prop where
 ends:∀ e ∈ es,e.a < n/\e.b < n
 near:∀ x,wGn es x->∀ a b,a < n->b < n->x b - x a <= R
 all:∀ (S:Nat->Prop) (i:Nat),i < n->S i->(∀ e ∈ es,S e.a->S e.b)->∀ v,v < n->S v
structure Most (n:Nat) (es:List Ed) (top:Nat->Int) (δ:Nat->Int):Prop where
 ok:wGn es δ
 le:∀ v,v < n->δ v <= top v
 gr:∀ x,wGn es x->(∀ v,v < n->x v <= top v)->∀ v,v < n->x v <= δ v
theorem shift {es:List Ed} {x:Nat->Int} (h:wGn es x) (k:Int):wGn es fun v=>x v + k:=fun e he=>by have:=h e he;simp only;omega
theorem wKb {n:Nat} {R:Int} {es:List Ed} (C:Con n R es) {x:Nat->Int} (hx:wGn es x) {top:Nat->Int} {i:Nat} (hi:i < n) (h0:top i=0) (hp:∀ v,v < n->0 <= top v):∃ δ,Most n es top δ:=by
  have ex:∀ v,∃ m:Int,(v < n->(∃ y,wGn es y/\(∀ u,u < n->y u <= top u)/\y v=m)/\∀ y,wGn es y->(∀ u,u < n->y u <= top u)->y v <= m):=by
    intro v
    by_cases hv:v < n
    · obtain ⟨m,hm,hm2⟩:=wMY (P:=fun m=>∃ y,wGn es y/\(∀ u,u < n->y u <= top u)/\y v=m) (B:=R) ⟨_,fun u=>x u + (-(x i + R)),shift hx _,fun u hu=>by
          have:=C.near x hx i u hi hu
          have:=hp u hu
          simp only
          omega,rfl⟩ (by
          rintro m ⟨y,hy,hy2,rfl⟩
          have:=C.near y hy i v hi hv
          have:=hy2 i hi
          omega)
      exact ⟨m,fun _=>⟨hm,fun y hy hy2=>hm2 _ ⟨y,hy,hy2,rfl⟩⟩⟩
    · exact ⟨0,fun h=>absurd h hv⟩
  obtain ⟨δ,sp⟩:=Classical.axiomOfChoice ex
  refine ⟨δ,fun e he=>?_,fun v hv=>?_,fun y hy hy2 v hv=>(sp v hv).2 y hy hy2⟩
  · obtain ⟨h1,h2⟩:=C.ends e he
    obtain ⟨⟨y,hy,hy2,hy3⟩,_⟩:=sp e.b h2
    have:=(sp e.a h1).2 y hy hy2
    have:=hy e he
    omega
  · obtain ⟨⟨y,hy,hy2,hy3⟩,_⟩:=sp v hv
    have:=hy2 v hv
    omega
theorem Most.hi {n:Nat} {R:Int} {es:List Ed} (C:Con n R es) {top δ:Nat->Int} (M:Most n es top δ) {i:Nat} (hi:i < n) (h0:top i=0):∀ v,v < n->δ v <= R:=fun v hv=>by
 have:=C.near δ M.ok i v hi hv
 have:=M.le i hi
 omega
theorem Most.tight {n:Nat} {es:List Ed} {top δ:Nat->Int} (M:Most n es top δ) (hes:∀ e ∈ es,e.a < n/\e.b < n) (low:Nat->Int) (h0:∀ v,v < n->low v <= top v) (hT:∃ v,v < n/\δ v < low v) (hge:∀ v,v < n->δ v <= low v) :
  ∃ e ∈ es,low e.a=δ e.a/\δ e.b < low e.b/\δ e.b=δ e.a + e.c:=by
 rcases kv (∃ e ∈ es,low e.a=δ e.a/\δ e.b < low e.b/\δ e.b=δ e.a + e.c) with h | h
 ·exact h
 ·exfalso
  obtain ⟨v,hv,hlt⟩:=hT
  have hx:wGn es (fun u=>if δ u < low u then δ u + 1 else δ u):=by
   intro e he
   obtain ⟨h1,h2⟩:=hes e he
   have a:=M.ok e he
   have b:=hge e.a h1
   have c:=hge e.b h2
   simp only
   by_cases e1:δ e.b < low e.b
   ·by_cases e2:δ e.a < low e.a
    ·rw [if_pos e1,if_pos e2];omega
    ·rw [if_pos e1,if_neg e2]
     by_cases e3:δ e.b=δ e.a + e.c
     ·exact absurd ⟨e,he,by omega,e1,e3⟩ h
     ·omega
   ·rw [if_neg e1]
    split <;> omega
  have:=M.gr _ hx (fun u hu=>by
   have:=M.le u hu
   have:=h0 u hu
   show (if δ u < low u then δ u + 1 else δ u) <= top u
   split <;> omega) v hv
  have this:(if δ v < low v then δ v + 1 else δ v) <= δ v:=this
  rw [if_pos hlt] at this
  omega
theorem wJT (p q:Nat->Bool) (hpq:∀ v,p v=true->q v=true):∀ (l:List Nat),(∃ v ∈ l,p v=false/\q v=true)->l.countP p < l.countP q
 | [],⟨v,h,_⟩=>by cases h
 | a :: l,⟨v,h,hp,hq⟩=>by
  have mono:∀ l:List Nat,l.countP p <= l.countP q:=fun l=>List.countP_mono_left fun v _ h=>hpq v h
  rw [List.countP_cons,List.countP_cons]
  rcases nc.1 h with rfl | h
  ·have:=mono l
   simp only [hp,hq,if_true,nS,if_false]
   omega
  ·have:=wJT p q hpq l ⟨v,h,hp,hq⟩
   have:(if p a=true then 1 else 0) <= (if q a=true then 1 else 0):=by
    cases e:p a with
    | true=>rw [hpq a e];simp
    | false=>simp
   omega
def wNB (n:Nat) (δ low:Nat->Int):Nat:=(nT n).countP fun v=>decide (low v=δ v)
theorem wMZ (n:Nat) (δ low:Nat->Int):wNB n δ low <= n:=by
 have:=List.countP_le_length (p:=fun v=>decide (low v=δ v)) (l:=nT n)
 rw [List.length_range] at this
 exact this
theorem wMa {n:Nat} {δ low low':Nat->Int} (h1:∀ v,v < n->δ v <= low' v) (h2:∀ v,v < n->low' v <= low v) {v:Nat} (hv:v < n) (a:δ v < low v) (b:low' v=δ v):wNB n δ low < wNB n δ low':=by
 have:=wJT (fun v=>decide (low v=δ v)) (fun v=>decide (low' v=δ v) || !decide (v < n)) (fun u hu=>by
  have hu':=of_decide_eq_true hu
  by_cases hun:u < n
  ·have:=h1 u hun
   have:=h2 u hun
   simp only [Bool.or_eq_true,decide_eq_true_eq]
   exact .inl (by omega)
  ·simp [hun]) (nT n) ⟨v,kK.2 hv,decide_eq_false (by omega),by simp [b]⟩
 have e:(nT n).countP (fun v=>decide (low' v=δ v) || !decide (v < n))=(nT n).countP (fun v=>decide (low' v=δ v)):=by
  apply List.countP_congr
  intro u hu
  have:u < n:=kK.1 hu
  simp [this]
 unfold wNB
 omega
structure IsD (n:Nat) (es:List Ed) (i:Nat) (f:Nat->Int):Prop where
 ok:wGn es f
 zero:f i=0
 gr:∀ x,wGn es x->∀ v,v < n->x v - x i <= f v
end Go.KL.Net
namespace Go.KL
variable {S S' B B' α:Type}
theorem wJU {body:Nat->S->Option (S ⊕ B)} (I:Nat->S->Prop) (Z:B->Prop):∀ (m k:Nat) (s:S),I k s ->
  (∀ i s,k <= i->i < k + m->I i s->(∃ s',body i s=some (.inl s')/\I (i + 1) s') \/ ∃ b,body i s=some (.inr b)/\Z b) ->
  (∃ s',forN body m k s=some (.inl s')/\I (k + m) s') \/ ∃ b,forN body m k s=some (.inr b)/\Z b
 | 0,k,s,h,_=>.inl ⟨s,rfl,h⟩
 | m + 1,k,s,h,hb=>by
  simp only [forN]
  rcases hb k s (nL _) (by omega) h with ⟨s',h1,h2⟩ | ⟨b,h1,h2⟩
  ·rw [h1]
   have:=wJU I Z m (k + 1) s' h2 fun i s h2 h3 h4=>hb i s (by omega) (by omega) h4
   rwa [show k + 1 + m=k + (m + 1) from by omega] at this
  ·rw [h1];exact .inr ⟨b,rfl,h2⟩
theorem wEe {body:Nat->S->Option S} (I:Nat->S->Prop):∀ (m k:Nat) (s:S),I k s ->
  (∀ i s,k <= i->i < k + m->I i s->∃ s',body i s=some s'/\I (i + 1) s')->∃ s',forN' body m k s=some s'/\I (k + m) s'
 | 0,k,s,h,_=>⟨s,rfl,h⟩
 | m + 1,k,s,h,hb=>by
  simp only [forN']
  obtain ⟨s',h1,h2⟩:=hb k s (nL _) (by omega) h
  rw [h1]
  have:=wEe I m (k + 1) s' h2 fun i s h2 h3 h4=>hb i s (by omega) (by omega) h4
  rwa [show k + 1 + m=k + (m + 1) from by omega] at this
theorem wEE {body:Nat->S->Option (S ⊕ B)} {n:Nat} {s:S} (hn:n <= 9223372036854775807):wFD 0 (n:Int) body s=forN body n 0 s:=by
 unfold wFD
 rw [if_pos (by omega),show ((n:Int) - 0).toNat=n from by omega]
theorem wDX {body:Nat->S->Option S} {n:Nat} {s:S} (hn:n <= 9223372036854775807):wBy 0 (n:Int) body s=forN' body n 0 s:=by
 unfold wBy
 rw [if_pos (by omega),show ((n:Int) - 0).toNat=n from by omega]
theorem wFH {R:Type} {l:List α} {g:α->Option (Unit ⊕ R)} {p:α->Bool} {z:R} {K:Unit->Option R} (hg:∀ a ∈ l,g a=if p a=true then some (.inl ()) else some (.inr z)) (hn:l.length <= 9223372036854775807) :
  jn (wFD 0 (↑l.length:Int) (fun k (_:Unit)=>(idx l (↑k:Int)).bind g) ()) K=if l.all p=true then K () else some z:=by
 rw [wEE hn]
 have key:∀ (m k:Nat),k + m=l.length->jn (forN (fun k (_:Unit)=>(idx l (↑k:Int)).bind g) m k ()) K=if (l.drop k).all p=true then K () else some z:=by
  intro m
  induction m with
  | zero=>intro k hk;rw [ka (by omega)];rfl
  | succ m ih =>
   intro k hk
   have hlt:k < l.length:=by omega
   have e:l.drop k=l[k] :: l.drop (k + 1):=nw hlt
   rw [e,List.all_cons,forN,wIc,nX hlt]
   simp only [hH,hg _ (List.getElem_mem hlt)]
   by_cases h:p l[k]=true
   ·rw [h]
    simp only [if_true,Bool.true_and]
    exact ih (k + 1) (by omega)
   ·rw [if_neg h]
    have:p l[k]=false:=by simpa using h
    simp only [this,Bool.false_and,wIe,nS,if_false]
 exact key l.length 0 (by omega)
theorem wLY {β:Type} {l:List α} {f:α->β} {bytes:Nat} {g:α->List β->Option (List β)} (hg:∀ a ∈ l,∀ r,g a r=app bytes r [f a]) (hn:l.length <= 9223372036854775807) (hb:l.length * bytes <= 140737488355328) :
  wBy 0 (↑l.length:Int) (fun k r=>(idx l (↑k:Int)).bind fun x=>g x r) []=some (l.map f):=by
 rw [wDX hn]
 have key:∀ (m k:Nat) (r:List β),k + m=l.length->r.length=k->forN' (fun k r=>(idx l (↑k:Int)).bind fun x=>g x r) m k r=some (r ++ (l.drop k).map f):=by
  intro m
  induction m with
  | zero=>intro k r hk _;rw [ka (by omega)];simp [forN']
  | succ m ih =>
   intro k r hk hr
   have hlt:k < l.length:=by omega
   have e:l.drop k=l[k] :: l.drop (k + 1):=nw hlt
   rw [e,forN',wIc,nX hlt]
   have ha:app bytes r [f l[k]]=some (r ++ [f l[k]]):=by
    refine if_pos ?_
    simp only [nI,nO]
    exact Nat.le_trans (nr _ (by omega)) hb
   simp only [hH,hg _ (List.getElem_mem hlt),ha]
   rw [ih (k + 1) _ (by omega) (by simp [hr]),nA]
   rfl
 exact key l.length 0 [] (by omega) rfl
theorem wEO {bytes:Nat} {l m:List α} (h:(l.length + m.length) * bytes <= 140737488355328):app bytes l m=some (l ++ m):=if_pos h
end Go.KL
namespace Go.KL
variable {S B R α β:Type}
theorem wJV {body:Nat->S->Option (S ⊕ B)} (s:Nat->S):∀ (m k:Nat),(∀ i,k <= i->i < k + m->body i (s i)=some (.inl (s (i + 1))))->forN body m k (s k)=some (.inl (s (k + m)))
 | 0,_,_=>rfl
 | m + 1,k,h=>by
  rw [forN,h k (nL _) (by omega)]
  have:=wJV s m (k + 1) fun i h1 h2=>h i (by omega) (by omega)
  rw [show k + 1 + m=k + (m + 1) by omega] at this
  exact this
theorem wIK {body:Nat->S->Option S} (s:Nat->S):∀ (m k:Nat),(∀ i,k <= i->i < k + m->body i (s i)=some (s (i + 1)))->forN' body m k (s k)=some (s (k + m))
 | 0,_,_=>rfl
 | m + 1,k,h=>by
  rw [forN',h k (nL _) (by omega)]
  have:=wIK s m (k + 1) fun i h1 h2=>h i (by omega) (by omega)
  rw [show k + 1 + m=k + (m + 1) by omega] at this
  exact this
theorem wDi {body:Nat->S->Option S} {n:Nat} {s0:S} (s:Nat->S) (h0:s 0=s0) (hn:n <= 9223372036854775807) (h:∀ i,i < n->body i (s i)=some (s (i + 1))):wBy 0 (n:Int) body s0=some (s n):=by
 rw [wDX hn,<- h0]
 have:=wIK s n 0 fun i _ hi=>h i (by omega)
 rwa [nb] at this
theorem wLZ {body:Nat->S->Option (S ⊕ B)} {n:Nat} {s0:S} (s:Nat->S) (h0:s 0=s0) (hn:n <= 9223372036854775807) (h:∀ i,i < n->body i (s i)=some (.inl (s (i + 1)))):wFD 0 (n:Int) body s0=some (.inl (s n)):=by
 rw [wEE hn,<- h0]
 have:=wJV s n 0 fun i _ hi=>h i (by omega)
 rwa [nb] at this
theorem wKc {body:Nat->Unit->Option (Unit ⊕ B)} {n:Nat} (hn:n <= 9223372036854775807) (h:∀ i,i < n->body i ()=some (.inl ())):wFD 0 (n:Int) body ()=some (.inl ()):=wLZ (fun _=>()) rfl hn h
theorem wFW [Inhabited α] {l:List α} {k:Nat} (h:k < l.length):idx l (k:Int)=some (gd l k):=by
 rw [wIc]
 exact wAt h
theorem wCF [Inhabited α] {l:List α} {k:Nat} (h:k < l.length):gd l k ∈ l:=ke (wAt h)
theorem wDo [Inhabited α] {l:List α} {k:Nat} (h:k < l.length):l.take (k + 1)=l.take k ++ [gd l k]:=by
 rw [List.take_add_one,wAt h]
 rfl
theorem wGc [Inhabited α] {l:List α} {k:Nat} (h:k < l.length):l.drop k=gd l k :: l.drop (k + 1):=by
 have:=wAt h
 rw [nX h] at this
 rw [nw h,nh this]
theorem wEP [Inhabited α] {l m:List α} {k:Nat} (h:k < l.length):gd (l ++ m) k=gd l k:=by
 have h1:=wAt (xs:=l ++ m) (k:=k) (by rw [hJ];omega)
 rw [nN h,wAt h] at h1
 exact (nh h1).symm
theorem wHg [Inhabited α] (l m:List α) (x:α):gd (l ++ x :: m) l.length=x:=by
 have h1:=wAt (xs:=l ++ x :: m) (k:=l.length) (by simp)
 rw [nU (nL _),kT] at h1
 exact (nh h1).symm
theorem wIm [Inhabited α] [Inhabited β] (f:α->β) {l:List α} {k:Nat} (h:k < l.length):gd (l.map f) k=f (gd l k):=by
 have h1:=wAt (xs:=l.map f) (k:=k) (by simpa using h)
 rw [ko,wAt h] at h1
 exact (nh h1).symm
theorem wMb (o:Option α):(o.bind fun x=>some x)=o:=by cases o <;> rfl
theorem wMC [Inhabited α] {l m:List α} (h:l.length=m.length) (hk:∀ k,k < l.length->gd l k=gd m k):l=m:=by
 apply kP
 intro k
 rcases kl k l.length with h1 | h1
 ·rw [wAt h1,wAt (by omega),hk k h1]
 ·rw [kG h1,kG (by omega)]
end Go.KL
namespace Go.KL
variable {S B α:Type}
theorem wKd {body:S->Option (S ⊕ B)} (F:Nat):∀ (m:Nat) (s:Nat->S),(∀ i,i < m->body (s i)=some (.inl (s (i + 1))))->iter body (m + F) (s 0)=iter body F (s m)
 | 0,s,_=>by rw [nb]
 | m + 1,s,h=>by
  rw [show m + 1 + F=(m + F) + 1 by omega,iter,h 0 (by omega)]
  exact wKd F m (fun i=>s (i + 1)) fun i hi=>h (i + 1) (by omega)
theorem wIn {body:S->Option (S ⊕ B)} {m:Nat} (s:Nat->S) (h:∀ i,i < m->body (s i)=some (.inl (s (i + 1)))) {b:B} (hb:body (s m)=some (.inr b)) {s0:S} (h0:s 0=s0) (hm:m < 1000000):iter body big s0=some b:=by
 subst h0
 have:=wKd (big - m - 1 + 1) m s h
 rw [show m + (big - m - 1 + 1)=big by unfold big;omega] at this
 rw [this,iter,hb]
theorem wEQ {body:S->Option (S ⊕ B)} (I:Nat->S->Prop) (Z:B->Prop) (m:Nat) (step:∀ i s,i <= m->I i s->(i < m/\∃ s',body s=some (.inl s')/\I (i + 1) s') \/ ∃ b,body s=some (.inr b)/\Z b) {s0:S} (h0:I 0 s0) (hm:m < 1000000):∃ b,iter body big s0=some b/\Z b:=by
 have key:∀ (d i:Nat) (s:S),i + d=m->I i s->∀ F,d < F->∃ b,iter body F s=some b/\Z b:=by
  intro d
  induction d with
  | zero =>
   intro i s hi hI F hF
   obtain ⟨F,rfl⟩:∃ G,F=G + 1:=⟨F - 1,by omega⟩
   rcases step i s (by omega) hI with ⟨h,_⟩ | ⟨b,h1,h2⟩
   ·omega
   ·exact ⟨b,by rw [iter,h1],h2⟩
  | succ d ih =>
   intro i s hi hI F hF
   obtain ⟨F,rfl⟩:∃ G,F=G + 1:=⟨F - 1,by omega⟩
   rcases step i s (by omega) hI with ⟨_,s',h1,h2⟩ | ⟨b,h1,h2⟩
   ·obtain ⟨b,h3,h4⟩:=ih (i + 1) s' (by omega) h2 F (by omega)
    exact ⟨b,by rw [iter,h1];exact h3,h4⟩
   ·exact ⟨b,by rw [iter,h1],h2⟩
 exact key m 0 s0 (by omega) h0 big (by unfold big;omega)
theorem wIo {body:S->Option (S ⊕ B)} (I:Nat->S->Prop) {b:B} (m:Nat) {s0:S} (h0:I 0 s0) (hm:m < 1000000) (step:∀ i s,i <= m->I i s->(i < m/\∃ s',body s=some (.inl s')/\I (i + 1) s') \/ body s=some (.inr b)):iter body big s0=some b:=by
 obtain ⟨c,h1,h2⟩:=wEQ (body:=body) I (fun c=>c=b) m (fun i s hi hI=>by
  rcases step i s hi hI with h | h
  ·exact .inl h
  ·exact .inr ⟨b,h,rfl⟩) h0 hm
 rw [h1,h2]
theorem wJW [Inhabited α] {l:List α} {i k:Nat} {x:α} (hi:i < l.length) (hk:k < l.length):gd (l.set i x) k=if k=i then x else gd l k:=by
 have h1:=wAt (xs:=l.set i x) (k:=k) (by rw [nZ];exact hk)
 rw [List.getElem?_set] at h1
 by_cases e:i=k
 ·subst e
  rw [if_pos rfl,if_pos hi] at h1
  rw [if_pos rfl]
  exact (nh h1).symm
 ·rw [if_neg e,wAt hk] at h1
  rw [if_neg (fun h=>e h.symm)]
  exact (nh h1).symm
theorem wEj [Inhabited α] {l:List α} {k:Nat} (h:k < l.length):gd l k=l[k]:=by
 have:=wAt h
 rw [nX h] at this
 exact (nh this).symm
end Go.KL
namespace Go.Proofs.YtkghaiefcjgfkaaGreat
open Go.KL Go.KL.Net
structure EdOK (n:Nat) (e:wAa):Prop where
 f0:0 <= e.from_
 f1:e.from_ < n
 t0:0 <= e.to_
 t1:e.to_ < n
 c0:-400000 <= e.count
 c1:e.count <= 400000
def ed (p:Bool) (e:wAa):Ed:=if p then ⟨e.to_.toNat,e.from_.toNat,e.count⟩ else ⟨e.from_.toNat,e.to_.toNat,e.count⟩
abbrev SS:=List Int × List Int × Int
def spB (es:List wAa) (p2:Bool):Nat->SS->Option SS:=fun k1375 (l1372,l1373,x1374) =>
      ((idx es (↑k1375:Int)).bind fun x1412 =>
      if p2=true then
        (chk x1412.to_ l1372.length).bind fun _ =>
        if (gd l1372 x1412.to_.toNat) < 1125899906842624 then
          (chk x1412.from_ l1372.length).bind fun _ =>
          if (w64 ((gd l1372 x1412.to_.toNat) + x1412.count)) < (gd l1372 x1412.from_.toNat) then
            ((chk x1412.from_ l1373.length).bind fun _ =>
            some ()).bind fun _ =>
            some ((nE l1372 x1412.from_.toNat (w64 ((gd l1372 x1412.to_.toNat) + x1412.count))),(nE l1373 x1412.from_.toNat (↑k1375:Int)),x1412.from_)
          else
            some (l1372,l1373,x1374)
        else
          some (l1372,l1373,x1374)
      else
        (chk x1412.from_ l1372.length).bind fun _ =>
        if (gd l1372 x1412.from_.toNat) < 1125899906842624 then
          (chk x1412.to_ l1372.length).bind fun _ =>
          if (w64 ((gd l1372 x1412.from_.toNat) + x1412.count)) < (gd l1372 x1412.to_.toNat) then
            ((chk x1412.to_ l1373.length).bind fun _ =>
            some ()).bind fun _ =>
            some ((nE l1372 x1412.to_.toNat (w64 ((gd l1372 x1412.from_.toNat) + x1412.count))),(nE l1373 x1412.to_.toNat (↑k1375:Int)),x1412.to_)
          else
            some (l1372,l1373,x1374)
        else
          some (l1372,l1373,x1374)).bind fun (l1406,l1407,x1408) =>
      some (l1406,l1407,x1408)
theorem wNg {n:Nat} {es:List wAa} (hes:∀ e ∈ es,EdOK n e) {p:Bool} {k:Nat} (hk:k < es.length) {far by_:List Int} {last:Int} (hf:far.length=n) (hb:by_.length=n) {M:Int} (hM:M <= 1000000000000000) (h0:0 <= M) (hr:∀ v,v < n->gd far v=1125899906842624 \/ (-M <= gd far v/\gd far v <= M)) :
  (ed p (gd es k)).a < n/\(ed p (gd es k)).b < n /\
  spB es p k (far,by_,last)=some (if gd far (ed p (gd es k)).a < 1125899906842624/\gd far (ed p (gd es k)).a + (ed p (gd es k)).c < gd far (ed p (gd es k)).b then
   (far.set (ed p (gd es k)).b (gd far (ed p (gd es k)).a + (ed p (gd es k)).c),by_.set (ed p (gd es k)).b (k:Int),((ed p (gd es k)).b:Int)) else (far,by_,last)):=by
 obtain ⟨f0,f1,t0,t1,c0,c1⟩:=hes _ (wCF hk)
 have hw:∀ a:Int,0 <= a->a < n->gd far a.toNat < 1125899906842624->w64 (gd far a.toNat + (gd es k).count)=gd far a.toNat + (gd es k).count:=fun a h1 h2 h3=>by
  rcases hr a.toNat (by omega) with c | c
  ·omega
  ·exact wAW (by omega) (by omega)
 unfold spB ed
 rw [wFW hk]
 cases p with
 | true =>
  refine ⟨by simp only [if_true];omega,by simp only [if_true];omega,?_⟩
  simp only [hH,if_true]
  rw [wBW t0 (by omega),hH]
  by_cases a:gd far (gd es k).to_.toNat < 1125899906842624
  ·rw [if_pos a,wBW f0 (by omega),hH,hw _ t0 t1 a]
   by_cases b:gd far (gd es k).to_.toNat + (gd es k).count < gd far (gd es k).from_.toNat
   ·rw [if_pos b,wBW f0 (by omega),if_pos ⟨a,b⟩]
    simp only [hH]
    rw [show (((gd es k).from_.toNat:Nat):Int)=(gd es k).from_ by omega]
   ·rw [if_neg b,if_neg (fun h=>b h.2)];rfl
  ·rw [if_neg a,if_neg (fun h=>a h.1)];rfl
 | false =>
  refine ⟨by simp only [nS,if_false];omega,by simp only [nS,if_false];omega,?_⟩
  simp only [hH,nS,if_false]
  rw [wBW f0 (by omega),hH]
  by_cases a:gd far (gd es k).from_.toNat < 1125899906842624
  ·rw [if_pos a,wBW t0 (by omega),hH,hw _ f0 f1 a]
   by_cases b:gd far (gd es k).from_.toNat + (gd es k).count < gd far (gd es k).to_.toNat
   ·rw [if_pos b,wBW t0 (by omega),if_pos ⟨a,b⟩]
    simp only [hH]
    rw [show (((gd es k).to_.toNat:Nat):Int)=(gd es k).to_ by omega]
   ·rw [if_neg b,if_neg (fun h=>b h.2)];rfl
  ·rw [if_neg a,if_neg (fun h=>a h.1)];rfl
structure Ps (n:Nat) (es:List wAa) (p:Bool) (far:List Int) (M:Int) (i:Nat) (s:SS):Prop where
 fl:s.1.length=n
 bl:s.2.1.length=n
 rg:∀ v,v < n->gd s.1 v=1125899906842624 \/ (-(M + 400000 * (i:Int)) <= gd s.1 v/\gd s.1 v <= M + 400000 * (i:Int))
 le:∀ v,v < n->gd s.1 v <= gd far v
 ch:(s.2.2=-1/\s.1=far/\∀ e ∈ es.take i,gd far (ed p e).a < 1125899906842624->gd far (ed p e).b <= gd far (ed p e).a + (ed p e).c) \/ (0 <= s.2.2/\s.2.2 < n/\∃ v,v < n/\gd s.1 v < gd far v)
 fe:∀ x,wGn (es.map (ed p)) x->(∀ v,v < n->x v <= gd far v)->∀ v,v < n->x v <= gd s.1 v
 st:∀ δ,wGn (es.map (ed p)) δ->(∀ v,v < n->δ v <= gd far v)->(∀ v,v < n->δ v < 1125899906842624)->∀ e ∈ es.take i,gd far (ed p e).a=δ (ed p e).a->δ (ed p e).b=δ (ed p e).a + (ed p e).c->gd s.1 (ed p e).b=δ (ed p e).b
theorem wMc {n:Nat} {es:List wAa} (hes:∀ e ∈ es,EdOK n e) (hl:es.length <= 1000) (p:Bool) {far by_:List Int} (hf:far.length=n) (hb:by_.length=n) {M:Int} (hM:M <= 900000000000000) (h0:0 <= M) (hr:∀ v,v < n->gd far v=1125899906842624 \/ (-M <= gd far v/\gd far v <= M)) :
  ∃ s,wBy 0 (↑es.length:Int) (spB es p) (far,by_,-1)=some s/\Ps n es p far M es.length s:=by
 rw [wDX (by omega)]
 obtain ⟨s,e,P⟩:=wEe (body:=spB es p) (fun i s=>Ps n es p far M i s) es.length 0 (far,by_,-1)
  ⟨hf,hb,fun v hv=>by have:=hr v hv;simp only;omega,fun _ _=>kL _,.inl ⟨rfl,rfl,fun e he=>by simp at he⟩,fun _ _ h=>h,fun _ _ _ _ e he=>by simp at he⟩ (by
  rintro i ⟨f,b,last⟩ _ hi P
  have hi':i < es.length:=by omega
  obtain ⟨fl,bl,rg,le,ch,fe,st⟩:=P
  simp only at fl bl rg le ch fe st
  obtain ⟨ha,hbb,e⟩:=wNg hes (p:=p) hi' (last:=last) fl bl (M:=M + 400000 * (i:Int)) (by omega) (by omega) rg
  have hm:=wCF hi'
  have hok:=hes _ hm
  have hc:-400000 <= (ed p (gd es i)).c/\(ed p (gd es i)).c <= 400000:=by
   have:=hok.c0;have:=hok.c1
   unfold ed
   split <;> exact ⟨by assumption,by assumption⟩
  have hfe:∀ x,wGn (es.map (ed p)) x->x (ed p (gd es i)).b <= x (ed p (gd es i)).a + (ed p (gd es i)).c:=fun x hx=>hx _ (nk.2 ⟨_,hm,rfl⟩)
  have hends:∀ e ∈ es.take i,(ed p e).a < n/\(ed p e).b < n:=fun e he=>by
   obtain ⟨a1,a2,a3,a4,_,_⟩:=hes e (kI he)
   unfold ed
   split <;> (simp only;omega)
  generalize hE:ed p (gd es i)=E at ha hbb e hc hfe
  rw [e]
  by_cases c:gd f E.a < 1125899906842624/\gd f E.a + E.c < gd f E.b
  ·rw [if_pos c]
   obtain ⟨c1,c2⟩:=c
   have rga:-(M + 400000 * (i:Int)) <= gd f E.a/\gd f E.a <= M + 400000 * (i:Int):=by
    rcases rg E.a ha with q | q
    ·omega
    ·exact q
   have hg:∀ v,v < n->gd (f.set E.b (gd f E.a + E.c)) v=if v=E.b then gd f E.a + E.c else gd f v:=fun v hv=>wJW (by omega) (by omega)
   refine ⟨_,rfl,by simp [fl],by simp [bl],fun v hv=>?_,fun v hv=>?_,.inr ⟨by simp only;omega,by simp only;omega,E.b,hbb,?_⟩,fun x hx hxt v hv=>?_,fun δ hδ h1 h2 e' he' g1 g2=>?_⟩
   ·simp only
    rw [hg v hv]
    split
    ·right;omega
    ·rcases rg v hv with q | q
     ·exact .inl q
     ·right;omega
   ·simp only
    rw [hg v hv]
    split
    ·rename_i h;have:=le E.b hbb;rw [h];omega
    ·exact le v hv
   ·simp only
    rw [hg _ hbb,if_pos rfl]
    have:=le E.b hbb
    omega
   ·simp only
    rw [hg v hv]
    have:=fe x hx hxt
    split
    ·rename_i h
     have a1:=this E.a ha
     have a2:=hfe x hx
     rw [h];omega
    ·exact this v hv
   ·have lo:=fe δ hδ h1
    simp only
    rw [wDo hi'] at he'
    rcases na.1 he' with he' | he'
    ·have old:=st δ hδ h1 h2 e' he' g1 g2
     rw [hg _ (hends e' he').2]
     split
     ·rename_i h
      have a1:=lo E.a ha
      have a2:=hfe δ hδ
      rw [h] at old ⊢
      omega
     ·exact old
    ·have:=nY.1 he'
     subst this
     rw [hE] at g1 g2 ⊢
     rw [hg _ hbb,if_pos rfl]
     have a1:=lo E.a ha
     have a2:=le E.a ha
     omega
  ·rw [if_neg c]
   refine ⟨_,rfl,fl,bl,fun v hv=>?_,le,?_,fe,fun δ hδ h1 h2 e' he' g1 g2=>?_⟩
   ·rcases rg v hv with q | q
    ·exact .inl q
    ·right;simp only;omega
   ·simp only
    rcases ch with ⟨q1,q2,q3⟩ | q
    ·refine .inl ⟨q1,q2,fun e' he' g=>?_⟩
     rw [wDo hi'] at he'
     rcases na.1 he' with he' | he'
     ·exact q3 e' he' g
     ·have:=nY.1 he'
      subst this
      rw [hE] at g ⊢
      rw [q2] at c
      rcases kj (gd far E.a + E.c) (gd far E.b) with d | d
      ·exact absurd ⟨g,d⟩ c
      ·exact d
    ·exact .inr q
   ·have lo:=fe δ hδ h1
    rw [wDo hi'] at he'
    rcases na.1 he' with he' | he'
    ·exact st δ hδ h1 h2 e' he' g1 g2
    ·have:=nY.1 he'
     subst this
     rw [hE] at g1 g2 ⊢
     simp only
     have a1:=lo E.a ha
     have a2:=le E.a ha
     have a3:=lo E.b hbb
     have a4:=h2 E.a ha
     have fa:gd f E.a=δ E.a:=by omega
     rw [fa] at c
     rcases kj (δ E.a + E.c) (gd f E.b) with d | d
     ·exact absurd ⟨a4,d⟩ c
     ·omega)
 rw [nb] at P
 exact ⟨s,e,P⟩
end Go.Proofs.YtkghaiefcjgfkaaGreat
namespace Go.Proofs.YtkghaiefcjgfkaaGreat
open Go.KL Go.KL.Net
theorem wFI {α:Type} [Inhabited α] (l:List α) (k:Nat):gd l k=(l[k]?).getD default:=by unfold gd;rw [nV]
theorem wKe {α:Type} {m ys:List α} {a:Nat} (h:a <= m.length):(cpy m a ys).length=m.length:=by
 unfold cpy
 simp only [hJ,nB,nM]
 omega
theorem wMD {α:Type} [Inhabited α] {m ys:List α} {a j:Nat} (h:a <= m.length) (hj:j < m.length):gd (cpy m a ys) j=if j < a then gd m j else if j < a + ys.length then gd ys (j - a) else gd m j:=by
 rw [wFI,wFI,wFI]
 unfold cpy
 rw [nA]
 by_cases c:j < a
 ·rw [if_pos c,nN (by rw [nB];omega),ng,if_pos c]
 ·rw [if_neg c,nU (by rw [nB];omega),nB,ni h]
  by_cases d:j < a + ys.length
  ·rw [if_pos d,nN (by rw [nB];omega),ng,if_pos (by omega)]
  ·rw [if_neg d,nU (by rw [nB];omega),nB,nz,nl (by omega)]
   congr 2
   omega
theorem wIL (x:Int) {n:Nat} (h1:1 <= n) (h2:n <= 1000):wBA [x] (n:Int)=some (nK n x):=by
 unfold wBA wDO
 have e1:wAf (([x]:List Int).length:Int)=1:=rfl
 have e2:wAf (n:Int)=n:=by unfold wAf;omega
 rw [if_neg (by omega),e1,e2,if_pos (by omega),hH]
 simp only
 rw [show (1:Int) * (n:Int) / 18446744073709551616=0 by omega,show (1:Int) * (n:Int) % 18446744073709551616=n by omega,if_neg (by omega),hH,decide_eq_false (by omega),if_neg (by simp),wAW (by omega) (by omega),mkz,if_pos (by omega),hH,wLM,if_pos (by simp),hH]
 have hlen:(nK (n:Int).toNat (0:Int)).length=n:=by simp
 generalize nK (n:Int).toNat (0:Int)=z at hlen
 have e3:((min ([x]:List Int).length z.length:Nat):Int)=1:=by simp only [nH];omega
 refine wIo (I:=fun i (s:List Int × Int)=>s.1.length=n/\(i:Int) + 1 <= s.2/\s.2 <= n/\∀ j,j < s.2.toNat->gd s.1 j=x) n ⟨by rw [wKe (by simp)];exact hlen,by simp only;omega,by simp only;omega,fun j hj=>?_⟩ (by omega) ?_
 ·simp only at hj ⊢
  rw [wMD (by simp) (by omega),if_neg (by simp),if_pos (by simp only [nH];omega)]
  have:j=0:=by omega
  subst this
  rfl
 ·rintro i ⟨l,k⟩ hi ⟨q1,q2,q3,q4⟩
  simp only at q1 q2 q3 q4 ⊢
  by_cases c:k < (l.length:Int)
  ·left
   refine ⟨by omega,?_⟩
   have hd:(List.take ((l.length:Int).toNat - k.toNat) (List.drop k.toNat l)).length=l.length - k.toNat:=by
    rw [nB,nM];omega
   have ht:(List.take (k.toNat - (0:Int).toNat) (List.drop (0:Int).toNat l))=l.take k.toNat:=by simp
   rw [if_pos c,cut,if_pos (by omega),hH,cut,if_pos (by omega),hH,wLM,if_pos (by omega),hH,ht,hd,nB]
   rw [wAW (by omega) (by omega)]
   refine ⟨_,rfl,by simp only;rw [wKe (by omega)];exact q1,by simp only;omega,by simp only;omega,fun j hj=>?_⟩
   simp only at hj ⊢
   rw [wMD (by omega) (by omega),nB]
   by_cases d:j < k.toNat
   ·rw [if_pos d];exact q4 j d
   ·rw [if_neg d,if_pos (by omega)]
    have:=q4 (j - k.toNat) (by omega)
    rw [wFI] at this ⊢
    rw [ng,if_pos (by omega)]
    exact this
  ·right
   rw [if_neg c,wLL]
   have:l=nK n x:=wMC (by simp [q1]) fun j hj=>by
    rw [q4 j (by omega),wEj (by simpa [q1] using hj)];simp
   rw [this]
def wGd (i:Int) (v:Nat):Int:=if i < 0 \/ (v:Int)=i then 0 else 1125899906842624
theorem wME (i:Int) (v:Nat):0 <= wGd i v/\wGd i v <= 1125899906842624:=by unfold wGd;split <;> omega
theorem wMd {n:Nat} (i:Int) {l:List Int} (hl:l.length=n) (hn:n <= 1000) (h0:∀ v,v < n->gd l v=1125899906842624):∃ y,(wBy 0 (↑l.length:Int) (fun k1254 l1253 =>
  if i < 0 then
   (chk (↑k1254:Int) l1253.length).bind fun _ =>
   some (nE l1253 k1254 0)
  else
   if (↑k1254:Int)=i then
    (chk (↑k1254:Int) l1253.length).bind fun _ =>
    some (nE l1253 k1254 0)
   else
    some l1253) l)=some y/\y.length=n/\∀ v,v < n->gd y v=wGd i v:=by
 rw [wDX (by omega)]
 obtain ⟨y,e,y1,y2⟩:=wEe (body:=fun (k1254:Nat) (l1253:List Int) =>
  if i < 0 then
   (chk (↑k1254:Int) l1253.length).bind fun _ =>
   some (nE l1253 k1254 0)
  else
   if (↑k1254:Int)=i then
    (chk (↑k1254:Int) l1253.length).bind fun _ =>
    some (nE l1253 k1254 0)
   else
    some l1253) (fun k s=>s.length=n/\∀ v,v < n->gd s v=if v < k then wGd i v else 1125899906842624) l.length 0 l ⟨hl,fun v hv=>by rw [if_neg (by omega)];exact h0 v hv⟩ (by
  rintro k s _ hk ⟨s1,s2⟩
  have hk':k < n:=by omega
  have hset:∀ v,v < n->gd (s.set k 0) v=if v=k then 0 else gd s v:=fun v hv=>wJW (by omega) (by omega)
  by_cases c:i < 0 \/ (k:Int)=i
  ·have hb:(if i < 0 then (chk (↑k:Int) s.length).bind fun _=>some (nE s k 0) else if (↑k:Int)=i then (chk (↑k:Int) s.length).bind fun _=>some (nE s k 0) else some s)=some (s.set k 0):=by
    rw [wBW (by omega) (by omega)]
    rcases c with c | c
    ·rw [if_pos c];rfl
    ·rw [if_pos c]
     split <;> rfl
   refine ⟨_,hb,by simp [s1],fun v hv=>?_⟩
   rw [hset v hv]
   by_cases e:v=k
   ·subst e
    rw [if_pos rfl,if_pos (by omega),wGd,if_pos c]
   ·rw [if_neg e,s2 v hv]
    by_cases d:v < k
    ·rw [if_pos d,if_pos (by omega)]
    ·rw [if_neg d,if_neg (by omega)]
  ·refine ⟨s,by rw [if_neg (fun h=>c (.inl h)),if_neg (fun h=>c (.inr h))],s1,fun v hv=>?_⟩
   rw [s2 v hv]
   by_cases d:v < k
   ·rw [if_pos d,if_pos (by omega)]
   ·by_cases e:v=k
    ·subst e
     rw [if_neg (by omega),if_pos (by omega),wGd,if_neg c]
    ·rw [if_neg d,if_neg (by omega)])
 rw [nb] at y2
 exact ⟨y,e,y1,fun v hv=>by rw [y2 v hv,if_pos (by omega)]⟩
structure SpT (n:Nat) (es:List Ed) (i:Int) (far:List Int):Prop where
 fl:far.length=n
 rl:∀ e ∈ es,gd far e.a < 1125899906842624->gd far e.b <= gd far e.a + e.c
 rg:∀ v,v < n->gd far v=1125899906842624 \/ (-400000000000 <= gd far v/\gd far v <= 400000000000)
 le:∀ v,v < n->gd far v <= wGd i v
 fe:∀ x,wGn es x->(∀ v,v < n->x v <= wGd i v)->∀ v,v < n->x v <= gd far v
structure SpI (n:Nat) (es:List Ed) (i:Int) (t:Nat) (s:SS):Prop where
 fl:s.1.length=n
 bl:s.2.1.length=n
 rg:∀ v,v < n->gd s.1 v=1125899906842624 \/ (-(400000000 * (t:Int)) <= gd s.1 v/\gd s.1 v <= 400000000 * (t:Int))
 le:∀ v,v < n->gd s.1 v <= wGd i v
 fe:∀ x,wGn es x->(∀ v,v < n->x v <= wGd i v)->∀ v,v < n->x v <= gd s.1 v
 st:∀ δ,Most n es (wGd i) δ->(∀ v,v < n->δ v < 1125899906842624)->t <= wNB n δ fun v=>gd s.1 v
 la:t=0 \/ (0 <= s.2.2/\s.2.2 < n)
theorem wIM {d:wAb} {n:Nat} (hn:d.number.length=n) (h1:1 <= n) (h2:n <= 500) (hes:∀ e ∈ d.edges,EdOK n e) (hl:d.edges.length <= 1000) (i:Int) (p:Bool) :
  ∃ f last ok,wAg d i p=some (f,last,ok)/\f.by_.length=n/\f.far.length=n/\(ok=true->SpT n (d.edges.map (ed p)) i f.far)/\(ok=false->0 <= last/\last < n/\∀ δ,Most n (d.edges.map (ed p)) (wGd i) δ->¬ ∀ v,v < n->δ v < 1125899906842624):=by
 unfold wAg
 rw [hn,wIL _ h1 (by omega),hH,wIL _ h1 (by omega),hH,hH]
 simp only
 obtain ⟨y,e1,y1,y2⟩:=wMd (n:=n) i (l:=nK n 1125899906842624) (by simp) (by omega) (fun v hv=>by rw [wEj (by simpa using hv)];simp)
 rw [e1,hH,wAW (by omega) (by omega)]
 have hn1:((n:Int) + 1)=((n + 1:Nat):Int):=by omega
 rw [hn1,wEE (by omega)]
 have hmap:∀ e ∈ d.edges.map (ed p),e.a < n/\e.b < n:=fun e he=>by
  obtain ⟨q,hq,rfl⟩:=nk.1 he
  obtain ⟨a1,a2,a3,a4,_,_⟩:=hes q hq
  unfold ed
  split <;> (simp only;omega)
 rcases wJU (B:=wDJ × Int × Bool) (body:=fun (k1336:Nat) ((l1333,l1334,x1335):SS) =>
  (wBy 0 (↑d.edges.length:Int) (spB d.edges p) (l1333,l1334,-1)).bind fun (y1380,y1381,y1382) =>
  if y1382 < 0 then
   esc (some ((⟨y1380,y1381⟩:wDJ),0,true))
  else
   some (.inl (y1380,y1381,y1382))) (fun t s=>SpI n (d.edges.map (ed p)) i t s) (fun b=>b.2.2=true/\b.1.by_.length=n/\SpT n (d.edges.map (ed p)) i b.1.far) (n + 1) 0 (y,nK n (-1),-1)
  ⟨y1,by simp,fun v hv=>by simp only;rw [y2 v hv];unfold wGd;split <;> omega,fun v hv=>by simp only;rw [y2 v hv];exact kL _,fun x _ hx v hv=>by simp only;rw [y2 v hv];exact hx v hv,fun _ _ _=>Nat.zero_le _,.inl rfl⟩ (by
   rintro t ⟨far,by_,last⟩ _ ht ⟨fl,bl,rg,le,fe,st,la⟩
   simp only at fl bl rg le fe st
   obtain ⟨⟨far',by',last'⟩,e,P⟩:=wMc hes hl p fl bl (M:=400000000 * (t:Int)) (by omega) (by omega) rg
   obtain ⟨gl,ql,qg,qle,ch,qfe,qst⟩:=P
   simp only at gl ql qg qle ch qfe qst
   simp only
   rw [e,hH]
   simp only
   rcases ch with ⟨c1,c2,c3⟩ | ⟨c1,c2,v,hv,c3⟩
   ·right
    subst c1
    rw [if_pos (by omega)]
    refine ⟨_,rfl,rfl,ql,gl,fun e' he' hlt=>?_,fun v hv=>?_,fun v hv=>Int.le_trans (qle v hv) (le v hv),fun x hx hxt v hv=>qfe x hx (fe x hx hxt) v hv⟩
    ·obtain ⟨q,hq,rfl⟩:=nk.1 he'
     simp only at hlt ⊢
     rw [c2] at hlt ⊢
     rw [nm] at c3
     exact c3 q hq hlt
    ·simp only
     rw [c2]
     rcases rg v hv with q | q
     ·exact .inl q
     ·right;omega
   ·left
    rw [if_neg (by omega)]
    refine ⟨_,rfl,gl,ql,fun v hv=>?_,fun v hv=>Int.le_trans (qle v hv) (le v hv),fun x hx hxt v hv=>qfe x hx (fe x hx hxt) v hv,fun δ M hδ=>?_,.inr ⟨c1,c2⟩⟩
    ·simp only
     rcases qg v hv with q | q
     ·exact .inl q
     ·right;omega
    ·have old:=st δ M hδ
     have lo:=fe δ M.ok M.le
     have lo':=qfe δ M.ok lo
     simp only
     obtain ⟨e',he',g1,g2,g3⟩:=M.tight hmap (fun u=>gd far u) (fun u hu=>le u hu) ⟨v,hv,by have:=lo' v hv;omega⟩ lo
     obtain ⟨q,hq,rfl⟩:=nk.1 he'
     rw [nm] at qst
     have h5:=qst δ M.ok lo hδ q hq g1 g3
     have:=wMa (n:=n) (δ:=δ) (low:=fun u=>gd far u) (low':=fun u=>gd far' u) lo' (fun u hu=>qle u hu) (hmap _ he').2 g2 h5
     omega) with ⟨⟨far,by_,last⟩,e,I⟩ | ⟨⟨f,last,ok⟩,e,h3,h4,h5⟩
 ·refine ⟨⟨far,by_⟩,last,false,?_,I.bl,I.fl,(fun h=>by cases h),fun _=>?_⟩
  ·show jn (forN _ (n + 1) 0 (y,nK n (-1),-1)) _=_
   erw [e]
   rfl
  ·have hla:=I.la
   simp only at hla
   refine ⟨by omega,by omega,fun δ M hδ=>?_⟩
   have h6:0 + (n + 1) <= wNB n δ fun v=>gd far v:=I.st δ M hδ
   have:=wMZ n δ fun v=>gd far v
   omega
 ·simp only at h3 h4 h5
  subst h3
  refine ⟨f,last,true,?_,h4,h5.fl,fun _=>h5,fun h=>by cases h⟩
  show jn (forN _ (n + 1) 0 (y,nK n (-1),-1)) _=_
  erw [e]
  rfl
theorem SpT.fin {n:Nat} {R:Int} {es:List Ed} (C:Con n R es) (hc:∀ e ∈ es,e.c <= 400000) {i:Int} {far:List Int} (S:SpT n es i far) {k:Nat} (hk:k < n) (h0:wGd i k=0):∀ v,v < n->gd far v < 1125899906842624 :=
 C.all (fun v=>v < n->gd far v < 1125899906842624) k hk (fun _=>by have:=S.le k hk;omega) (fun e he h _=>by
  obtain ⟨h1,h2⟩:=C.ends e he
  have a:=h h1
  have b:=S.rl e he a
  have c:=hc e he
  rcases S.rg e.a h1 with q | q <;> omega) |> fun h v hv=>h v hv hv
theorem SpT.feas {n:Nat} {R:Int} {es:List Ed} (C:Con n R es) (hc:∀ e ∈ es,e.c <= 400000) {i:Int} {far:List Int} (S:SpT n es i far) {k:Nat} (hk:k < n) (h0:wGd i k=0):wGn es fun v=>gd far v :=
 fun e he=>S.rl e he (S.fin C hc hk h0 e.a (C.ends e he).1)
theorem SpT.isD {n:Nat} {R:Int} (hR:R <= 1000000000000) {es:List Ed} (C:Con n R es) (hc:∀ e ∈ es,e.c <= 400000) {i:Nat} (hi:i < n) {far:List Int} (S:SpT n es i far):IsD n es i fun v=>gd far v:=by
 have t0:wGd i i=0:=by unfold wGd;rw [if_pos (.inr rfl)]
 have F:=S.feas C hc hi t0
 have gr:∀ x,wGn es x->∀ v,v < n->x v - x i <= gd far v:=fun x hx v hv=>by
  have:=S.fe (fun u=>x u + (-(x i))) (shift hx _) (fun u hu=>by
   show x u + (-(x i)) <= _
   have:=C.near x hx i u hi hu
   unfold wGd
   split
   ·rename_i h
    rcases h with h | h
    ·omega
    ·have:u=i:=by omega
     subst this;omega
   ·omega) v hv
  have this:x v + (-(x i)) <= gd far v:=this
  omega
 have h1:=gr _ F i hi
 have h2:=S.le i hi
 exact ⟨F,by show gd far i=0;omega,gr⟩
end Go.Proofs.YtkghaiefcjgfkaaGreat
namespace Go.Proofs.YtkghaiefcjgfkaaGreat
open Go.KL Go.KL.Net
structure RC (r:wAD):Prop where
 n:1 <= r.Starts.length/\r.Starts.length <= 8
 m:r.Splits.length <= 7
 c:r.Clocks.length <= 4
 q:r.Readings.length <= 40
 st:∀ s ∈ r.Starts,0 <= s/\s <= 360000
 sp:∀ s ∈ r.Splits,s.Lo <= s.Hi/\0 <= s.Lo/\s.Hi <= 360000
 ck:∀ s ∈ r.Clocks,(s.Offset.Lo <= s.Offset.Hi/\-36000 <= s.Offset.Lo/\s.Offset.Hi <= 36000)/\0 <= s.Error/\s.Error <= 600
 rt:∀ x ∈ r.Readings,0 <= x.Time/\x.Time <= 360000
 ru:∀ x ∈ r.Readings,0 <= x.Skier/\x.Skier < r.Starts.length/\0 <= x.Mat/\x.Mat <= r.Splits.length/\0 <= x.Clock/\x.Clock < r.Clocks.length
def zp:wAI:=⟨-1,0⟩
def wHh (r:wAD) (p:wAI):Prop:=p=zp \/ (0 <= p.skier/\p.skier < r.Starts.length/\0 <= p.mat/\p.mat <= r.Splits.length) \/ (p.skier=-1/\1 <= p.mat/\p.mat <= r.Clocks.length)
def wEF (r:wAD) (x:wAH):Prop :=
 (x.Kind=0/\0 <= x.Skier/\x.Skier < r.Starts.length/\x.Index=0) \/ (x.Kind=1/\0 <= x.Skier/\x.Skier < r.Starts.length/\0 <= x.Index/\x.Index < r.Splits.length) \/
 (x.Kind=2/\x.Skier=0/\0 <= x.Index/\x.Index < r.Clocks.length) \/ (x.Kind=3/\x.Skier=0/\0 <= x.Index/\x.Index < r.Readings.length)
abbrev Pt:=wAI
def wDt (r:wAD) (x:wAH):Pt × Pt × Int × Int :=
 if x.Kind=0 then (zp,⟨x.Skier,0⟩,gd r.Starts x.Skier.toNat,-gd r.Starts x.Skier.toNat)
 else if x.Kind=1 then (⟨x.Skier,x.Index⟩,⟨x.Skier,x.Index + 1⟩,(gd r.Splits x.Index.toNat).Hi,-(gd r.Splits x.Index.toNat).Lo)
 else if x.Kind=2 then (zp,⟨-1,1 + x.Index⟩,-(gd r.Clocks x.Index.toNat).Offset.Lo,(gd r.Clocks x.Index.toNat).Offset.Hi)
 else (⟨-1,1 + (gd r.Readings x.Index.toNat).Clock⟩,⟨(gd r.Readings x.Index.toNat).Skier,(gd r.Readings x.Index.toNat).Mat⟩,(gd r.Readings x.Index.toNat).Time + (gd r.Clocks (gd r.Readings x.Index.toNat).Clock.toNat).Error,(gd r.Clocks (gd r.Readings x.Index.toNat).Clock.toNat).Error - (gd r.Readings x.Index.toNat).Time)
def wDT (r:wAD) (x:wAH):Pt × Pt × Int:=if x.Up=true then ((wDt r x).1,(wDt r x).2.1,(wDt r x).2.2.1) else ((wDt r x).2.1,(wDt r x).1,(wDt r x).2.2.2)
theorem wGe {α:Type} [Inhabited α] {l:List α} {i:Int} (h0:0 <= i) (h1:i < l.length):idx l i=some (gd l i.toNat):=by
 obtain ⟨k,rfl⟩:=kW h0
 rw [wFW (by omega)]
 rfl
theorem wCy {α:Type} [Inhabited α] {l:List α} {i:Int} (h0:0 <= i) (h1:i < l.length):gd l i.toNat ∈ l:=wCF (by omega)
theorem wLa {r:wAD} (C:RC r) {x:wAH} (h:wEF r x):wBO r x=some (wDT r x):=by
 unfold wBO wBN wDZ wDa wDb wDc wDd wDe wDM wDN wCR wCe
 have hm:=C.m;have hc:=C.c;have hq:=C.q;have hn:=C.n
 rcases h with ⟨k,a,b,c⟩ | ⟨k,a,b,c,d⟩ | ⟨k,a,c,d⟩ | ⟨k,a,c,d⟩
 ·have g:=C.st _ (wCy a b)
  have e4:wDt r x=(zp,⟨x.Skier,0⟩,gd r.Starts x.Skier.toNat,-gd r.Starts x.Skier.toNat):=if_pos k
  have w:w64 (-gd r.Starts x.Skier.toNat)=-gd r.Starts x.Skier.toNat:=wAW (by omega) (by omega)
  rw [if_pos k,wGe a b]
  simp only [hH]
  rw [w]
  unfold wDT
  rw [e4]
  split <;> rfl
 ·have g:=C.sp _ (wCy c d)
  have e4:wDt r x=(⟨x.Skier,x.Index⟩,⟨x.Skier,x.Index + 1⟩,(gd r.Splits x.Index.toNat).Hi,-(gd r.Splits x.Index.toNat).Lo):=(if_neg (by omega)).trans (if_pos k)
  have w:w64 (-(gd r.Splits x.Index.toNat).Lo)=-(gd r.Splits x.Index.toNat).Lo:=wAW (by omega) (by omega)
  have w2:w64 (x.Index + 1)=x.Index + 1:=wAW (by omega) (by omega)
  rw [if_neg (by omega),if_pos k,wGe c d]
  simp only [hH]
  rw [w,w2]
  unfold wDT
  rw [e4]
  split <;> rfl
 ·have g:=C.ck _ (wCy c d)
  have e4:wDt r x=(zp,⟨-1,1 + x.Index⟩,-(gd r.Clocks x.Index.toNat).Offset.Lo,(gd r.Clocks x.Index.toNat).Offset.Hi):=(if_neg (by omega)).trans ((if_neg (by omega)).trans (if_pos k))
  have w:w64 (-(gd r.Clocks x.Index.toNat).Offset.Lo)=-(gd r.Clocks x.Index.toNat).Offset.Lo:=wAW (by omega) (by omega)
  have w2:w64 (1 + x.Index)=1 + x.Index:=wAW (by omega) (by omega)
  rw [if_neg (by omega),if_neg (by omega),if_pos k,wGe c d]
  simp only [hH]
  rw [w,w2]
  unfold wDT
  rw [e4]
  split <;> rfl
 ·have g:=C.rt _ (wCy c d)
  have u:=C.ru _ (wCy c d)
  have gc:=C.ck _ (wCy u.2.2.2.2.1 u.2.2.2.2.2)
  have e4:wDt r x=(⟨-1,1 + (gd r.Readings x.Index.toNat).Clock⟩,⟨(gd r.Readings x.Index.toNat).Skier,(gd r.Readings x.Index.toNat).Mat⟩,(gd r.Readings x.Index.toNat).Time + (gd r.Clocks (gd r.Readings x.Index.toNat).Clock.toNat).Error,(gd r.Clocks (gd r.Readings x.Index.toNat).Clock.toNat).Error - (gd r.Readings x.Index.toNat).Time):=(if_neg (by omega)).trans ((if_neg (by omega)).trans (if_neg (by omega)))
  rw [if_neg (by omega),if_neg (by omega),if_neg (by omega),if_pos k,wGe c d]
  simp only [hH]
  rw [wGe u.2.2.2.2.1 u.2.2.2.2.2]
  simp only [hH]
  generalize gd r.Readings x.Index.toNat=X at *
  generalize gd r.Clocks X.Clock.toNat=Y at *
  have w:w64 (X.Time + Y.Error)=X.Time + Y.Error:=wAW (by omega) (by omega)
  have w2:w64 (1 + X.Clock)=1 + X.Clock:=wAW (by omega) (by omega)
  have w3:w64 (Y.Error - X.Time)=Y.Error - X.Time:=wAW (by omega) (by omega)
  rw [w,w2,w3]
  unfold wDT
  rw [e4]
  split <;> rfl
theorem wGC {r:wAD} (C:RC r) {x:wAH} (h:wEF r x):wHh r (wDT r x).1/\wHh r (wDT r x).2.1/\-400000 <= (wDT r x).2.2/\(wDT r x).2.2 <= 400000:=by
 have key:wHh r (wDt r x).1/\wHh r (wDt r x).2.1/\(-400000 <= (wDt r x).2.2.1/\(wDt r x).2.2.1 <= 400000)/\(-400000 <= (wDt r x).2.2.2/\(wDt r x).2.2.2 <= 400000):=by
  have hn:=C.n
  unfold wDt
  rcases h with ⟨k,a,b,c⟩ | ⟨k,a,b,c,d⟩ | ⟨k,a,c,d⟩ | ⟨k,a,c,d⟩
  ·have g:=C.st _ (wCy a b)
   rw [if_pos k]
   exact ⟨.inl rfl,.inr (.inl ⟨a,b,by simp only;omega,by simp only;omega⟩),by simp only;omega,by simp only;omega⟩
  ·have g:=C.sp _ (wCy c d)
   rw [if_neg (by omega),if_pos k]
   exact ⟨.inr (.inl ⟨a,b,by simp only;omega,by simp only;omega⟩),.inr (.inl ⟨a,b,by simp only;omega,by simp only;omega⟩),by simp only;omega,by simp only;omega⟩
  ·have g:=C.ck _ (wCy c d)
   rw [if_neg (by omega),if_neg (by omega),if_pos k]
   exact ⟨.inl rfl,.inr (.inr ⟨rfl,by simp only;omega,by simp only;omega⟩),by simp only;omega,by simp only;omega⟩
  ·have g:=C.rt _ (wCy c d)
   have u:=C.ru _ (wCy c d)
   have gc:=C.ck _ (wCy u.2.2.2.2.1 u.2.2.2.2.2)
   rw [if_neg (by omega),if_neg (by omega),if_neg (by omega)]
   exact ⟨.inr (.inr ⟨rfl,by simp only;omega,by simp only;omega⟩),.inr (.inl ⟨u.1,u.2.1,u.2.2.1,u.2.2.2.1⟩),by simp only;omega,by simp only;omega⟩
 obtain ⟨h1,h2,h3,h4⟩:=key
 unfold wDT
 split
 ·exact ⟨h1,h2,h3⟩
 ·exact ⟨h2,h1,h4⟩
def two (kind skier i:Nat):List wAH:=[⟨kind,skier,i,true⟩,⟨kind,skier,i,false⟩]
def wIN (kind skier m:Nat):List wAH:=(nT m).flatMap (two kind skier)
def skL (kind ns m:Nat):List wAH:=(nT ns).flatMap fun s=>wIN kind s m
def wIO (r:wAD):List wAH:=skL 0 r.Starts.length 1 ++ (skL 1 r.Starts.length r.Splits.length ++ (skL 2 1 r.Clocks.length ++ skL 3 1 r.Readings.length))
theorem wMe {kind ns m:Nat} {x:wAH}:x ∈ skL kind ns m ↔ x.Kind=kind/\0 <= x.Skier/\x.Skier < ns/\0 <= x.Index/\x.Index < m:=by
 unfold skL wIN two
 simp only [List.mem_flatMap,kK,nc,List.not_mem_nil,or_false]
 constructor
 ·rintro ⟨s,hs,i,hi,rfl | rfl⟩ <;> exact ⟨rfl,by simp only;omega,by simp only;omega,by simp only;omega,by simp only;omega⟩
 ·rintro ⟨a,b,c,d,e⟩
  refine ⟨x.Skier.toNat,by omega,x.Index.toNat,by omega,?_⟩
  obtain ⟨k,s,i,u⟩:=x
  simp only at a b c d e
  subst a
  rw [nR b,nR d]
  cases u <;> simp
theorem wFA {r:wAD} {x:wAH}:x ∈ wIO r ↔ wEF r x:=by
 unfold wIO wEF
 simp only [na,wMe]
 omega
theorem wMf (kind ns m:Nat):(skL kind ns m).length=2 * m * ns:=by
 unfold skL wIN
 rw [kg]
 have:∀ s:Nat,((nT m).flatMap (two kind s)).length=2 * m:=fun s=>by
  rw [kg]
  have e:(nT m).map (fun a=>(two kind s a).length)=nK m 2:=by
   apply kS (by simp)
   intro i h1 h2
   simp [two]
  rw [e,kb]
  omega
 have e:(nT ns).map (fun s=>((nT m).flatMap (two kind s)).length)=nK ns (2 * m):=by
  apply kS (by simp)
  intro i h1 h2
  simp [this]
 rw [e,kb,Nat.mul_comm]
theorem wIP {r:wAD} (C:RC r):(wIO r).length <= 216:=by
 unfold wIO
 simp only [hJ,wMf]
 have hm:=C.m;have hc:=C.c;have hq:=C.q;have hn:=C.n
 have h1:2 * r.Splits.length * r.Starts.length <= 14 * 8:=Nat.mul_le_mul (by omega) hn.2
 omega
section
variable {S E:Type}
def wHt (f:S->wAH->Option (S ⊕ E)):List wAH->S->Option (S ⊕ E)
 | [],s=>some (.inl s)
 | x :: l,s=>(f s x).bind fun y=>match y with
  | .inl s'=>wHt f l s'
  | .inr e=>some (.inr e)
theorem wJX (f:S->wAH->Option (S ⊕ E)):∀ (l m:List wAH) (s:S),wHt f (l ++ m) s=(wHt f l s).bind fun y=>match y with
  | .inl s'=>wHt f m s'
  | .inr e=>some (.inr e)
 | [],_,_=>rfl
 | x :: l,m,s=>by
  rw [kE,wHt,wHt]
  cases f s x with
  | none=>rfl
  | some y=>cases y with
   | inl s'=>exact wJX f l m s'
   | inr e=>rfl
def lif {B:Type} (k:E->B) (x:Option (S ⊕ E)):Option (S ⊕ B):=x.bind fun y=>match y with
 | .inl s=>some (.inl s)
 | .inr e=>some (.inr (k e))
theorem wGP {B:Type} (k:E->B) {body:Nat->S->Option (S ⊕ B)} {f:S->wAH->Option (S ⊕ E)} {L:Nat->List wAH}:∀ (m i:Nat) (s:S),(∀ j s,i <= j->j < i + m->body j s=lif k (wHt f (L j) s))->forN body m i s=lif k (wHt f ((List.range' i m).flatMap L) s)
 | 0,_,_,_=>rfl
 | m + 1,i,s,h=>by
  rw [forN,h i s (nL _) (by omega),List.range'_succ,kO,wJX]
  cases wHt f (L i) s with
  | none=>rfl
  | some y=>cases y with
   | inl s'=>exact wGP k m (i + 1) s' fun j s h1 h2=>h j s (by omega) (by omega)
   | inr e=>rfl
theorem wMF {B:Type} (k:E->B) (x:Option (S ⊕ E)):jn (lif (fun e=>(.inr (k e):S ⊕ B)) x) (fun y=>some (.inl y))=lif k x:=by
 cases x with
 | none=>rfl
 | some y=>cases y <;> rfl
theorem wNh (x:Option (S ⊕ E)):jn (lif (fun e=>(.inr e:S ⊕ E)) x) (fun y=>some (.inl y))=x:=by
 cases x with
 | none=>rfl
 | some y=>cases y <;> rfl
theorem wNi (f:S->wAH->Option (S ⊕ E)) (kind skier i:Nat) (s:S):((f s (⟨(kind:Int),(skier:Int),(i:Int),true⟩:wAH)).bind fun yr141 =>
          match yr141 with
          | .inl s151 =>
            (f s151 (⟨(kind:Int),(skier:Int),(i:Int),false⟩:wAH)).bind fun yr154 =>
            match yr154 with
            | .inl s164 =>
              some (.inl s164)
            | .inr s164 =>
              esc (esc (esc (some (.inr s164))))
          | .inr s151 =>
            esc (esc (esc (some (.inr s151)))))=lif (fun e=>(.inr (.inr (.inr e)):S ⊕ (S ⊕ (S ⊕ E)))) (wHt f (two kind skier i) s):=by
  unfold two
  rw [wHt]
  cases f s (⟨(kind:Int),(skier:Int),(i:Int),true⟩:wAH) with
  | none=>rfl
  | some y=>cases y with
    | inr e=>rfl
    | inl s' =>
      simp only [hH]
      rw [wHt]
      cases f s' (⟨(kind:Int),(skier:Int),(i:Int),false⟩:wAH) with
      | none=>rfl
      | some y=>cases y <;> rfl
theorem wKf (f:S->wAH->Option (S ⊕ E)) (s0:S) {r:wAD} (C:RC r):wBt f s0 r=wHt f (wIO r) s0:=by
  unfold wBt
  have hm:=C.m;have hc:=C.c;have hq:=C.q;have hn:=C.n
  have inner:∀ (kind skier m:Nat) (s:S),m <= 1000->(wFD 0 (m:Int) (fun k113 s111 =>
          (f s111 (⟨(kind:Int),(skier:Int),(↑k113:Int),true⟩:wAH)).bind fun yr141 =>
          match yr141 with
          | .inl s151 =>
            (f s151 (⟨(kind:Int),(skier:Int),(↑k113:Int),false⟩:wAH)).bind fun yr154 =>
            match yr154 with
            | .inl s164 =>
              some (.inl s164)
            | .inr s164 =>
              esc (esc (esc (some (.inr s164))))
          | .inr s151 =>
            esc (esc (esc (some (.inr s151))))) s)=lif (fun e=>(.inr (.inr (.inr e)):S ⊕ (S ⊕ (S ⊕ E)))) (wHt f (wIN kind skier m) s):=fun kind skier m s hm=>by
    rw [wEE (by omega),wGP (fun e=>(.inr (.inr (.inr e)):S ⊕ (S ⊕ (S ⊕ E)))) (f:=f) (L:=two kind skier) m 0 s fun j s _ _=>wNi f kind skier j s,<- kf]
    rfl
  have skier:∀ (kind ns m:Nat) (s:S),ns <= 1000->m <= 1000->(jn (wFD 0 (ns:Int) (fun k78 s76 =>
        jn (wFD 0 (m:Int) (fun k113 s111 =>
          (f s111 (⟨(kind:Int),(↑k78:Int),(↑k113:Int),true⟩:wAH)).bind fun yr141 =>
          match yr141 with
          | .inl s151 =>
            (f s151 (⟨(kind:Int),(↑k78:Int),(↑k113:Int),false⟩:wAH)).bind fun yr154 =>
            match yr154 with
            | .inl s164 =>
              some (.inl s164)
            | .inr s164 =>
              esc (esc (esc (some (.inr s164))))
          | .inr s151 =>
            esc (esc (esc (some (.inr s151))))) s76) fun y195 =>
        some (.inl y195)) s) fun y219 =>
      some (.inl y219))=lif (fun e=>(.inr e:S ⊕ E)) (wHt f (skL kind ns m) s):=fun kind ns m s hns hm=>by
    rw [wEE (by omega),wGP (fun e=>(.inr (.inr e):S ⊕ (S ⊕ E))) (f:=f) (L:=fun q=>wIN kind q m) ns 0 s fun j s _ _=>by rw [inner kind j m s hm,wMF],wMF,<- kf]
    rfl
  unfold wFD
  rw [if_pos (by omega)]
  show jn (forN _ 4 0 s0) _=_
  rw [wGP (fun e=>(.inr e:S ⊕ E)) (f:=f) (L:=fun k=>if k=0 then skL 0 r.Starts.length 1 else if k=1 then skL 1 r.Starts.length r.Splits.length else if k=2 then skL 2 1 r.Clocks.length else skL 3 1 r.Readings.length) 4 0 s0 fun j s _ hj=>?_,wNh]
  · congr 1
    show nf _ [0,1,2,3]=_
    simp only [kO,List.flatMap_nil,nv]
    rfl
  · have:j=0 \/ j=1 \/ j=2 \/ j=3:=by omega
    rcases this with rfl | rfl | rfl | rfl
    · exact skier 0 r.Starts.length 1 s (by omega) (by omega)
    · exact skier 1 r.Starts.length r.Splits.length s (by omega) (by omega)
    · exact skier 2 1 r.Clocks.length s (by omega) (by omega)
    · exact skier 3 1 r.Readings.length s (by omega) (by omega)
end
end Go.Proofs.YtkghaiefcjgfkaaGreat
namespace Go.Proofs.YtkghaiefcjgfkaaGreat
open Go.KL Go.KL.Net
def wEm:List Pt->Nat->List (Pt × Int)
 | [],_=>[]
 | p :: l,k=>(p,(k:Int)) :: wEm l (k + 1)
theorem wHi:∀ (l:List Pt) (k:Nat),(wEm l k).length=l.length
 | [],_=>rfl
 | _ :: l,k=>by rw [wEm,nI,nI,wHi l]
theorem wJY:∀ (l:List Pt) (p:Pt) (k:Nat),wEm (l ++ [p]) k=wEm l k ++ [(p,((k + l.length:Nat):Int))]
 | [],p,k=>by simp [wEm]
 | a :: l,p,k=>by
  rw [kE,wEm,wEm,wJY l p (k + 1),kE,nI]
  congr 4
  omega
theorem wJZ:∀ {l:List Pt} {k:Nat} {p:Pt},p ∉ l->wHs (wEm l k) p=none/\∀ v,wFN (wEm l k) p v=wEm l k ++ [(p,v)]
 | [],_,_,_=>⟨rfl,fun _=>rfl⟩
 | a :: l,k,p,h=>by
  rw [nc,not_or] at h
  obtain ⟨h1,h2⟩:=wJZ (l:=l) (k:=k + 1) h.2
  refine ⟨by rw [wEm,wHs,if_neg h.1];exact h1,fun v=>?_⟩
  rw [wEm,wFN,if_neg h.1,h2 v];rfl
theorem wKg:∀ {l:List Pt} {k i:Nat},l.Nodup->i < l.length->wHs (wEm l k) (gd l i)=some ((k + i:Nat):Int)
 | a :: l,k,0,_,_=>by
  rw [wEm,wHs]
  exact if_pos rfl
 | a :: l,k,i + 1,nd,hi=>by
  rw [List.nodup_cons] at nd
  have hi':i < l.length:=by simpa using hi
  have e:gd (a :: l) (i + 1)=gd l i:=rfl
  have hne:gd l i ≠ a:=fun h=>nd.1 (h ▸ wCF hi')
  rw [e,wEm,wHs,if_neg hne,wKg nd.2 hi']
  congr 2
  omega
def pos (pts:List Pt) (p:Pt):Nat:=(wAw (wEm pts 0) p 0).toNat
theorem wIQ {α:Type} [Inhabited α] {l:List α} {a:α} (h:a ∈ l):∃ i,i < l.length/\gd l i=a:=by
 obtain ⟨i,hi,e⟩:=nP h
 exact ⟨i,hi,by rw [wEj hi,e]⟩
theorem wJa {pts:List Pt} (nd:pts.Nodup) {i:Nat} (hi:i < pts.length):pos pts (gd pts i)=i/\wAw (wEm pts 0) (gd pts i) 0=(i:Int)/\wKF (wEm pts 0) (gd pts i)=true:=by
 unfold pos wAw wKF
 rw [wKg nd hi]
 simp
theorem wHQ {pts:List Pt} (nd:pts.Nodup) {p:Pt} (h:p ∈ pts):pos pts p < pts.length/\gd pts (pos pts p)=p/\wAw (wEm pts 0) p 0=(pos pts p:Int)/\wKF (wEm pts 0) p=true:=by
 obtain ⟨i,hi,rfl⟩:=wIQ h
 obtain ⟨h1,h2,h3⟩:=wJa nd hi
 rw [h1]
 exact ⟨hi,rfl,h2,h3⟩
def wGo (pts:List Pt) (p:Pt):List Pt:=if p ∈ pts then pts else pts ++ [p]
theorem wIp {pts:List Pt} (nd:pts.Nodup) (p:Pt):(wGo pts p).Nodup:=by
 unfold wGo
 split
 ·exact nd
 ·rename_i h
  rw [kQ]
  exact ⟨nd,by simp,fun a ha b hb e=>h (by rw [nY.1 hb] at e;exact e ▸ ha)⟩
theorem wDf {pts:List Pt} {p q:Pt}:q ∈ wGo pts p ↔ q ∈ pts \/ q=p:=by
 unfold wGo
 split
 ·rename_i h
  exact ⟨.inl,fun e=>e.elim id fun e=>e ▸ h⟩
 ·rw [na,nY]
theorem wJb (pts:List Pt) (p:Pt):pts.length <= (wGo pts p).length/\(wGo pts p).length <= pts.length + 1:=by
 unfold wGo
 split <;> simp
theorem wJc {pts:List Pt} (nd:pts.Nodup) {p q:Pt} (h:q ∈ pts):wAw (wEm (wGo pts p) 0) q 0=wAw (wEm pts 0) q 0:=by
 unfold wGo
 split
 ·rfl
 ·rename_i hp
  obtain ⟨i,hi,rfl⟩:=wIQ h
  have e:gd (pts ++ [p]) i=gd pts i:=wEP hi
  have nd2:=wIp nd p
  unfold wGo at nd2
  rw [if_neg hp] at nd2
  rw [(wJa nd hi).2.1,<- e,(wJa nd2 (by rw [hJ];omega)).2.1]
theorem wJd {pts:List Pt} (nd:pts.Nodup) (p:Pt):(if (wKF (wEm pts 0) p)=true then some (wEm pts 0) else some (wFN (wEm pts 0) p (↑((wEm pts 0).length):Int)))=some (wEm (wGo pts p) 0):=by
 by_cases h:p ∈ pts
 ·rw [if_pos (wHQ nd h).2.2.2,wGo,if_pos h]
 ·have ho:=wJZ (k:=0) h
  have hn:¬ wKF (wEm pts 0) p=true:=by unfold wKF;rw [ho.1];simp
  rw [if_neg hn,ho.2,wGo,if_neg h,wJY,wHi,nb]
theorem wKh {pts:List Pt} {p:Pt} {i:Nat} (h:i < pts.length):gd (wGo pts p) i=gd pts i:=by
 unfold wGo
 split
 ·rfl
 ·exact wEP h
def mkE (r:wAD) (pts:List Pt) (x:wAH):wAa:=⟨x,wAw (wEm pts 0) (wDT r x).1 0,wAw (wEm pts 0) (wDT r x).2.1 0,(wDT r x).2.2⟩
structure Desk (r:wAD) (d:wAb) (pts:List Pt):Prop where
 c:RC r
 race:d.Race=r
 num:d.number=wEm pts 0
 nd:pts.Nodup
 len:1 <= pts.length/\pts.length <= 433
 zero:gd pts 0=zp
 all:∀ p,p ∈ pts ↔ wHh r p
 edges:d.edges=(wIO r).map (mkE r pts)
structure OpI (r:wAD) (pre:List wAH) (s:List wAa × List (Pt × Int)) (pts:List Pt):Prop where
 num:s.2=wEm pts 0
 nd:pts.Nodup
 len:1 <= pts.length/\pts.length <= 1 + 2 * pre.length
 zero:gd pts 0=zp
 ok:∀ p ∈ pts,wHh r p
 has:∀ x ∈ pre,(wDT r x).1 ∈ pts/\(wDT r x).2.1 ∈ pts
 edges:s.1=pre.map (mkE r pts)
def opF (r:wAD):List wAa × List (Pt × Int)->wAH->Option ((List wAa × List (Pt × Int)) ⊕ Empty):=fun (l1591,l1595) x1616 =>
  (wBO r x1616).bind fun (x1652,x1653,x1654) =>
  (wBy 0 2 (fun k1692 l1689 =>
   (idx ([x1652,x1653]:List wAI) (↑k1692:Int)).bind fun x1718 =>
   if (wKF l1689 x1718)=true then
    some l1689
   else
    some (wFN l1689 x1718 (↑(l1689.length):Int))) l1595).bind fun y1697 =>
  (app 56 l1591 [(⟨x1616,(wAw y1697 x1652 0),(wAw y1697 x1653 0),x1654⟩:wAa)]).bind fun x1773 =>
  some (.inl (x1773,y1697))
theorem wNj {r:wAD} (C:RC r) {pre:List wAH} (hp:pre.length <= 216) {x:wAH} (hx:wEF r x) {s:List wAa × List (Pt × Int)} {pts:List Pt} (I:OpI r pre s pts):∃ s' pts',opF r s x=some (.inl s')/\OpI r (pre ++ [x]) s' pts':=by
 obtain ⟨es,num⟩:=s
 obtain ⟨hn,nd,hl,hz,ok,has,he⟩:=I
 simp only at hn he
 subst hn he
 obtain ⟨o1,o2,_,_⟩:=wGC C hx
 unfold opF
 simp only
 rw [wLa C hx,hH]
 have nd1:=wIp nd (wDT r x).1
 have nd2:=wIp nd1 (wDT r x).2.1
 have loop:(wBy 0 2 (fun k1692 l1689 =>
   (idx ([(wDT r x).1,(wDT r x).2.1]:List wAI) (↑k1692:Int)).bind fun x1718 =>
   if (wKF l1689 x1718)=true then
    some l1689
   else
    some (wFN l1689 x1718 (↑(l1689.length):Int))) (wEm pts 0))=some (wEm (wGo (wGo pts (wDT r x).1) (wDT r x).2.1) 0):=by
  unfold wBy
  rw [if_pos (by omega)]
  show forN' _ 2 0 (wEm pts 0)=_
  have i0:idx ([(wDT r x).1,(wDT r x).2.1]:List wAI) ((0:Nat):Int)=some (wDT r x).1:=rfl
  have i1:idx ([(wDT r x).1,(wDT r x).2.1]:List wAI) ((0 + 1:Nat):Int)=some (wDT r x).2.1:=rfl
  simp only [forN',i0,i1,hH]
  rw [wJd nd]
  simp only
  rw [wJd nd1]
 rw [loop,hH,wEO (by rw [kX];simp only [nI,nO];omega),hH]
 have l1:=wJb pts (wDT r x).1
 have l2:=wJb (wGo pts (wDT r x).1) (wDT r x).2.1
 have same:∀ q ∈ pts,wAw (wEm (wGo (wGo pts (wDT r x).1) (wDT r x).2.1) 0) q 0=wAw (wEm pts 0) q 0:=fun q hq=>by
  rw [wJc nd1 (wDf.2 (.inl hq)),wJc nd hq]
 refine ⟨_,wGo (wGo pts (wDT r x).1) (wDT r x).2.1,rfl,rfl,nd2,⟨by omega,by rw [hJ,nH];omega⟩,?_,fun p hp=>?_,fun y hy=>?_,?_⟩
 ·rw [wKh (by omega),wKh (by omega),hz]
 ·rcases wDf.1 hp with hp | rfl
  ·rcases wDf.1 hp with hp | rfl
   ·exact ok p hp
   ·exact o1
  ·exact o2
 ·rcases na.1 hy with hy | hy
  ·obtain ⟨a,b⟩:=has y hy
   exact ⟨wDf.2 (.inl (wDf.2 (.inl a))),wDf.2 (.inl (wDf.2 (.inl b)))⟩
  ·have:=nY.1 hy
   subst this
   exact ⟨wDf.2 (.inl (wDf.2 (.inr rfl))),wDf.2 (.inr rfl)⟩
 ·simp only
  rw [ny]
  congr 1
  refine kh fun y hy=>?_
  obtain ⟨a,b⟩:=has y hy
  unfold mkE
  rw [same _ a,same _ b]
theorem skip (r:wAD) (p:Pt) (h:wHh r p) (C:RC r):p=zp \/ ∃ x,wEF r x/\(wDT r x).2.1=p:=by
 rcases h with h | ⟨a,b,c,d⟩ | ⟨a,b,c⟩
 ·exact .inl h
 ·right
  by_cases e:p.mat=0
  ·refine ⟨⟨0,p.skier,0,true⟩,.inl ⟨rfl,a,b,rfl⟩,?_⟩
   show (⟨p.skier,0⟩:Pt)=p
   rw [<- e]
  ·refine ⟨⟨1,p.skier,p.mat - 1,true⟩,.inr (.inl ⟨rfl,a,b,by simp only;omega,by simp only;omega⟩),?_⟩
   show (⟨p.skier,p.mat - 1 + 1⟩:Pt)=p
   rw [nn]
 ·right
  refine ⟨⟨2,0,p.mat - 1,true⟩,.inr (.inr (.inl ⟨rfl,rfl,by simp only;omega,by simp only;omega⟩)),?_⟩
  show (⟨-1,1 + (p.mat - 1)⟩:Pt)=p
  rw [<- a,kU,nn]
theorem wKi {r:wAD} (C:RC r):∃ d pts,wCs r=some d/\Desk r d pts:=by
 unfold wCs wCR wCr
 simp only [hH]
 rw [wKf _ _ C]
 have hlen:=wIP C
 have key:∀ (l pre:List wAH) (s:List wAa × List (Pt × Int)) (pts:List Pt),OpI r pre s pts->pre.length + l.length <= 216->(∀ x ∈ l,wEF r x)->∃ s' pts',wHt (opF r) l s=some (.inl s')/\OpI r (pre ++ l) s' pts':=by
  intro l
  induction l with
  | nil=>intro pre s pts I _ _;exact ⟨s,pts,rfl,by rw [nv];exact I⟩
  | cons x l ih =>
   intro pre s pts I hl hx
   simp only [nI] at hl
   obtain ⟨s1,p1,e,I1⟩:=wNj C (by omega) (hx x (by simp)) I
   obtain ⟨s2,p2,e2,I2⟩:=ih (pre ++ [x]) s1 p1 I1 (by rw [hJ,nH];omega) fun y hy=>hx y (by simp [hy])
   refine ⟨s2,p2,by rw [wHt,e];exact e2,?_⟩
   rw [nA] at I2
   exact I2
 obtain ⟨⟨es,num⟩,pts,e,I⟩:=key (wIO r) [] ([],wFN ([]:List (Pt × Int)) (⟨-1,0⟩:wAI) 0) [zp] ⟨rfl,by simp,⟨by simp,by simp⟩,rfl,fun p hp=>.inl (nY.1 hp),(fun x hx=>by cases hx),rfl⟩ (by simpa using hlen) fun x hx=>wFA.1 hx
 rw [List.nil_append] at I
 have hz:zp ∈ pts:=I.zero ▸ wCF I.len.1
 refine ⟨⟨r,num,es⟩,pts,?_,C,rfl,I.num,I.nd,⟨I.len.1,by have:=I.len.2;omega⟩,I.zero,fun p=>⟨I.ok p,fun h=>?_⟩,I.edges⟩
 ·show (wHt (opF r) (wIO r) _).bind _=_
  rw [e]
  rfl
 ·rcases skip r p h C with rfl | ⟨x,hx,rfl⟩
  ·exact hz
  ·exact (I.has x (wFA.2 hx)).2
end Go.Proofs.YtkghaiefcjgfkaaGreat
namespace Go.Proofs.YtkghaiefcjgfkaaGreat
open Go.KL Go.KL.Net
def wDj (r:wAD) (y:Pt->Int):Prop:=∀ x,wEF r x->y (wDT r x).2.1 <= y (wDT r x).1 + (wDT r x).2.2
section
variable {r:wAD} {y:Pt->Int}
theorem fp0 (F:wDj r y) {s:Int} (h0:0 <= s) (h1:s < r.Starts.length):y ⟨s,0⟩=y zp + gd r.Starts s.toNat:=by
 have a:y ⟨s,0⟩ <= y zp + gd r.Starts s.toNat:=F ⟨0,s,0,true⟩ (.inl ⟨rfl,h0,h1,rfl⟩)
 have b:y zp <= y ⟨s,0⟩ + -gd r.Starts s.toNat:=F ⟨0,s,0,false⟩ (.inl ⟨rfl,h0,h1,rfl⟩)
 omega
theorem fp1 (F:wDj r y) {s k:Int} (h0:0 <= s) (h1:s < r.Starts.length) (k0:0 <= k) (k1:k < r.Splits.length):y ⟨s,k⟩ + (gd r.Splits k.toNat).Lo <= y ⟨s,k + 1⟩/\y ⟨s,k + 1⟩ <= y ⟨s,k⟩ + (gd r.Splits k.toNat).Hi:=by
 have a:y ⟨s,k + 1⟩ <= y ⟨s,k⟩ + (gd r.Splits k.toNat).Hi:=F ⟨1,s,k,true⟩ (.inr (.inl ⟨rfl,h0,h1,k0,k1⟩))
 have b:y ⟨s,k⟩ <= y ⟨s,k + 1⟩ + -(gd r.Splits k.toNat).Lo:=F ⟨1,s,k,false⟩ (.inr (.inl ⟨rfl,h0,h1,k0,k1⟩))
 omega
theorem fp2 (F:wDj r y) {k:Int} (k0:0 <= k) (k1:k < r.Clocks.length):y ⟨-1,1 + k⟩ <= y zp - (gd r.Clocks k.toNat).Offset.Lo/\y zp <= y ⟨-1,1 + k⟩ + (gd r.Clocks k.toNat).Offset.Hi:=by
 have a:y ⟨-1,1 + k⟩ <= y zp + -(gd r.Clocks k.toNat).Offset.Lo:=F ⟨2,0,k,true⟩ (.inr (.inr (.inl ⟨rfl,rfl,k0,k1⟩)))
 have b:y zp <= y ⟨-1,1 + k⟩ + (gd r.Clocks k.toNat).Offset.Hi:=F ⟨2,0,k,false⟩ (.inr (.inr (.inl ⟨rfl,rfl,k0,k1⟩)))
 omega
theorem wLb (C:RC r) (F:wDj r y) {p:Pt} (hp:wHh r p):-3300000 <= y p - y zp/\y p - y zp <= 3300000:=by
 rcases hp with rfl | ⟨a,b,c,d⟩ | ⟨a,b,c⟩
 ·omega
 ·have key:∀ k:Nat,(k:Int) <= r.Splits.length->0 <= y ⟨p.skier,k⟩ - y zp/\y ⟨p.skier,k⟩ - y zp <= 360000 * ((k:Int) + 1):=by
   intro k
   induction k with
   | zero =>
    intro _
    have:=fp0 F a b
    have:=C.st _ (wCy a b)
    show 0 <= y ⟨p.skier,0⟩ - y zp/\y ⟨p.skier,0⟩ - y zp <= _
    omega
   | succ k ih =>
    intro hk
    have h:=ih (by omega)
    have f:=fp1 F a b (k:=(k:Int)) (by omega) (by omega)
    have g:=C.sp _ (wCy (l:=r.Splits) (i:=(k:Int)) (by omega) (by omega))
    have e:((k + 1:Nat):Int)=(k:Int) + 1:=by omega
    rw [e]
    omega
  have:=key p.mat.toNat (by omega)
  rw [nR c] at this
  have hm:=C.m
  have e:(⟨p.skier,p.mat⟩:Pt)=p:=rfl
  rw [e] at this
  omega
 ·have f:=fp2 F (k:=p.mat - 1) (by omega) (by omega)
  have g:=(C.ck _ (wCy (l:=r.Clocks) (i:=p.mat - 1) (by omega) (by omega))).1
  have e:(⟨-1,1 + (p.mat - 1)⟩:Pt)=p:=by rw [<- a,kU,nn]
  rw [e] at f
  omega
theorem to_zp {S:Pt->Prop} (hS:∀ x,wEF r x->S (wDT r x).1->S (wDT r x).2.1) {p:Pt} (hp:wHh r p) (h:S p):S zp:=by
 rcases hp with rfl | ⟨a,b,c,d⟩ | ⟨a,b,c⟩
 ·exact h
 ·have key:∀ k:Nat,(k:Int) <= r.Splits.length->S ⟨p.skier,k⟩->S zp:=by
   intro k
   induction k with
   | zero=>intro _ hk;exact hS ⟨0,p.skier,0,false⟩ (.inl ⟨rfl,a,b,rfl⟩) hk
   | succ k ih =>
    intro hk h
    refine ih (by omega) ?_
    have e:((k + 1:Nat):Int)=(k:Int) + 1:=by omega
    rw [e] at h
    exact hS ⟨1,p.skier,k,false⟩ (.inr (.inl ⟨rfl,a,b,by simp only;omega,by simp only;omega⟩)) h
  refine key p.mat.toNat (by omega) ?_
  rw [nR c];exact h
 ·have e:(⟨-1,1 + (p.mat - 1)⟩:Pt)=p:=by rw [<- a,kU,nn]
  refine hS ⟨2,0,p.mat - 1,false⟩ (.inr (.inr (.inl ⟨rfl,rfl,by simp only;omega,by simp only;omega⟩))) ?_
  show S ⟨-1,1 + (p.mat - 1)⟩
  rw [e];exact h
theorem of_zp {S:Pt->Prop} (hS:∀ x,wEF r x->S (wDT r x).1->S (wDT r x).2.1) (h:S zp) {p:Pt} (hp:wHh r p):S p:=by
 rcases hp with rfl | ⟨a,b,c,d⟩ | ⟨a,b,c⟩
 ·exact h
 ·have key:∀ k:Nat,(k:Int) <= r.Splits.length->S ⟨p.skier,k⟩:=by
   intro k
   induction k with
   | zero=>intro _;exact hS ⟨0,p.skier,0,true⟩ (.inl ⟨rfl,a,b,rfl⟩) h
   | succ k ih =>
    intro hk
    have e:((k + 1:Nat):Int)=(k:Int) + 1:=by omega
    rw [e]
    exact hS ⟨1,p.skier,k,true⟩ (.inr (.inl ⟨rfl,a,b,by simp only;omega,by simp only;omega⟩)) (ih (by omega))
  have:=key p.mat.toNat (by omega)
  rw [nR c] at this
  exact this
 ·have e:(⟨-1,1 + (p.mat - 1)⟩:Pt)=p:=by rw [<- a,kU,nn]
  have:=hS ⟨2,0,p.mat - 1,true⟩ (.inr (.inr (.inl ⟨rfl,rfl,by simp only;omega,by simp only;omega⟩))) h
  rw [<- e];exact this
def turn (x:wAH):wAH:=⟨x.Kind,x.Skier,x.Index,!x.Up⟩
theorem wMg {x:wAH} (h:wEF r x):wEF r (turn x)/\(wDT r (turn x)).1=(wDT r x).2.1/\(wDT r (turn x)).2.1=(wDT r x).1:=by
 refine ⟨h,?_⟩
 obtain ⟨k,s,i,u⟩:=x
 unfold wDT turn
 cases u <;> exact ⟨rfl,rfl⟩
structure IsDP (r:wAD) (a:Pt) (f:Pt->Int):Prop where
 ok:wDj r f
 zero:f a=0
 gr:∀ y,wDj r y->∀ p,wHh r p->y p - y a <= f p
theorem IsDP.one {a:Pt} {f g:Pt->Int} (F:IsDP r a f) (G:IsDP r a g) {p:Pt} (hp:wHh r p):f p=g p:=by
 have h1:=F.gr g G.ok p hp
 have h2:=G.gr f F.ok p hp
 have:=F.zero;have:=G.zero
 omega
end
section
variable {r:wAD} {d:wAb} {pts:List Pt} (D:Desk r d pts)
include D
theorem Desk.pos_ok {p:Pt} (hp:wHh r p):pos pts p < pts.length/\gd pts (pos pts p)=p/\wAw d.number p 0=(pos pts p:Int):=by
 obtain ⟨h1,h2,h3,_⟩:=wHQ D.nd ((D.all p).2 hp)
 exact ⟨h1,h2,by rw [D.num];exact h3⟩
theorem Desk.gd_ok {v:Nat} (hv:v < pts.length):wHh r (gd pts v)/\pos pts (gd pts v)=v:=⟨(D.all _).1 (wCF hv),(wJa D.nd hv).1⟩
theorem Desk.ed_is {x:wAH} (h:wEF r x) (p:Bool):ed p (mkE r pts x)=if p then ⟨pos pts (wDT r x).2.1,pos pts (wDT r x).1,(wDT r x).2.2⟩ else ⟨pos pts (wDT r x).1,pos pts (wDT r x).2.1,(wDT r x).2.2⟩:=by
 obtain ⟨o1,o2,_,_⟩:=wGC D.c h
 have h1:=(wHQ D.nd ((D.all _).2 o1)).2.2.1
 have h2:=(wHQ D.nd ((D.all _).2 o2)).2.2.1
 unfold ed mkE
 simp only [h1,h2,nJ]
theorem Desk.mem {p:Bool} {e:Ed}:e ∈ d.edges.map (ed p) ↔ ∃ x,wEF r x/\e=ed p (mkE r pts x):=by
 rw [D.edges,List.map_map]
 constructor
 ·intro h
  obtain ⟨x,hx,rfl⟩:=nk.1 h
  exact ⟨x,wFA.1 hx,rfl⟩
 ·rintro ⟨x,hx,rfl⟩
  exact nk.2 ⟨x,wFA.2 hx,rfl⟩
theorem Desk.edOK:∀ e ∈ d.edges,EdOK pts.length e:=by
 intro e he
 rw [D.edges] at he
 obtain ⟨x,hx,rfl⟩:=nk.1 he
 have h:=wFA.1 hx
 obtain ⟨o1,o2,c1,c2⟩:=wGC D.c h
 obtain ⟨h1,_,h2,_⟩:=wHQ D.nd ((D.all _).2 o1)
 obtain ⟨g1,_,g2,_⟩:=wHQ D.nd ((D.all _).2 o2)
 unfold mkE
 rw [h2,g2]
 exact ⟨by simp only;omega,by simp only;omega,by simp only;omega,by simp only;omega,c1,c2⟩
theorem Desk.elen:d.edges.length <= 1000:=by
 have:=wIP D.c
 rw [D.edges,kX]
 omega
theorem Desk.feas {y:Pt->Int} (F:wDj r y):wGn (d.edges.map (ed false)) fun v=>y (gd pts v):=by
 intro e he
 obtain ⟨x,hx,rfl⟩:=D.mem.1 he
 obtain ⟨o1,o2,_,_⟩:=wGC D.c hx
 rw [D.ed_is hx]
 simp only [nS,if_false]
 rw [(D.pos_ok o1).2.1,(D.pos_ok o2).2.1]
 exact F x hx
theorem Desk.back {z:Nat->Int} (F:wGn (d.edges.map (ed false)) z):wDj r fun p=>z (pos pts p):=by
 intro x hx
 have:=F _ (D.mem.2 ⟨x,hx,rfl⟩)
 rw [D.ed_is hx] at this
 simp only [nS,if_false] at this
 exact this
theorem Desk.backT {z:Nat->Int} (F:wGn (d.edges.map (ed true)) z):wDj r fun p=>-z (pos pts p):=by
 intro x hx
 have:=F _ (D.mem.2 ⟨x,hx,rfl⟩)
 rw [D.ed_is hx] at this
 simp only [if_true] at this
 simp only
 omega
theorem Desk.con (p:Bool):Con pts.length 6600000 (d.edges.map (ed p)):=by
 refine ⟨fun e he=>?_,fun z hz a b ha hb=>?_,fun S i hi hSi hS v hv=>?_⟩
 ·obtain ⟨x,hx,rfl⟩:=D.mem.1 he
  obtain ⟨o1,o2,_,_⟩:=wGC D.c hx
  have h1:=(D.pos_ok o1).1
  have h2:=(D.pos_ok o2).1
  rw [D.ed_is hx]
  split
  ·exact ⟨h2,h1⟩
  ·exact ⟨h1,h2⟩
 ·obtain ⟨pa,ea⟩:=D.gd_ok ha
  obtain ⟨pb,eb⟩:=D.gd_ok hb
  cases p with
  | false =>
   have h1:=wLb D.c (D.back hz) pa
   have h2:=wLb D.c (D.back hz) pb
   simp only [ea,eb] at h1 h2
   omega
  | true =>
   have h1:=wLb D.c (D.backT hz) pa
   have h2:=wLb D.c (D.backT hz) pb
   simp only [ea,eb] at h1 h2
   omega
 ·have hcl:∀ x,wEF r x->S (pos pts (wDT r x).1)->S (pos pts (wDT r x).2.1):=fun x hx h=>by
   cases p with
   | false =>
    have:=hS _ (D.mem.2 ⟨x,hx,rfl⟩)
    rw [D.ed_is hx] at this
    simp only [nS,if_false] at this
    exact this h
   | true =>
    obtain ⟨t1,t2,t3⟩:=wMg hx
    have:=hS _ (D.mem.2 ⟨_,t1,rfl⟩)
    rw [D.ed_is t1] at this
    simp only [if_true] at this
    rw [t2,t3] at this
    exact this h
  obtain ⟨pi,ei⟩:=D.gd_ok hi
  obtain ⟨pv,ev⟩:=D.gd_ok hv
  have:=of_zp (S:=fun q=>S (pos pts q)) hcl (to_zp (S:=fun q=>S (pos pts q)) hcl pi (by show S (pos pts (gd pts i));rw [ei];exact hSi)) pv
  have this:S (pos pts (gd pts v)):=this
  rwa [ev] at this
theorem Desk.cost (p:Bool):∀ e ∈ d.edges.map (ed p),e.c <= 400000:=by
 intro e he
 obtain ⟨x,hx,rfl⟩:=D.mem.1 he
 obtain ⟨_,_,_,c⟩:=wGC D.c hx
 rw [D.ed_is hx]
 split <;> exact c
theorem Desk.nlen:d.number.length=pts.length:=by rw [D.num,wHi]
theorem Desk.any:∃ f last ok,wAg d (-1) false=some (f,last,ok)/\f.far.length=pts.length/\f.by_.length=pts.length/\(ok=true ↔ ∃ y,wDj r y)/\(ok=true->wDj r fun p=>gd f.far (pos pts p))/\(ok=false->0 <= last/\last < pts.length):=by
 obtain ⟨f,last,ok,e,bl,fl,h1,h2⟩:=wIM D.nlen D.len.1 (by have:=D.len.2;omega) D.edOK D.elen (-1) false
 have hp:0 < pts.length:=D.len.1
 have t0:wGd (-1) 0=0:=by unfold wGd;rw [if_pos (.inl (by omega))]
 have feas:ok=true->wDj r fun p=>gd f.far (pos pts p):=fun h=>D.back ((h1 h).feas (D.con false) (D.cost false) hp t0)
 refine ⟨f,last,ok,e,fl,bl,⟨fun h=>⟨_,feas h⟩,fun ⟨y,hy⟩=>?_⟩,feas,fun h=>⟨(h2 h).1,(h2 h).2.1⟩⟩
 cases ok with
 | true=>rfl
 | false =>
  exfalso
  obtain ⟨δ,M⟩:=wKb (D.con false) (D.feas hy) hp t0 (fun v _=>(wME (-1) v).1)
  exact (h2 rfl).2.2 δ M fun v hv=>by have:=M.hi (D.con false) hp t0 v hv;omega
theorem Desk.from_ (hy:∃ y,wDj r y) {a:Pt} (ha:wHh r a):∃ f last,wAg d (pos pts a:Int) false=some (f,last,true)/\f.far.length=pts.length/\IsDP r a fun p=>gd f.far (pos pts p):=by
 obtain ⟨f,last,ok,e,bl,fl,h1,h2⟩:=wIM D.nlen D.len.1 (by have:=D.len.2;omega) D.edOK D.elen (pos pts a:Int) false
 obtain ⟨hp,hg,_⟩:=D.pos_ok ha
 have t0:wGd (pos pts a:Int) (pos pts a)=0:=by unfold wGd;rw [if_pos (.inr rfl)]
 obtain ⟨y,hy⟩:=hy
 have hok:ok=true:=by
  cases ok with
  | true=>rfl
  | false =>
   exfalso
   obtain ⟨δ,M⟩:=wKb (D.con false) (D.feas hy) hp t0 (fun v _=>(wME _ v).1)
   exact (h2 rfl).2.2 δ M fun v hv=>by have:=M.hi (D.con false) hp t0 v hv;omega
 subst hok
 have I:=(h1 rfl).isD (by omega) (D.con false) (D.cost false) hp
 refine ⟨f,last,e,fl,D.back I.ok,I.zero,fun z hz p hpt=>?_⟩
 have:=I.gr _ (D.feas hz) (pos pts p) (D.pos_ok hpt).1
 simp only [hg,(D.pos_ok hpt).2.1] at this
 exact this
end
end Go.Proofs.YtkghaiefcjgfkaaGreat
namespace Go.Proofs.YtkghaiefcjgfkaaGreat
open Go.KL Go.KL.Net
def inB (n lo hi:Int):Bool:=decide (lo <= n/\n <= hi)
theorem wIq (n lo hi:Int):wBD n lo hi=some (inB n lo hi):=by
 unfold wBD inB
 by_cases h:lo <= n
 ·rw [if_pos h];simp [h]
 ·rw [if_neg h];simp [h]
def wLc (s:wAF) (lo hi:Int):Bool:=decide (s.Lo <= s.Hi/\lo <= s.Lo/\s.Hi <= hi)
theorem wHR (s:wAF) (lo hi:Int):wCZ s lo hi=some (wLc s lo hi):=by
 unfold wCZ wLc
 by_cases h:s.Lo <= s.Hi
 ·by_cases h2:lo <= s.Lo
  ·rw [if_pos h,if_pos h2];simp [h,h2]
  ·rw [if_pos h,if_neg h2];simp [h2]
 ·rw [if_neg h];simp [h]
theorem wKj {l:List Int} {f:Int->Option Bool} {p:Int->Bool} (hf:∀ a ∈ l,f a=some (p a)) (hn:l.length <= 1000):wCO l f=some (l.all p):=by
 unfold wCO
 refine (wFH (R:=Bool) (p:=p) (z:=false) (K:=fun _=>some true) (fun a ha=>?_) (by omega)).trans ?_
 ·rw [hf a ha,hH];split <;> rfl
 ·split <;> simp_all
theorem wJw {l:List wAF} {f:wAF->Option Bool} {p:wAF->Bool} (hf:∀ a ∈ l,f a=some (p a)) (hn:l.length <= 1000):wBZ l f=some (l.all p):=by
 unfold wBZ
 refine (wFH (R:=Bool) (p:=p) (z:=false) (K:=fun _=>some true) (fun a ha=>?_) (by omega)).trans ?_
 ·rw [hf a ha,hH];split <;> rfl
 ·split <;> simp_all
theorem wIr {l:List wAO} {f:wAO->Option Bool} {p:wAO->Bool} (hf:∀ a ∈ l,f a=some (p a)) (hn:l.length <= 1000):wBM l f=some (l.all p):=by
 unfold wBM
 refine (wFH (R:=Bool) (p:=p) (z:=false) (K:=fun _=>some true) (fun a ha=>?_) (by omega)).trans ?_
 ·rw [hf a ha,hH];split <;> rfl
 ·split <;> simp_all
theorem wFn {l:List wAJ} {f:wAJ->Option Bool} {p:wAJ->Bool} (hf:∀ a ∈ l,f a=some (p a)) (hn:l.length <= 1000):wAp l f=some (l.all p):=by
 unfold wAp
 refine (wFH (R:=Bool) (p:=p) (z:=false) (K:=fun _=>some true) (fun a ha=>?_) (by omega)).trans ?_
 ·rw [hf a ha,hH];split <;> rfl
 ·split <;> simp_all
structure wFQ (r:wAD):Prop where
 n:r.Starts.length <= 10
 m:r.Splits.length <= 9
 c:r.Clocks.length <= 6
 q:r.Readings.length <= 44
def stP (s:Int):Bool:=inB s 0 360000
def spP (s:wAF):Bool:=wLc s 0 360000
def ckP (c:wAO):Bool:=wLc c.Offset (-36000) 36000 && inB c.Error 0 600
def rtP (x:wAJ):Bool:=inB x.Time 0 360000
def ruP (r:wAD) (x:wAJ):Bool:=inB x.Skier 0 ((r.Starts.length:Int) - 1) && (inB x.Mat 0 r.Splits.length && inB x.Clock 0 ((r.Clocks.length:Int) - 1))
def code (r:wAD):Int :=
 if ¬ (1 <= r.Starts.length/\r.Starts.length <= 8) then 2 else if 7 < r.Splits.length then 2 else if 4 < r.Clocks.length then 2 else if 40 < r.Readings.length then 2
 else if r.Starts.all stP=true then (if r.Splits.all spP=true then (if r.Clocks.all ckP=true then (if r.Readings.all rtP=true then (if r.Readings.all (ruP r)=true then 0 else 1) else 3) else 3) else 3) else 3
theorem wKk {r:wAD} (h:code r=0):RC r:=by
 unfold code at h
 split at h
 ·omega
 ·split at h
  ·omega
  ·split at h
   ·omega
   ·split at h
    ·omega
    ·split at h
     ·split at h
      ·split at h
       ·split at h
        ·split at h
         ·rename_i a1 a2 a3 a4 h1 h2 h3 h4 h5
          rw [kD] at h1 h2 h3 h4 h5
          refine ⟨by omega,by omega,by omega,by omega,fun s hs=>?_,fun s hs=>?_,fun s hs=>?_,fun s hs=>?_,fun s hs=>?_⟩
          ·have:=h1 s hs
           simp only [stP,inB,decide_eq_true_eq] at this
           exact this
          ·have:=h2 s hs
           simp only [spP,wLc,decide_eq_true_eq] at this
           exact this
          ·have:=h3 s hs
           simp only [ckP,wLc,inB,nt,decide_eq_true_eq] at this
           exact this
          ·have:=h4 s hs
           simp only [rtP,inB,decide_eq_true_eq] at this
           exact this
          ·have:=h5 s hs
           simp only [ruP,inB,nt,decide_eq_true_eq] at this
           omega
         ·omega
        ·omega
       ·omega
      ·omega
     ·omega
theorem wKl {r:wAD} (S:wFQ r) (s:wAM):wAj r s=some (inB s.Skier 0 ((r.Starts.length:Int) - 1) && inB s.Mat 0 r.Splits.length):=by
 have:=S.n
 unfold wAj
 rw [wAW (by omega) (by omega),wIq,hH,wIq,hH]
 cases inB s.Skier 0 ((r.Starts.length:Int) - 1)
 ·rw [if_neg (by simp)];rfl
 ·rw [if_pos rfl,Bool.true_and]
theorem wJx {r:wAD} (S:wFQ r):wCQ r=some (code r):=by
 have hn:=S.n;have hm:=S.m;have hc:=S.c;have hq:=S.q
 unfold wCQ code
 rw [wIq,hH]
 by_cases c1:1 <= r.Starts.length/\r.Starts.length <= 8
 ·have e1:inB (r.Starts.length:Int) 1 8=true:=by unfold inB;rw [decide_eq_true_eq];omega
  rw [e1,if_pos rfl,if_neg (show ¬ ¬ (1 <= r.Starts.length/\r.Starts.length <= 8) from fun h=>h c1)]
  by_cases c2:7 < r.Splits.length
  ·rw [if_pos (show (7:Int) < (r.Splits.length:Int) by omega),if_pos c2]
  ·rw [if_neg (show ¬ (7:Int) < (r.Splits.length:Int) by omega),if_neg c2]
   by_cases c3:4 < r.Clocks.length
   ·rw [if_pos (show (4:Int) < (r.Clocks.length:Int) by omega),if_pos c3]
   ·rw [if_neg (show ¬ (4:Int) < (r.Clocks.length:Int) by omega),if_neg c3]
    by_cases c4:40 < r.Readings.length
    ·rw [if_pos (show (40:Int) < (r.Readings.length:Int) by omega),if_pos c4]
    ·rw [if_neg (show ¬ (40:Int) < (r.Readings.length:Int) by omega),if_neg c4]
     rw [wKj (p:=stP) (fun a _=>by unfold wCY;rw [wIq];rfl) (by omega),hH]
     rw [wJw (p:=spP) (fun a _=>by unfold wCa;rw [wHR];rfl) (by omega),hH]
     rw [wIr (p:=ckP) (fun a _=>by
      unfold wCb ckP
      rw [wHR,hH,wIq,hH]
      cases wLc a.Offset (-36000) 36000
      ·rw [if_neg (by simp)];rfl
      ·rw [if_pos rfl];rfl) (by omega),hH]
     rw [wFn (p:=rtP) (fun a _=>by unfold wCc;rw [wIq];rfl) (by omega),hH]
     rw [wFn (p:=ruP r) (fun a _=>by
      unfold wCd ruP
      rw [wKl S,hH,wAW (by omega) (by omega),wIq,hH]
      simp only
      cases inB a.Skier 0 ((r.Starts.length:Int) - 1)
      ·rw [if_neg (by simp)];rfl
      ·cases inB a.Mat 0 (r.Splits.length:Int)
       ·rw [if_neg (by simp)];rfl
       ·simp) (by omega),hH]
     split
     ·split
      ·split
       ·split
        ·split <;> rfl
        ·rfl
       ·rfl
      ·rfl
     ·rfl
 ·have e1:inB (r.Starts.length:Int) 1 8=false:=by unfold inB;rw [decide_eq_false_iff_not];omega
  rw [e1,if_neg (by simp),if_pos c1]
end Go.Proofs.YtkghaiefcjgfkaaGreat
namespace Go.Proofs.YtkghaiefcjgfkaaGreat
open Go.KL Go.KL.Net
open Classical
def wIs (r:wAD) (s:wAM):Bool:=inB s.Skier 0 ((r.Starts.length:Int) - 1) && inB s.Mat 0 r.Splits.length
def pt (s:wAM):Pt:=⟨s.Skier,s.Mat⟩
theorem wMh {r:wAD} {s:wAM} (h:wIs r s=true):wHh r (pt s)/\0 <= s.Skier/\s.Skier < r.Starts.length/\0 <= s.Mat/\s.Mat <= r.Splits.length:=by
 simp only [wIs,inB,nt,decide_eq_true_eq] at h
 exact ⟨.inr (.inl ⟨h.1.1,by simp only [pt];omega,h.2.1,h.2.2⟩),h.1.1,by omega,h.2.1,h.2.2⟩
noncomputable def wHM (r:wAD) (l:List wAM):Int:=if code r=0 then (if l.all (wIs r)=true then (if ∃ y,wDj r y then 0 else 7) else 1) else code r
theorem err0 {r:wAD} {l:List wAM} (h:wHM r l=0):RC r/\code r=0/\l.all (wIs r)=true/\∃ y,wDj r y:=by
 unfold wHM at h
 split at h
 ·split at h
  ·split at h
   ·rename_i a b c
    exact ⟨wKk a,a,b,c⟩
   ·omega
  ·omega
 ·contradiction
theorem wJe {r:wAD} (S:wFQ r):(code r ≠ 0/\wBz r=some (none,code r)) \/ (code r=0/\∃ d pts,wBz r=some (some d,0)/\Desk r d pts):=by
 unfold wBz
 rw [wJx S,hH]
 by_cases c:code r=0
 ·right
  obtain ⟨d,pts,e,D⟩:=wKi (wKk c)
  refine ⟨c,d,pts,?_,D⟩
  rw [if_pos c,e];rfl
 ·left
  exact ⟨c,if_neg c⟩
end Go.Proofs.YtkghaiefcjgfkaaGreat
namespace Go.Proofs.YtkghaiefcjgfkaaGreat
open Go.KL Go.KL.Net
open Classical
theorem wJy {l:List wAM} {f:wAM->Option Bool} {p:wAM->Bool} (hf:∀ a ∈ l,f a=some (p a)) (hn:l.length <= 1000):wAz l f=some (l.all p):=by
 unfold wAz
 refine (wFH (R:=Bool) (p:=p) (z:=false) (K:=fun _=>some true) (fun a ha=>?_) (by omega)).trans ?_
 ·rw [hf a ha,hH];split <;> rfl
 ·split <;> simp_all
section
variable {r:wAD} {d:wAb} {pts:List Pt} (D:Desk r d pts)
include D
theorem Desk.holds:∃ b,wAu d=some b/\(b=true ↔ ∃ y,wDj r y):=by
 obtain ⟨f,last,ok,e,_,_,h,_⟩:=D.any
 refine ⟨ok,?_,h⟩
 unfold wAu
 rw [e];rfl
end
theorem wLd {r:wAD} (S:wFQ r) {l:List wAM} (hl:l.length <= 10):∃ o,wCp r l=some (o,wHM r l)/\(wHM r l=0->∃ d pts,o=some d/\Desk r d pts)/\(wHM r l ≠ 0->o=none):=by
 unfold wCp
 rcases wJe S with ⟨c,e⟩ | ⟨c,d,pts,e,D⟩
 ·have ee:wHM r l=code r:=by unfold wHM;rw [if_neg c]
  refine ⟨none,?_,fun h=>absurd (ee ▸ h) c,fun _=>rfl⟩
  rw [e,hH,ee]
  simp only
  rw [if_neg c]
 ·rw [e,hH]
  simp only
  rw [if_pos trivial,wJy (p:=wIs r) (fun s _=>wKl S s) (by omega),hH]
  by_cases c2:l.all (wIs r)=true
  ·rw [if_pos c2]
   obtain ⟨b,e3,h3⟩:=D.holds
   rw [e3,hH]
   by_cases c3:∃ y,wDj r y
   ·have ee:wHM r l=0:=by unfold wHM;rw [if_pos c,if_pos c2,if_pos c3]
    rw [if_pos (h3.2 c3),ee]
    exact ⟨_,rfl,fun _=>⟨d,pts,rfl,D⟩,fun h=>absurd rfl h⟩
   ·have ee:wHM r l=7:=by unfold wHM;rw [if_pos c,if_pos c2,if_neg c3]
    rw [if_neg (fun h=>c3 (h3.1 h)),ee]
    exact ⟨_,rfl,fun h=>by omega,fun _=>rfl⟩
  ·have ee:wHM r l=1:=by unfold wHM;rw [if_pos c,if_neg c2]
   rw [if_neg c2,ee]
   exact ⟨_,rfl,fun h=>by omega,fun _=>rfl⟩
end Go.Proofs.YtkghaiefcjgfkaaGreat
namespace Go.Proofs.YtkghaiefcjgfkaaGreat
open Go.KL Go.KL.Net
open Classical
theorem wHS {S:Type} {body:Nat->S->Option S} {n:Nat} {s0:S} (I:Nat->S->Prop) (hn:n <= 1000) (h0:I 0 s0) (h:∀ i s,i < n->I i s->∃ s',body i s=some s'/\I (i + 1) s'):∃ s,wBy 0 (n:Int) body s0=some s/\I n s:=by
 rw [wDX (by omega)]
 have:=wEe (body:=body) I n 0 s0 h0 fun i s _ h2 h3=>h i s (by omega) h3
 rwa [nb] at this
theorem wNk (a:Arr Int 64) {i j:Nat} (hi:i < 64) (v:Int):(a.set i v).get j=if j=i then v else a.get j:=by
 unfold Arr.set Arr.get
 simp only [nV]
 by_cases e:j=i
 ·rw [if_pos e,e,List.getElem?_set_self (by rw [a.h];exact hi)]
  rfl
 ·rw [if_neg e,List.getElem?_set_ne (Ne.symm e)]
def ahK (G:Nat->Nat->Int) (i k:Nat):List Int:=((nT k).filter fun j=>decide (G i j < 0)).map fun (j:Nat)=>(j:Int)
def beK (G:Nat->Nat->Int) (i k:Nat):Nat:=(nT k).countP fun j=>decide (0 < G j i)
theorem wJf (G:Nat->Nat->Int) (i k:Nat):ahK G i (k + 1)=if G i k < 0 then ahK G i k ++ [(k:Int)] else ahK G i k:=by
 unfold ahK
 rw [List.range_succ,List.filter_append,ny]
 by_cases c:G i k < 0
 ·rw [if_pos c];simp [c]
 ·rw [if_neg c];simp [c]
theorem wJg (G:Nat->Nat->Int) (i k:Nat):beK G i (k + 1)=if 0 < G k i then beK G i k + 1 else beK G i k:=by
 unfold beK
 rw [List.range_succ,List.countP_append]
 by_cases c:0 < G k i
 ·rw [if_pos c];simp [c]
 ·rw [if_neg c];simp [c]
theorem wKm (G:Nat->Nat->Int) (i:Nat):∀ k,(ahK G i k).length <= k
 | 0=>by simp [ahK]
 | k + 1=>by
  have:=wKm G i k
  rw [wJf]
  split
  ·rw [hJ,nH];omega
  ·omega
theorem wMG (G:Nat->Nat->Int) (i:Nat):∀ k,beK G i k <= k
 | 0=>by simp [beK]
 | k + 1=>by
  have:=wMG G i k
  rw [wJg]
  split <;> omega
def plL (n:Nat) (G:Nat->Nat->Int):List wAF:=(nT n).map fun i=>⟨1 + ((ahK G i n).length:Int),1 + (beK G i n:Int)⟩
theorem wNl {α:Type} [Inhabited α] {n k:Nat} (f:Nat->α) (h:k < n):gd ((nT n).map f) k=f k:=by
 rw [wEj (by simpa using h)]
 simp
section
variable {r:wAD} {d:wAb} {pts:List Pt} (D:Desk r d pts)
include D
theorem wIt (hy:∃ y,wDj r y) {m:Int} (m0:0 <= m) (m1:m <= r.Splits.length) {F:Nat->Pt->Int} (hF:∀ i,i < r.Starts.length->IsDP r ⟨(i:Int),m⟩ (F i)):∃ a,wBj d m=some a/\∀ i j,i < r.Starts.length->j < r.Starts.length->a.get (i * 8 + j)=F i ⟨(j:Int),m⟩:=by
 have hn:=D.c.n
 have ok:∀ i,i < r.Starts.length->wHh r ⟨(i:Int),m⟩:=fun i hi=>.inr (.inl ⟨by simp only;omega,by simp only;omega,m0,m1⟩)
 unfold wBj
 rw [D.race]
 obtain ⟨a,e,I⟩:=wHS (n:=r.Starts.length) (body:=fun k19 a18 =>
  (wAg d (wAw d.number (⟨(↑k19:Int),m⟩:wAI) 0) false).bind fun (x47,x48,x49) =>
  (wBy 0 (↑r.Starts.length:Int) (fun k79 a78 =>
   (chk (wAw d.number (⟨(↑k79:Int),m⟩:wAI) 0) x47.far.length).bind fun _ =>
   (chk (↑k19:Int) 8).bind fun _ =>
   (chk (↑k79:Int) 8).bind fun _ =>
   some (a78.set (k19 * 8 + k79) (gd x47.far (wAw d.number (⟨(↑k79:Int),m⟩:wAI) 0).toNat))) a18).bind fun y84 =>
  some y84) (s0:=(Arr.fill 64 0)) (fun k (a:Arr Int 64)=>∀ i j,i < k->j < r.Starts.length->a.get (i * 8 + j)=F i ⟨(j:Int),m⟩) (by omega) (fun i j h=>by omega) fun k a hk I=>by
  obtain ⟨f,last,e1,fl,Q⟩:=D.from_ hy (ok k hk)
  obtain ⟨b,e2,J⟩:=wHS (n:=r.Starts.length) (body:=fun k79 a78 =>
   (chk (wAw d.number (⟨(↑k79:Int),m⟩:wAI) 0) f.far.length).bind fun _ =>
   (chk (↑k:Int) 8).bind fun _ =>
   (chk (↑k79:Int) 8).bind fun _ =>
   some (a78.set (k * 8 + k79) (gd f.far (wAw d.number (⟨(↑k79:Int),m⟩:wAI) 0).toNat))) (s0:=a) (fun l (a:Arr Int 64)=>(∀ i j,i < k->j < r.Starts.length->a.get (i * 8 + j)=F i ⟨(j:Int),m⟩)/\∀ j,j < l->a.get (k * 8 + j)=F k ⟨(j:Int),m⟩) (by omega) ⟨I,fun j h=>by omega⟩ fun l a hl J=>by
   obtain ⟨h1,_,h3⟩:=D.pos_ok (ok l hl)
   refine ⟨a.set (k * 8 + l) (F k ⟨(l:Int),m⟩),?_,?_⟩
   ·rw [h3,wBW (by omega) (by omega),hH,wBW (by omega) (by omega),hH,wBW (by omega) (by omega),hH,nJ,(hF k hk).one Q (ok l hl)]
   ·refine ⟨fun i j hi hj=>?_,fun j hj=>?_⟩
    ·rw [wNk _ (by omega),if_neg (by omega),J.1 i j hi hj]
    ·rw [wNk _ (by omega)]
     by_cases c:j=l
     ·subst c
      rw [if_pos rfl]
     ·rw [if_neg (by omega),J.2 j (by omega)]
  refine ⟨b,?_,fun i j hi hj=>?_⟩
  ·rw [(D.pos_ok (ok k hk)).2.2,e1,hH]
   simp only
   rw [e2];rfl
  ·by_cases c:i=k
   ·subst c;exact J.2 j hj
   ·exact J.1 i j (by omega) hj
 exact ⟨a,by rw [e];rfl,I⟩
end
theorem wKn {r:wAD} (S:wFQ r) (m:Int):∃ o,wDP r m=some (o,wHM r [⟨0,m⟩])/\(wHM r [⟨0,m⟩]=0->∃ d pts,o=some d/\Desk r d pts)/\(wHM r [⟨0,m⟩] ≠ 0->o=none):=by
 obtain ⟨o,e,h⟩:=wLd S (l:=[⟨0,m⟩]) (by simp)
 refine ⟨o,?_,h⟩
 unfold wDP
 rw [e,hH]
 cases o <;> rfl
theorem wNm {r:wAD} {m:Int} (h:wHM r [⟨0,m⟩]=0):RC r/\0 <= m/\m <= r.Splits.length/\∃ y,wDj r y:=by
 obtain ⟨C,_,hs,hy⟩:=err0 h
 simp only [List.all_cons,List.all_nil,Bool.and_true] at hs
 have:=wMh hs
 exact ⟨C,this.2.2.2.1,this.2.2.2.2,hy⟩
theorem wKo {r:wAD} (S:wFQ r) (m:Int):(wHM r [⟨0,m⟩] ≠ 0->wBm r m=some ([],wHM r [⟨0,m⟩]))/\(wHM r [⟨0,m⟩]=0->∀ F:Nat->Pt->Int,(∀ i,i < r.Starts.length->IsDP r ⟨(i:Int),m⟩ (F i))->wBm r m=some (plL r.Starts.length (fun i j=>F i ⟨(j:Int),m⟩),0)):=by
 unfold wBm
 obtain ⟨o,e,h0,h1⟩:=wKn S m
 rw [e,hH]
 simp only
 constructor
 ·intro c
  have ho:=h1 c
  subst ho
  simp only
  rw [if_neg c]
 ·intro c F hF
  obtain ⟨d,pts,rfl,D⟩:=h0 c
  obtain ⟨C,m0,m1,hy⟩:=wNm c
  obtain ⟨a,e1,ha⟩:=wIt D hy m0 m1 hF
  have hn:=C.n
  simp only
  rw [if_pos c,e1,hH,wDi (S:=List wAF) (n:=r.Starts.length) (fun k=>(plL r.Starts.length fun i j=>F i ⟨(j:Int),m⟩).take k) (s0:=[]) (by simp) (by omega) fun k hk=>?_]
  ·rw [hH,show (plL r.Starts.length fun i j=>F i ⟨(j:Int),m⟩).take r.Starts.length=plL r.Starts.length fun i j=>F i ⟨(j:Int),m⟩ from no (by simp [plL])]
  ·rw [wDi (S:=Int × Int) (n:=r.Starts.length) (fun j=>(1 + ((ahK (fun i j=>F i ⟨(j:Int),m⟩) k j).length:Int),1 + (beK (fun i j=>F i ⟨(j:Int),m⟩) k j:Int))) (s0:=(1,1)) (by simp [ahK,beK]) (by omega) fun j hj=>?_]
   ·have pl:(plL r.Starts.length fun i j=>F i ⟨(j:Int),m⟩).length=r.Starts.length:=by simp [plL]
    rw [hH]
    simp only
    rw [wEO (by rw [nB];simp only [nI,nO];omega),hH,wDo (by rw [pl];exact hk)]
    unfold plL
    rw [wNl _ hk]
   ·have l1:=wKm (fun i j=>F i ⟨(j:Int),m⟩) k j
    have l2:=wMG (fun i j=>F i ⟨(j:Int),m⟩) k j
    simp only
    rw [wBW (by omega) (by omega),hH,wBW (by omega) (by omega),hH,ha k j hk hj,ha j k hj hk,wAW (by omega) (by omega),wAW (by omega) (by omega),wJf,wJg]
    by_cases c1:F k ⟨(j:Int),m⟩ < 0
    ·rw [if_pos c1,if_pos c1]
     by_cases c2:0 < F j ⟨(k:Int),m⟩
     ·rw [if_pos c2,if_pos c2,hJ,nH]
      congr 2 <;> omega
     ·rw [if_neg c2,if_neg c2,hJ,nH]
      congr 2
    ·rw [if_neg c1,if_neg c1]
     by_cases c2:0 < F j ⟨(k:Int),m⟩
     ·rw [if_pos c2,if_pos c2]
      congr 2
     ·rw [if_neg c2,if_neg c2]
end Go.Proofs.YtkghaiefcjgfkaaGreat
namespace Go.Proofs.YtkghaiefcjgfkaaGreat
open Go.KL Go.KL.Net
open Classical
theorem wNn {r:wAD} (S:wFQ r) (c:code r=0) (hy:∃ y,wDj r y) {a:Pt} (ha:wHh r a):∃ f,IsDP r a f:=by
 rcases wJe S with ⟨c0,_⟩ | ⟨_,d,pts,_,D⟩
 ·exact absurd c c0
 ·obtain ⟨f,l,_,_,F⟩:=D.from_ hy ha
  exact ⟨_,F⟩
end Go.Proofs.YtkghaiefcjgfkaaGreat
namespace Go.Proofs.YtkghaiefcjgfkaaGreat
open Go.KL Go.KL.Net
open Classical
structure F4 (r:wAD) (y:Pt->Int):Prop where
 a:∀ s:Nat,s < r.Starts.length->y ⟨(s:Int),0⟩=y zp + gd r.Starts s
 b:∀ s k:Nat,s < r.Starts.length->k < r.Splits.length->(gd r.Splits k).Lo <= y ⟨(s:Int),(k:Int) + 1⟩ - y ⟨(s:Int),(k:Int)⟩/\y ⟨(s:Int),(k:Int) + 1⟩ - y ⟨(s:Int),(k:Int)⟩ <= (gd r.Splits k).Hi
 c:∀ k:Nat,k < r.Clocks.length->y ⟨-1,1 + (k:Int)⟩ <= y zp - (gd r.Clocks k).Offset.Lo/\y zp <= y ⟨-1,1 + (k:Int)⟩ + (gd r.Clocks k).Offset.Hi
 d:∀ x ∈ r.Readings,y ⟨x.Skier,x.Mat⟩ <= y ⟨-1,1 + x.Clock⟩ + (x.Time + (gd r.Clocks x.Clock.toNat).Error)/\y ⟨-1,1 + x.Clock⟩ <= y ⟨x.Skier,x.Mat⟩ + ((gd r.Clocks x.Clock.toNat).Error - x.Time)
theorem wLe {r:wAD} {y:Pt->Int}:wDj r y ↔ F4 r y:=by
 constructor
 ·intro F
  refine ⟨fun s hs=>?_,fun s k hs hk=>?_,fun k hk=>?_,fun x hx=>?_⟩
  ·have h:=fp0 F (s:=(s:Int)) (by omega) (by omega)
   rwa [nJ] at h
  ·have h:=fp1 F (s:=(s:Int)) (k:=(k:Int)) (by omega) (by omega) (by omega) (by omega)
   rw [nJ] at h
   omega
  ·have h:=fp2 F (k:=(k:Int)) (by omega) (by omega)
   rwa [nJ] at h
  ·obtain ⟨k,hk,rfl⟩:=wIQ hx
   have a:y ⟨(gd r.Readings k).Skier,(gd r.Readings k).Mat⟩ <= y ⟨-1,1 + (gd r.Readings k).Clock⟩ + ((gd r.Readings k).Time + (gd r.Clocks (gd r.Readings k).Clock.toNat).Error):=F ⟨3,0,(k:Int),true⟩ (.inr (.inr (.inr ⟨rfl,rfl,by simp only;omega,by simp only;omega⟩)))
   have b:y ⟨-1,1 + (gd r.Readings k).Clock⟩ <= y ⟨(gd r.Readings k).Skier,(gd r.Readings k).Mat⟩ + ((gd r.Clocks (gd r.Readings k).Clock.toNat).Error - (gd r.Readings k).Time):=F ⟨3,0,(k:Int),false⟩ (.inr (.inr (.inr ⟨rfl,rfl,by simp only;omega,by simp only;omega⟩)))
   exact ⟨a,b⟩
 ·rintro ⟨h1,h2,h3,h4⟩ x hx
  have key:y (wDt r x).2.1 <= y (wDt r x).1 + (wDt r x).2.2.1/\y (wDt r x).1 <= y (wDt r x).2.1 + (wDt r x).2.2.2:=by
   unfold wDt
   rcases hx with ⟨k,a,b,c⟩ | ⟨k,a,b,c,d⟩ | ⟨k,a,c,d⟩ | ⟨k,a,c,d⟩
   ·have h:=h1 x.Skier.toNat (by omega)
    rw [nR a] at h
    rw [if_pos k]
    simp only
    omega
   ·have h:=h2 x.Skier.toNat x.Index.toNat (by omega) (by omega)
    rw [nR a,nR c] at h
    rw [if_neg (by omega),if_pos k]
    simp only
    omega
   ·have h:=h3 x.Index.toNat (by omega)
    rw [nR c] at h
    rw [if_neg (by omega),if_neg (by omega),if_pos k]
    simp only
    omega
   ·have h:=h4 _ (wCy c d)
    rw [if_neg (by omega),if_neg (by omega),if_neg (by omega)]
    simp only
    omega
  unfold wDT
  split
  ·exact key.1
  ·exact key.2
end Go.Proofs.YtkghaiefcjgfkaaGreat
namespace Go.Proofs.YtkghaiefcjgfkaaGreat
open Go.KL Go.KL.Net
open Classical
def wEY (f:Nat->Int):Nat->Int
 | 0=>0
 | k + 1=>wEY f k + f k
theorem wKp {f g:Nat->Int}:∀ {m:Nat},(∀ k,k < m->f k <= g k)->wEY f m <= wEY g m
 | 0,_=>kL _
 | m + 1,h=>by
  have a:=wKp (m:=m) fun k hk=>h k (by omega)
  have b:=h m (by omega)
  simp only [wEY]
  omega
theorem wJh (f g:Nat->Int):∀ m:Nat,wEY (fun k=>f k - g k) m=wEY f m - wEY g m
 | 0=>rfl
 | m + 1=>by
  have:=wJh f g m
  simp only [wEY]
  omega
def yU (r:wAD) (f:Nat->Nat->Int) (p:Pt):Int:=if p.skier=-1 then (if p.mat=0 then 0 else -(gd r.Clocks (p.mat - 1).toNat).Offset.Lo) else gd r.Starts p.skier.toNat + wEY (f p.skier.toNat) p.mat.toNat
theorem wMi (r:wAD) (f:Nat->Nat->Int) (s k:Nat):yU r f ⟨(s:Int),(k:Int)⟩=gd r.Starts s + wEY (f s) k:=by
 unfold yU
 rw [if_neg (by simp only;omega)]
 simp only [nJ]
theorem yU_c (r:wAD) (f:Nat->Nat->Int) (k:Nat):yU r f ⟨-1,1 + (k:Int)⟩=-(gd r.Clocks k).Offset.Lo:=by
 unfold yU
 rw [if_pos rfl,if_neg (by simp only;omega),show ((1:Int) + (k:Int) - 1).toNat=k by omega]
def InSp (r:wAD) (f:Nat->Nat->Int):Prop:=∀ s k,s < r.Starts.length->k < r.Splits.length->(gd r.Splits k).Lo <= f s k/\f s k <= (gd r.Splits k).Hi
theorem wMj {r:wAD} (C:RC r) {f:Nat->Nat->Int} (hf:InSp r f) (hd:∀ x ∈ r.Readings,yU r f ⟨x.Skier,x.Mat⟩ <= yU r f ⟨-1,1 + x.Clock⟩ + (x.Time + (gd r.Clocks x.Clock.toNat).Error)/\yU r f ⟨-1,1 + x.Clock⟩ <= yU r f ⟨x.Skier,x.Mat⟩ + ((gd r.Clocks x.Clock.toNat).Error - x.Time)):wDj r (yU r f):=by
 rw [wLe]
 have yz:yU r f zp=0:=rfl
 refine ⟨fun s hs=>?_,fun s k hs hk=>?_,fun k hk=>?_,hd⟩
 ·have:=wMi r f s 0
  rw [yz]
  rw [show ((0:Nat):Int)=0 from rfl] at this
  rw [this]
  simp only [wEY]
  omega
 ·have:=hf s k hs hk
  have h1:=wMi r f s (k + 1)
  rw [show ((k + 1:Nat):Int)=(k:Int) + 1 by omega] at h1
  rw [h1,wMi r f s k,wEY]
  omega
 ·have c:=C.ck _ (wCF hk)
  rw [yU_c,yz]
  omega
theorem wMk {r:wAD} {y:Pt->Int} (F:wDj r y) {s:Nat} (hs:s < r.Starts.length):∀ k:Nat,k <= r.Splits.length->y zp + gd r.Starts s + wEY (fun j=>(gd r.Splits j).Lo) k <= y ⟨(s:Int),(k:Int)⟩/\y ⟨(s:Int),(k:Int)⟩ <= y zp + gd r.Starts s + wEY (fun j=>(gd r.Splits j).Hi) k
 | 0,_=>by
  have:=(wLe.1 F).a s hs
  rw [show ((0:Nat):Int)=0 from rfl,this]
  simp only [wEY]
  omega
 | k + 1,h=>by
  have a:=wMk F hs k (by omega)
  have b:=(wLe.1 F).b s k hs (by omega)
  rw [show ((k + 1:Nat):Int)=(k:Int) + 1 by omega]
  simp only [wEY]
  omega
def wMl (r:wAD):Int:=wEY (fun k=>(gd r.Splits k).Hi - (gd r.Splits k).Lo) r.Splits.length
theorem gapU {r:wAD} (C:RC r) (hq:r.Readings=[]) {i j:Nat} (hi:i < r.Starts.length) (hj:j < r.Starts.length) {f:Pt->Int} (hf:IsDP r ⟨(i:Int),(r.Splits.length:Int)⟩ f):(f ⟨(j:Int),(r.Splits.length:Int)⟩ < 0 ↔ gd r.Starts j + wMl r < gd r.Starts i):=by
 have sp:∀ k,k < r.Splits.length->(gd r.Splits k).Lo <= (gd r.Splits k).Hi:=fun k hk=>(C.sp _ (wCF hk)).1
 have ep:wMl r=wEY (fun k=>(gd r.Splits k).Hi) r.Splits.length - wEY (fun k=>(gd r.Splits k).Lo) r.Splits.length:=wJh _ _ _
 have pj:wHh r ⟨(j:Int),(r.Splits.length:Int)⟩:=.inr (.inl ⟨by simp only;omega,by simp only;omega,by simp only;omega,by simp only;omega⟩)
 have z0:=hf.zero
 have a1:=(wMk hf.ok hi _ (nL _)).1
 have a2:=(wMk hf.ok hj _ (nL _)).2
 have hle:wEY (fun k=>(gd r.Splits k).Lo) r.Splits.length <= wEY (fun k=>(gd r.Splits k).Hi) r.Splits.length:=wKp sp
 by_cases e:i=j
 ·subst e
  constructor
  ·intro h;omega
  ·intro h;omega
 ·have F:=wMj C (f:=fun s k=>if s=i then (gd r.Splits k).Lo else (gd r.Splits k).Hi) (fun s k _ hk=>by
   have:=sp k hk
   dsimp only
   split <;> omega) (fun x hx=>by rw [hq] at hx;cases hx)
  have g:=hf.gr _ F _ pj
  rw [wMi,wMi] at g
  simp only [if_true,show ¬ j=i from fun h=>e h.symm,if_false] at g
  constructor
  ·intro h;omega
  ·intro h;omega
theorem wLf {r:wAD} {i j:Nat} (hi:i < r.Starts.length) {y f:Pt->Int} (F:wDj r y) {m:Int} (m0:0 <= m) (m1:m <= r.Splits.length) (hf:IsDP r ⟨(j:Int),m⟩ f) (h:y ⟨(j:Int),m⟩ < y ⟨(i:Int),m⟩):0 < f ⟨(i:Int),m⟩:=by
 have g:=hf.gr _ F ⟨(i:Int),m⟩ (.inr (.inl ⟨by simp only;omega,by simp only;omega,m0,m1⟩))
 omega
theorem gapK {r:wAD} (hc:r.Clocks=[⟨⟨0,0⟩,0⟩]) {E:Nat->Int} (hr:∀ s:Nat,s < r.Starts.length->(⟨(s:Int),(r.Splits.length:Int),0,E s⟩:wAJ) ∈ r.Readings) {y:Pt->Int} (F:wDj r y) {i:Nat} (hi:i < r.Starts.length):y ⟨(i:Int),(r.Splits.length:Int)⟩=y zp + E i:=by
 have A:=wLe.1 F
 have c:=A.c 0 (by rw [hc];simp)
 have d:=A.d _ (hr i hi)
 rw [hc] at c d
 have e1:gd [(⟨⟨0,0⟩,0⟩:wAO)] 0=⟨⟨0,0⟩,0⟩:=rfl
 simp only [show ((0:Int)).toNat=0 from rfl,e1] at c d
 rw [show ((0:Nat):Int)=0 from rfl] at c
 omega
end Go.Proofs.YtkghaiefcjgfkaaGreat
namespace Go.Proofs.YtkghaiefcjgfkaaGreat
open Go.KL
theorem wKq (a b:List Int) (i:Nat):gd (a ++ b) i=if i < a.length then gd a i else gd b (i - a.length):=by
 unfold gd
 split
 ·rename_i h;rw [nV,nN h,<- nV]
 ·rename_i h;rw [nV,nU (by omega),<- nV]
theorem wDY {a b:Nat} (h:b <= a) (ha:a <= 1000000):w64 ((a:Int) - (b:Int))=((a - b:Nat):Int):=by rw [wAW (by omega) (by omega)];omega
theorem wEk {a b:Nat} (h:a + b <= 1000000):w64 ((a:Int) + (b:Int))=((a + b:Nat):Int):=by rw [wAW (by omega) (by omega)];omega
theorem wGD {a:Nat} (h:a <= 1000000):w64 ((a:Int) + 1)=((a + 1:Nat):Int):=by rw [wAW (by omega) (by omega)];omega
theorem wHj {a:Nat} (h:1 <= a) (h2:a <= 1000000):w64 ((a:Int) - 1)=((a - 1:Nat):Int):=by rw [wAW (by omega) (by omega)];omega
theorem wIR {l:List Int} {i j:Nat} (h:i=j):gd l i=gd l j:=by rw [h]
theorem wJz {l:List Int} {p q n:Nat} {c:(Int × Int)->Option Int} (h1:p + n <= q) (h2:q + n <= l.length) (hl:l.length <= 1000):∃ r,wAQ l p q n c=some r/\r.length=l.length /\
  ∀ i,i < l.length->gd r i=if p <= i/\i < p + n then gd l (i - p + q) else if q <= i/\i < q + n then gd l (i - q + p) else gd l i:=by
 unfold wAQ
 rw [wDX (by omega)]
 obtain ⟨s,hs,I1,I2⟩:=wEe (body:=fun (k8:Nat) (l7:List Int) =>
  (chk (w64 ((q:Int) + (↑k8:Int))) l7.length).bind fun _ =>
  (chk (w64 ((p:Int) + (↑k8:Int))) l7.length).bind fun _ =>
  (chk (w64 ((q:Int) + (↑k8:Int))) (nE l7 (w64 ((p:Int) + (↑k8:Int))).toNat (gd l7 (w64 ((q:Int) + (↑k8:Int))).toNat)).length).bind fun _ =>
  some (nE (nE l7 (w64 ((p:Int) + (↑k8:Int))).toNat (gd l7 (w64 ((q:Int) + (↑k8:Int))).toNat)) (w64 ((q:Int) + (↑k8:Int))).toNat (gd l7 (w64 ((p:Int) + (↑k8:Int))).toNat)))
  (fun k s=>s.length=l.length/\∀ i,i < l.length->gd s i=if p <= i/\i < p + k then gd l (i - p + q) else if q <= i/\i < q + k then gd l (i - q + p) else gd l i) n 0 l
  ⟨rfl,fun i hi=>by rw [if_neg (by omega),if_neg (by omega)]⟩ (fun k s _ hk ⟨J1,J2⟩=>by
   have hk:k < n:=by omega
   have e1:w64 ((q:Int) + (k:Int))=((q + k:Nat):Int):=wEk (by omega)
   have e2:w64 ((p:Int) + (k:Int))=((p + k:Nat):Int):=wEk (by omega)
   rw [e1,e2,wBW (by omega) (by omega),hH,wBW (by omega) (by omega),hH,wBW (by omega) (by rw [nZ];omega),hH]
   simp only [nJ]
   refine ⟨_,rfl,by simp [J1],fun i hi=>?_⟩
   rw [wJW (by rw [nZ];omega) (by rw [nZ];omega),wJW (by omega) (by omega),J2 (p + k) (by omega),J2 (q + k) (by omega),J2 i hi]
   rw [if_neg (show ¬ (p <= q + k/\q + k < p + k) by omega),if_neg (show ¬ (q <= q + k/\q + k < q + k) by omega),if_neg (show ¬ (p <= p + k/\p + k < p + k) by omega),if_neg (show ¬ (q <= p + k/\p + k < q + k) by omega)]
   by_cases c1:i=q + k
   ·subst c1
    rw [if_pos rfl,if_neg (by omega),if_pos (by omega)]
    exact wIR (by omega)
   ·rw [if_neg c1]
    by_cases c2:i=p + k
    ·subst c2
     rw [if_pos rfl,if_pos (by omega)]
     exact wIR (by omega)
    ·rw [if_neg c2]
     by_cases c3:p <= i/\i < p + k
     ·rw [if_pos c3,if_pos (by omega)]
     ·rw [if_neg c3,if_neg (show ¬ (p <= i/\i < p + (k + 1)) by omega)]
      by_cases c4:q <= i/\i < q + k
      ·rw [if_pos c4,if_pos (by omega)]
      ·rw [if_neg c4,if_neg (by omega)])
 rw [hs]
 rw [nb] at I2
 exact ⟨s,rfl,I1,I2⟩
theorem wFX {P X M Y S:List Int} {c:(Int × Int)->Option Int} (h:X.length=Y.length) (hl:(P ++ X ++ M ++ Y ++ S).length <= 1000):wAQ (P ++ X ++ M ++ Y ++ S) (P.length:Nat) ((P.length + X.length + M.length:Nat):Int) (X.length:Nat) c=some (P ++ Y ++ M ++ X ++ S):=by
 have hl':=hl
 simp only [hJ] at hl
 obtain ⟨r,hr,h1,h2⟩:=wJz (l:=P ++ X ++ M ++ Y ++ S) (p:=P.length) (q:=P.length + X.length + M.length) (n:=X.length) (c:=c) (by omega) (by simp only [hJ];omega) hl'
 rw [hr]
 refine congrArg some (wMC (by rw [h1];simp only [hJ];omega) fun i hi=>?_)
 rw [h1] at hi
 rw [h2 i hi]
 simp only [hJ] at hi
 simp only [wKq,hJ]
 by_cases c1:i < P.length
 ·rw [if_neg (by omega),if_neg (by omega),if_pos (by omega),if_pos (by omega),if_pos (by omega),if_pos c1,if_pos (by omega),if_pos (by omega),if_pos (by omega),if_pos c1]
 ·by_cases c2:i < P.length + X.length
  ·rw [if_pos (by omega),if_pos (by omega),if_neg (by omega),if_pos (by omega),if_pos (by omega),if_pos (by omega),if_neg c1]
   exact wIR (by omega)
  ·rw [if_neg (show ¬ (P.length <= i/\i < P.length + X.length) by omega)]
   by_cases c3:i < P.length + X.length + M.length
   ·rw [if_neg (by omega),if_pos (by omega),if_pos (by omega),if_neg (by omega),if_pos (by omega),if_pos (by omega),if_neg (by omega)]
    exact wIR (by omega)
   ·by_cases c4:i < P.length + X.length + M.length + Y.length
    ·rw [if_pos (by omega),if_pos (by omega),if_pos (by omega),if_pos (by omega),if_neg (by omega),if_pos (by omega),if_neg (by omega)]
     exact wIR (by omega)
    ·rw [if_neg (by omega),if_neg (by omega),if_neg (by omega)]
     exact wIR (by omega)
theorem wLg {P X Y S:List Int} {c:(Int × Int)->Option Int} {m:Nat} (hm:P.length + X.length=m) (g:Y.length < X.length) (hl:(P ++ X ++ Y ++ S).length <= 1000) :
  wAQ (P ++ X ++ Y ++ S) (w64 ((m:Int) - (X.length:Nat))) (m:Nat) (Y.length:Nat) c=some (P ++ Y ++ X.drop Y.length ++ X.take Y.length ++ S):=by
 have hx1:(X.take Y.length).length=Y.length:=by rw [nB];omega
 have hx2:(X.drop Y.length).length=X.length - Y.length:=by rw [nM]
 have e3:P ++ X.take Y.length ++ X.drop Y.length ++ Y ++ S=P ++ X ++ Y ++ S:=by rw [nA P,nG]
 have hsw:=wFX (P:=P) (X:=X.take Y.length) (M:=X.drop Y.length) (Y:=Y) (S:=S) (c:=c) hx1 (by rw [e3];exact hl)
 have hl2:=hl
 simp only [hJ] at hl2
 rw [hx1,hx2,e3,show P.length + Y.length + (X.length - Y.length)=m by omega] at hsw
 rw [wDY (by omega) (by omega),show m - X.length=P.length by omega]
 exact hsw
theorem wKr {P X Y S:List Int} {c:(Int × Int)->Option Int} {m:Nat} (hm:P.length + X.length=m) (g:X.length < Y.length) (hl:(P ++ X ++ Y ++ S).length <= 1000) :
  wAQ (P ++ X ++ Y ++ S) (w64 ((m:Int) - (X.length:Nat))) (w64 ((w64 ((m:Int) + (Y.length:Nat))) - (X.length:Nat))) (X.length:Nat) c=some (P ++ Y.drop (Y.length - X.length) ++ Y.take (Y.length - X.length) ++ X ++ S):=by
 have hy1:(Y.drop (Y.length - X.length)).length=X.length:=by rw [nM];omega
 have hy2:(Y.take (Y.length - X.length)).length=Y.length - X.length:=by rw [nB];omega
 have e3:P ++ X ++ Y.take (Y.length - X.length) ++ Y.drop (Y.length - X.length) ++ S=P ++ X ++ Y ++ S:=by rw [nA (P ++ X),nG]
 have hsw:=wFX (P:=P) (X:=X) (M:=Y.take (Y.length - X.length)) (Y:=Y.drop (Y.length - X.length)) (S:=S) (c:=c) hy1.symm (by rw [e3];exact hl)
 have hl2:=hl
 simp only [hJ] at hl2
 rw [hy2,e3,show P.length + X.length + (Y.length - X.length)=m + Y.length - X.length by omega] at hsw
 rw [wEk (by omega),wDY (by omega) (by omega),wDY (by omega) (by omega),show m - X.length=P.length by omega]
 exact hsw
theorem wMm {P X Y S:List Int} {c:(Int × Int)->Option Int} {m:Nat} (hm:P.length + X.length=m) (g:X.length=Y.length) (hl:(P ++ X ++ Y ++ S).length <= 1000) :
  wAQ (P ++ X ++ Y ++ S) (w64 ((m:Int) - (X.length:Nat))) (m:Nat) (X.length:Nat) c=some (P ++ Y ++ X ++ S):=by
 have hsw:=wFX (P:=P) (X:=X) (M:=[]) (Y:=Y) (S:=S) (c:=c) g (by simpa using hl)
 have hl2:=hl
 simp only [hJ] at hl2
 rw [nv,nv,nO,Nat.add_zero,hm] at hsw
 rw [wDY (by omega) (by omega),show m - X.length=P.length by omega]
 exact hsw
def RotI (m:Nat) (G:List Int) (s:List Int × Int × Int) (n:Nat):Prop:=∃ P X Y S:List Int,s=(P ++ X ++ Y ++ S,((X.length:Nat):Int),((Y.length:Nat):Int))/\0 < X.length/\0 < Y.length/\P.length + X.length=m/\(P ++ X ++ Y ++ S).length <= 1000/\P ++ Y ++ X ++ S=G/\X.length + Y.length <= n
theorem wLh {m:Nat} {G:List Int} {c:(Int × Int)->Option Int} {l:List Int} {x y:Int} {n:Nat} (h:RotI m G (l,x,y) n) (hne:x ≠ y):0 < n/\∃ s',(if y < x then
        (wAQ l (w64 ((m:Int) - x)) (m:Int) y c).bind fun x46 =>
        some (Sum.inl (β:=List Int × Int) (x46,w64 (x - y),y))
      else
        (wAQ l (w64 ((m:Int) - x)) (w64 ((w64 ((m:Int) + y)) - x)) x c).bind fun x62 =>
        some (.inl (x62,x,w64 (y - x))))=some (.inl s')/\RotI m G s' (n - 1):=by
  obtain ⟨P,X,Y,S,e,i1,i2,i3,i4,i5,i6⟩:=h
  injection e with e1 e2
  injection e2 with e2 e3
  subst e1 e2 e3
  have hl:=i4
  simp only [hJ] at hl
  refine ⟨by omega,?_⟩
  by_cases g:Y.length < X.length
  · rw [if_pos (by omega),wLg i3 g i4,hH,wDY (by omega) (by omega)]
    have hx1:(X.take Y.length).length=Y.length:=by rw [nB];omega
    have hx2:(X.drop Y.length).length=X.length - Y.length:=by rw [nM]
    refine ⟨_,rfl,P ++ Y,X.drop Y.length,X.take Y.length,S,by rw [hx1,hx2],by omega,by omega,by rw [hJ];omega,by simp only [hJ];omega,?_,by omega⟩
    rw [nA (P ++ Y) (X.take _),nG,i5]
  · have g2:X.length < Y.length:=by
      rcases Nat.lt_trichotomy X.length Y.length with h | h | h
      · exact h
      · exact absurd (by rw [h]) hne
      · exact absurd h g
    rw [if_neg (by omega),wKr i3 g2 i4,hH,wDY (by omega) (by omega)]
    have hy1:(Y.drop (Y.length - X.length)).length=X.length:=by rw [nM];omega
    have hy2:(Y.take (Y.length - X.length)).length=Y.length - X.length:=by rw [nB];omega
    refine ⟨_,rfl,P,Y.drop (Y.length - X.length),Y.take (Y.length - X.length),X ++ S,by rw [hy1,hy2,nA _ X S],by omega,by omega,by omega,by simp only [hJ];omega,?_,by omega⟩
    rw [nA P,nG,<- nA,i5]
theorem wKs {A X Y B:List Int} {c:(Int × Int)->Option Int} {a m b:Nat} (ha:A.length=a) (hm:A.length + X.length=m) (hb:A.length + X.length + Y.length=b) (hX:0 < X.length) (hY:0 < Y.length) (hl:(A ++ X ++ Y ++ B).length <= 1000):wAi (A ++ X ++ Y ++ B) (a:Int) (m:Int) (b:Int) c=some (A ++ Y ++ X ++ B):=by
 unfold wAi
 have hl2:=hl
 simp only [hJ] at hl2
 rw [wDY (by omega) (by omega),wDY (by omega) (by omega),show m - a=X.length by omega,show b - m=Y.length by omega]
 obtain ⟨r,h1,P,X',Y',S,rfl,h2,h3,h4,h5⟩:=wEQ (body:=fun (l16,x17,x18) =>
  if x17=x18 then
   esc (some (l16,x17))
  else
   if x18 < x17 then
    (wAQ l16 (w64 ((m:Int) - x17)) (m:Int) x18 c).bind fun x46 =>
    some (.inl (x46,w64 (x17 - x18),x18))
   else
    (wAQ l16 (w64 ((m:Int) - x17)) (w64 ((w64 ((m:Int) + x18)) - x17)) x17 c).bind fun x62 =>
    some (.inl (x62,x17,w64 (x18 - x17))))
  (fun n s=>RotI m (A ++ Y ++ X ++ B) s (X.length + Y.length - n)) (fun r=>∃ P X' Y' S:List Int,r=(P ++ X' ++ Y' ++ S,((X'.length:Nat):Int))/\X'.length=Y'.length/\P.length + X'.length=m/\(P ++ X' ++ Y' ++ S).length <= 1000/\P ++ Y' ++ X' ++ S=A ++ Y ++ X ++ B) (X.length + Y.length)
  (fun n s hn h=>by
   obtain ⟨l,x,y⟩:=s
   simp only
   by_cases e:x=y
   ·right
    rw [if_pos e]
    obtain ⟨P,X',Y',S,e',i1,i2,i3,i4,i5,i6⟩:=h
    injection e' with e1 e2
    injection e2 with e2 e3
    subst e1 e2 e3
    exact ⟨_,rfl,P,X',Y',S,rfl,by omega,i3,i4,i5⟩
   ·left
    rw [if_neg e]
    obtain ⟨h1,s',h2,h3⟩:=wLh (c:=c) h e
    exact ⟨by omega,s',h2,by rw [show X.length + Y.length - (n + 1)=X.length + Y.length - n - 1 by omega];exact h3⟩)
  (s0:=(A ++ X ++ Y ++ B,((X.length:Nat):Int),((Y.length:Nat):Int))) ⟨A,X,Y,B,rfl,hX,hY,hm,hl,rfl,by omega⟩ (by omega)
 rw [h1,hH]
 simp only
 rw [wMm h3 h2 h4,hH,h5]
theorem wGf {body:Int × Int->Option ((Int × Int) ⊕ Int)} (q:Nat->Bool) {lo hi:Nat} (hle:lo <= hi) (hh:hi <= 1000) (mono:∀ i j,lo <= i->i <= j->j < hi->q j=true->q i=true)
  (hb:∀ i j:Nat,lo <= i->i < j->j <= hi->body ((i:Int),(j:Int))=some (.inl (if q ((i + j) / 2)=true then ((((i + j) / 2 + 1:Nat):Int),(j:Int)) else ((i:Int),(((i + j) / 2:Nat):Int)))))
  (he:∀ i:Nat,lo <= i->i <= hi->body ((i:Int),(i:Int))=some (.inr (i:Int))) :
  ∃ k:Nat,lo <= k/\k <= hi/\iter body big ((lo:Int),(hi:Int))=some (k:Int)/\(∀ i,lo <= i->i < k->q i=true)/\(∀ i,k <= i->i < hi->q i=false):=by
 obtain ⟨b,h1,k,rfl,h2⟩:=wEQ (body:=body) (fun n s=>∃ i j:Nat,s=((i:Int),(j:Int))/\lo <= i/\i <= j/\j <= hi/\j - i + n <= hi - lo/\(∀ t,lo <= t->t < i->q t=true)/\(∀ t,j <= t->t < hi->q t=false))
  (fun b=>∃ k:Nat,b=(k:Int)/\lo <= k/\k <= hi/\(∀ t,lo <= t->t < k->q t=true)/\(∀ t,k <= t->t < hi->q t=false)) (hi - lo) (fun n s hn ⟨i,j,hs,i1,i2,i3,i4,i5,i6⟩=>by
   subst hs
   rcases kl i j with c | c
   ·left
    refine ⟨by omega,_,hb i j i1 c i3,?_⟩
    by_cases g:q ((i + j) / 2)=true
    ·rw [if_pos g]
     refine ⟨(i + j) / 2 + 1,j,rfl,by omega,by omega,i3,by omega,fun t h1 h2=>?_,i6⟩
     exact mono t ((i + j) / 2) h1 (by omega) (by omega) g
    ·rw [if_neg g]
     refine ⟨i,(i + j) / 2,rfl,i1,by omega,by omega,by omega,i5,fun t h1 h2=>?_⟩
     cases hq:q t with
     | false=>rfl
     | true=>exact absurd (mono _ t (by omega) h1 h2 hq) g
   ·right
    have:i=j:=by omega
    subst this
    exact ⟨_,he i i1 i3,i,rfl,i1,i3,i5,i6⟩) (s0:=((lo:Int),(hi:Int))) ⟨lo,hi,rfl,nL _,hle,nL _,by omega,fun t h1 h2=>by omega,fun t h1 h2=>by omega⟩ (by omega)
 exact ⟨k,h2.1,h2.2.1,h1,h2.2.2⟩
end Go.Proofs.YtkghaiefcjgfkaaGreat
namespace Go.Proofs.YtkghaiefcjgfkaaGreat
open Go.KL
def Lr (K:Int->Int) (a b:Int):Prop:=K a < K b \/ (K a=K b/\a < b)
theorem Lr.le {K:Int->Int} {a b:Int} (h:Lr K a b):K a <= K b:=by unfold Lr at h;omega
theorem Lr.of {K:Int->Int} {a b:Int} (h:K a <= K b) (h2:a < b):Lr K a b:=by unfold Lr;omega
def ByK (K:Int->Int) (n:Int) (c:(Int × Int)->Option Int):Prop:=∀ a b,0 <= a->a < n->0 <= b->b < n->∃ x,c (a,b)=some x/\(x < 0 ↔ K a < K b)
def In (n:Int) (l:List Int):Prop:=∀ x ∈ l,0 <= x/\x < n
theorem wHk (P T:List Int) (z x:Int):gd (P ++ z :: x :: T) P.length=z/\gd (P ++ z :: x :: T) (P.length + 1)=x/\nE (nE (P ++ z :: x :: T) (P.length + 1) z) P.length x=P ++ x :: z :: T/\nE (nE (P ++ z :: x :: T) P.length x) (P.length + 1) z=P ++ x :: z :: T:=by
 refine ⟨wHg _ _ _,?_,?_,?_⟩
 ·have:=wHg (P ++ [z]) T x
  simpa using this
 ·rw [np _ _ (by omega),show P.length + 1 - P.length=1 by omega,np _ _ (by omega),kT]
  rfl
 ·rw [np _ _ (by omega),kT,np _ _ (by omega),show P.length + 1 - P.length=1 by omega]
  rfl
def wNo (p1:Int) (c:(Int × Int)->Option Int) (x9:Int) (s:List Int × Int):Option ((List Int × Int) ⊕ ((List Int × Int) ⊕ List Int)):=match s with
  | (l34,x35) =>
        if p1 < x35 then
          (chk x35 l34.length).bind fun _ =>
          (chk (w64 (x35 - 1)) l34.length).bind fun _ =>
          (c ((gd l34 x35.toNat),(gd l34 (w64 (x35 - 1)).toNat))).bind fun x65 =>
          if x65 < 0 then
            (chk (w64 (x35 - 1)) (nE l34 x35.toNat (gd l34 (w64 (x35 - 1)).toNat)).length).bind fun _ =>
            some (.inl ((nE (nE l34 x35.toNat (gd l34 (w64 (x35 - 1)).toNat)) (w64 (x35 - 1)).toNat (gd l34 x35.toNat)),w64 (x35 - 1)))
          else
            esc (some (.inl (l34,w64 (x9 + 1))))
        else
          esc (some (.inl (l34,w64 (x9 + 1))))
theorem wKA (p0:List Int) (p1 p2:Int) (c:(Int × Int)->Option Int):wAU p0 p1 p2 c=iter (fun (l8,x9)=>if x9 < p2 then iter (wNo p1 c x9) big (l8,x9) else esc (some l8)) big (p0,w64 (p1 + 1)):=rfl
theorem wLi {K:Int->Int} {n:Int} {c:(Int × Int)->Option Int} (hc:ByK K n c) {A Z S:List Int} {x:Int} {x9:Int} (hx:0 <= x/\x < n) (hZ:In n Z) (hlt:∀ z ∈ Z,z < x) (ho:Z.Pairwise (Lr K)) (hl:(A ++ Z ++ x :: S).length <= 1000) :
  ∃ Z',iter (wNo (A.length:Nat) c x9) big (A ++ Z ++ x :: S,((A.length + Z.length:Nat):Int))=some (.inl (A ++ Z' ++ S,w64 (x9 + 1)))/\Z'.Perm (Z ++ [x])/\Z'.Pairwise (Lr K):=by
 simp only [hJ,nI] at hl
 obtain ⟨b,h1,Z1,Z2,rfl,hb,h2,h3⟩:=wEQ (body:=wNo (A.length:Nat) c x9) (fun k s=>∃ Z1 Z2,Z=Z1 ++ Z2/\s=(A ++ Z1 ++ x :: (Z2 ++ S),((A.length + Z1.length:Nat):Int))/\(∀ z ∈ Z2,K x < K z)/\Z2.length=k)
  (fun b=>∃ Z1 Z2,Z=Z1 ++ Z2/\b=.inl (A ++ Z1 ++ x :: (Z2 ++ S),w64 (x9 + 1))/\(∀ z ∈ Z2,K x < K z)/\(∀ z ∈ Z1,K z <= K x)) Z.length
  (fun k s hk ⟨Z1,Z2,e,hs,g1,g2⟩=>by
   subst hs
   have el:Z.length=Z1.length + Z2.length:=by rw [e,hJ]
   unfold wNo
   simp only
   rcases List.eq_nil_or_concat Z1 with h | ⟨Y,z,h⟩
   ·subst h
    right
    rw [if_neg (by simp)]
    exact ⟨_,rfl,[],Z2,e,rfl,g1,fun z hz=>by simp at hz⟩
   ·rw [List.concat_eq_append] at h
    subst h
    have e1:A ++ (Y ++ [z]) ++ x :: (Z2 ++ S)=(A ++ Y) ++ z :: x :: (Z2 ++ S):=by simp
    have e2:((A.length + (Y ++ [z]).length:Nat):Int)=(((A ++ Y).length + 1:Nat):Int):=by simp only [hJ,nH];omega
    obtain ⟨s1,s2,s3,_⟩:=wHk (A ++ Y) (Z2 ++ S) z x
    have hll:(A ++ Y ++ z :: x :: (Z2 ++ S)).length=A.length + Y.length + 2 + Z2.length + S.length:=by simp only [hJ,nI];omega
    have el2:Z.length=Y.length + 1 + Z2.length:=by rw [el];simp
    have hY:(A ++ Y).length=A.length + Y.length:=hJ
    have hz:z ∈ Z:=by rw [e];simp
    rw [e1,e2,if_pos (by omega),wBW (by omega) (by omega),hH,wHj (by omega) (by omega),wBW (by omega) (by omega),hH]
    simp only [nJ,km,s1,s2]
    obtain ⟨v,hv,hv2⟩:=hc x z hx.1 hx.2 (hZ z hz).1 (hZ z hz).2
    rw [hv,hH]
    by_cases g:K x < K z
    ·left
     rw [if_pos (hv2.2 g),wBW (by omega) (by rw [nZ];omega),hH,s3]
     refine ⟨by omega,_,rfl,Y,z :: Z2,by rw [e];simp,by simp,fun y hy=>?_,by simp;omega⟩
     rcases nc.1 hy with rfl | hy
     ·exact g
     ·exact g1 y hy
    ·right
     rw [if_neg (fun h=>g (hv2.1 h))]
     refine ⟨_,rfl,Y ++ [z],Z2,e,by simp,g1,fun y hy=>?_⟩
     rcases na.1 hy with hy | hy
     ·have pw:=ho
      rw [e,nA] at pw
      have:=(nQ.1 pw).2.2 y hy z (by simp)
      have:=this.le
      omega
     ·rw [nY.1 hy];omega) (s0:=(A ++ Z ++ x :: S,((A.length + Z.length:Nat):Int))) ⟨Z,[],by simp,by simp,fun z hz=>by simp at hz,rfl⟩ (by omega)
 subst hb
 refine ⟨Z1 ++ x :: Z2,by rw [h1];simp,?_,?_⟩
 ·simp only [nA]
  exact kd _ (kM x Z2).symm
 ·rw [nQ] at ho ⊢
  rw [kA]
  have hlt1:∀ z ∈ Z1,z < x:=fun z hz=>hlt z (nj _ hz)
  refine ⟨ho.1,⟨fun z hz=>.inl (h2 z hz),ho.2.1⟩,fun a ha b hb=>?_⟩
  rcases nc.1 hb with rfl | hb
  ·exact Lr.of (h3 a ha) (hlt1 a ha)
  ·exact ho.2.2 a ha b hb
theorem wIS {K:Int->Int} {n:Int} {c:(Int × Int)->Option Int} (hc:ByK K n c) {A X B:List Int} (hX:In n X) (hlt:X.Pairwise (· < ·)) (hl:(A ++ X ++ B).length <= 1000) {a b:Nat} (ha:A.length=a) (hb:A.length + X.length=b) :
  ∃ Z,wAU (A ++ X ++ B) (a:Int) (b:Int) c=some (A ++ Z ++ B)/\Z.Perm X/\Z.Pairwise (Lr K):=by
 rw [wKA]
 simp only [hJ] at hl
 subst ha
 rw [wGD (by omega)]
 cases X with
 | nil =>
  refine ⟨[],?_,ku _,kq⟩
  simp only [nO] at hb
  refine wIn (m:=0) (fun _=>(A ++ [] ++ B,((A.length + 1:Nat):Int))) (fun i hi=>by omega) ?_ rfl (by omega)
  simp only
  rw [if_neg (by omega)]
  rfl
 | cons x0 X =>
  simp only [nI] at hl hb
  obtain ⟨r,h1,Z,rfl,h2,h3⟩:=wEQ (body:=fun (l8,x9)=>if x9 < (b:Int) then iter (wNo (A.length:Nat) c x9) big (l8,x9) else esc (some l8))
   (fun k s=>∃ Z,s=(A ++ Z ++ (X.drop k ++ B),((A.length + (k + 1):Nat):Int))/\Z.Perm (x0 :: X.take k)/\Z.Pairwise (Lr K)/\k <= X.length) (fun r=>∃ Z,r=A ++ Z ++ B/\Z.Perm (x0 :: X)/\Z.Pairwise (Lr K)) X.length
   (fun k s hk ⟨Z,hs,g1,g2,g3⟩=>by
    subst hs
    simp only
    have hZl:Z.length=k + 1:=by rw [g1.length_eq];simp;omega
    by_cases e:k=X.length
    ·right
     rw [if_neg (by omega)]
     refine ⟨_,rfl,Z,?_,?_,g2⟩
     ·rw [e,List.drop_length];rfl
     ·rwa [e,nm] at g1
    ·left
     have hk':k < X.length:=by omega
     rw [if_pos (by omega)]
     have hsub:∀ z ∈ Z,z ∈ x0 :: X:=fun z hz=>by
      have:=g1.mem_iff.1 hz
      rcases nc.1 this with h | h
      ·rw [h];simp
      ·exact kJ _ (kI h)
     have hlast:∀ z ∈ Z,z < gd X k:=fun z hz=>by
      have pw:=kA.1 hlt
      rcases nc.1 (g1.mem_iff.1 hz) with h | h
      ·rw [h];exact pw.1 _ (wCF hk')
      ·have pw2:=pw.2
       rw [<- nG k X,wGc hk'] at pw2
       exact (nQ.1 pw2).2.2 z h _ (by simp)
     obtain ⟨Z',i1,i2,i3⟩:=wLi hc (A:=A) (Z:=Z) (S:=X.drop (k + 1) ++ B) (x:=gd X k) (x9:=((A.length + (k + 1):Nat):Int)) (hX _ (kJ _ (wCF hk'))) (fun z hz=>hX z (hsub z hz)) hlast g2 (by simp only [hJ,nI,nM];omega)
     refine ⟨by omega,?_⟩
     rw [wGc hk',kE]
     rw [hZl] at i1
     refine ⟨_,i1,Z',by rw [wGD (by omega)];rfl,?_,i3,by omega⟩
     rw [wDo hk']
     exact i2.trans (by simpa using g1.append_right [gd X k]))
   (s0:=(A ++ x0 :: X ++ B,((A.length + 1:Nat):Int))) ⟨[x0],by simp,by simp,by simp,by omega⟩ (by omega)
  exact ⟨Z,by rw [h1],h2,h3⟩
end Go.Proofs.YtkghaiefcjgfkaaGreat
namespace Go.Proofs.YtkghaiefcjgfkaaGreat
open Go.KL
theorem wHl {i j:Nat} (h:i + j <= 1000000):w64 ((wAf (w64 ((i:Int) + (j:Int)))) / 2)=(((i + j) / 2:Nat):Int):=by
 rw [wEk h]
 have e:wAf ((i + j:Nat):Int)=((i + j:Nat):Int):=by unfold wAf;omega
 rw [e,wAW (by omega) (by omega)]
 omega
def sm1 (p0:List Int) (p1 p2 p3:Int) (p4:(Int × Int)->Option Int):Option (List Int) :=
  (iter (fun (x14,x15) =>
   if x14 < x15 then
    (chk (w64 ((wAf (w64 (x14 + x15))) / 2)) p0.length).bind fun _ =>
    (chk p1 p0.length).bind fun _ =>
    (p4 ((gd p0 (w64 ((wAf (w64 (x14 + x15))) / 2)).toNat),(gd p0 p1.toNat))).bind fun x43 =>
    if x43 < 0 then
     some (.inl (w64 ((w64 ((wAf (w64 (x14 + x15))) / 2)) + 1),x15))
    else
     some (.inl (x14,w64 ((wAf (w64 (x14 + x15))) / 2)))
   else
    esc (some x14)) big (p2,p3)).bind fun x4 =>
  iter (fun (l80,x81) =>
   if x81 < (w64 (x4 - 1)) then
    (chk (w64 (x81 + 1)) l80.length).bind fun _ =>
    (chk x81 l80.length).bind fun _ =>
    (chk (w64 (x81 + 1)) (nE l80 x81.toNat (gd l80 (w64 (x81 + 1)).toNat)).length).bind fun _ =>
    some (.inl ((nE (nE l80 x81.toNat (gd l80 (w64 (x81 + 1)).toNat)) (w64 (x81 + 1)).toNat (gd l80 x81.toNat)),w64 (x81 + 1)))
   else
    esc (some l80)) big (p0,p1)
def sm2 (p0:List Int) (p1 p2 p3:Int) (p4:(Int × Int)->Option Int):Option (List Int) :=
      (iter (fun (x137,x138) =>
        if x137 < x138 then
          (chk p2 p0.length).bind fun _ =>
          (chk (w64 ((wAf (w64 (x137 + x138))) / 2)) p0.length).bind fun _ =>
          (p4 ((gd p0 p2.toNat),(gd p0 (w64 ((wAf (w64 (x137 + x138))) / 2)).toNat))).bind fun x166 =>
          if x166 < 0 then
            some (.inl (x137,w64 ((wAf (w64 (x137 + x138))) / 2)))
          else
            some (.inl (w64 ((w64 ((wAf (w64 (x137 + x138))) / 2)) + 1),x138))
        else
          esc (some x137)) big (p1,p2)).bind fun x127 =>
      iter (fun (l203,x204) =>
        if x127 < x204 then
          (chk (w64 (x204 - 1)) l203.length).bind fun _ =>
          (chk x204 l203.length).bind fun _ =>
          (chk (w64 (x204 - 1)) (nE l203 x204.toNat (gd l203 (w64 (x204 - 1)).toNat)).length).bind fun _ =>
          some (.inl ((nE (nE l203 x204.toNat (gd l203 (w64 (x204 - 1)).toNat)) (w64 (x204 - 1)).toNat (gd l203 x204.toNat)),w64 (x204 - 1)))
        else
          esc (some l203)) big (p0,p2)
def smS (p0:List Int) (m1:Int) (p4:(Int × Int)->Option Int) (s:Int × Int):Option ((Int × Int) ⊕ Int):=match s with
  | (x260,x261) =>
          if x260 < x261 then
            (chk (w64 (m1 - (w64 ((wAf (w64 (x260 + x261))) / 2)))) p0.length).bind fun _ =>
            (chk (w64 ((wAf (w64 (x260 + x261))) / 2)) p0.length).bind fun _ =>
            (p4 ((gd p0 (w64 (m1 - (w64 ((wAf (w64 (x260 + x261))) / 2)))).toNat),(gd p0 (w64 ((wAf (w64 (x260 + x261))) / 2)).toNat))).bind fun x294 =>
            if x294 < 0 then
              some (.inl (x260,w64 ((wAf (w64 (x260 + x261))) / 2)))
            else
              some (.inl (w64 ((w64 ((wAf (w64 (x260 + x261))) / 2)) + 1),x261))
          else
            esc (some x260)
def smT (rec_:(List Int)->Int->Int->Int->((Int × Int)->Option Int)->Option ((List Int))) (l:List Int) (p1 p3 mid e k:Int) (p4:(Int × Int)->Option Int):Option (List Int) :=
          if p1 < k then
            if k < mid then
              (rec_ l p1 k mid p4).bind fun x373 =>
              if mid < e then
                if e < p3 then
                  (rec_ x373 mid e p3 p4).bind fun x389 =>
                  some x389
                else
                  some x373
              else
                some x373
            else
              if mid < e then
                if e < p3 then
                  (rec_ l mid e p3 p4).bind fun x408 =>
                  some x408
                else
                  some l
              else
                some l
          else
            if mid < e then
              if e < p3 then
                (rec_ l mid e p3 p4).bind fun x427 =>
                some x427
              else
                some l
            else
              some l
def smR (rec_:(List Int)->Int->Int->Int->((Int × Int)->Option Int)->Option ((List Int))) (p0:List Int) (p1 p2 p3 mid e k:Int) (p4:(Int × Int)->Option Int):Option (List Int) :=
        (if k < p2 then
          some (decide (p2 < e))
        else
          some false).bind fun b330 =>
        if b330=true then
          (wAi p0 k p2 e p4).bind fun x357=>smT rec_ x357 p1 p3 mid e k p4
        else
          smT rec_ p0 p1 p3 mid e k p4
theorem wKB (rec_:(List Int)->Int->Int->Int->((Int × Int)->Option Int)->Option ((List Int))) (p0:List Int) (p1 p2 p3:Int) (p4:(Int × Int)->Option Int):wAo rec_ p0 p1 p2 p3 p4 =
 if (w64 (p2 - p1))=1 then sm1 p0 p1 p2 p3 p4
 else if (w64 (p3 - p2))=1 then sm2 p0 p1 p2 p3 p4
 else if (w64 ((wAf (w64 (p1 + p3))) / 2)) < p2 then
  (iter (smS p0 (w64 ((w64 ((w64 ((wAf (w64 (p1 + p3))) / 2)) + p2)) - 1)) p4) big (w64 ((w64 ((w64 ((wAf (w64 (p1 + p3))) / 2)) + p2)) - p3),w64 ((wAf (w64 (p1 + p3))) / 2))).bind fun x250 =>
  smR rec_ p0 p1 p2 p3 (w64 ((wAf (w64 (p1 + p3))) / 2)) (w64 ((w64 ((w64 ((wAf (w64 (p1 + p3))) / 2)) + p2)) - x250)) x250 p4
 else
  (iter (smS p0 (w64 ((w64 ((w64 ((wAf (w64 (p1 + p3))) / 2)) + p2)) - 1)) p4) big (p1,p2)).bind fun x250 =>
  smR rec_ p0 p1 p2 p3 (w64 ((wAf (w64 (p1 + p3))) / 2)) (w64 ((w64 ((w64 ((wAf (w64 (p1 + p3))) / 2)) + p2)) - x250)) x250 p4:=rfl
theorem wIT {K:Int->Int} {Y:List Int} (h:Y.Pairwise (Lr K)) {i j:Nat} (hij:i <= j) (hj:j < Y.length):K (gd Y i) <= K (gd Y j):=by
 rcases kl i j with c | c
 ·have:=kR.1 h i j (by omega) hj c
  rw [<- wEj (by omega),<- wEj hj] at this
  exact this.le
 ·rw [show i=j by omega]
  exact kL _
theorem gd_X {A X Y B:List Int} {i:Nat} (h1:A.length <= i) (h2:i < A.length + X.length):gd (A ++ X ++ Y ++ B) i=gd X (i - A.length):=by
 simp only [wKq,hJ]
 rw [if_pos (by omega),if_pos (by omega),if_neg (by omega)]
theorem gd_Y {A X Y B:List Int} {i:Nat} (h1:A.length + X.length <= i) (h2:i < A.length + X.length + Y.length):gd (A ++ X ++ Y ++ B) i=gd Y (i - (A.length + X.length)):=by
 simp only [wKq,hJ]
 rw [if_pos (by omega),if_neg (by omega)]
theorem wNp {K:Int->Int} {n:Int} {c:(Int × Int)->Option Int} (hc:ByK K n c) {A Y B:List Int} {x:Int} (hx:0 <= x/\x < n) (hY:In n Y) (hlt:∀ y ∈ Y,x < y) (ho:Y.Pairwise (Lr K)) (hl:(A ++ [x] ++ Y ++ B).length <= 1000) {a m b:Nat} (ha:A.length=a) (hm:a + 1=m) (hb:m + Y.length=b) :
  ∃ Z,sm1 (A ++ [x] ++ Y ++ B) (a:Int) (m:Int) (b:Int) c=some (A ++ Z ++ B)/\Z.Perm ([x] ++ Y)/\Z.Pairwise (Lr K):=by
 have hl2:=hl
 simp only [hJ,nH] at hl2
 unfold sm1
 have hx0:gd (A ++ [x] ++ Y ++ B) a=x:=by rw [gd_X (by omega) (by simp;omega),ha,kT];rfl
 have hy:∀ i,m <= i->i < b->gd (A ++ [x] ++ Y ++ B) i=gd Y (i - m):=fun i h1 h2=>by
  rw [gd_Y (by simp;omega) (by simp;omega)]
  exact wIR (by simp;omega)
 obtain ⟨k,k1,k2,k3,k4,k5⟩:=wGf (body:=fun (x14,x15) =>
   if x14 < x15 then
    (chk (w64 ((wAf (w64 (x14 + x15))) / 2)) (A ++ [x] ++ Y ++ B).length).bind fun _ =>
    (chk (a:Int) (A ++ [x] ++ Y ++ B).length).bind fun _ =>
    (c ((gd (A ++ [x] ++ Y ++ B) (w64 ((wAf (w64 (x14 + x15))) / 2)).toNat),(gd (A ++ [x] ++ Y ++ B) (a:Int).toNat))).bind fun x43 =>
    if x43 < 0 then
     some (.inl (w64 ((w64 ((wAf (w64 (x14 + x15))) / 2)) + 1),x15))
    else
     some (.inl (x14,w64 ((wAf (w64 (x14 + x15))) / 2)))
   else
    esc (some x14)) (fun h=>decide (K (gd Y (h - m)) < K x)) (lo:=m) (hi:=b) (by omega) (by omega) (fun i j h1 h2 h3 h4=>by
    have h4:K (gd Y (j - m)) < K x:=by simpa using h4
    have:=wIT ho (i:=i - m) (j:=j - m) (by omega) (by omega)
    simpa using (by omega:K (gd Y (i - m)) < K x)) (fun i j h1 h2 h3=>by
    have hh:(i + j) / 2 - m < Y.length:=by omega
    have hin:=hY _ (wCF hh)
    simp only
    rw [if_pos (by omega),wHl (by omega),wBW (by omega) (by simp only [hJ,nH];omega),hH,wBW (by omega) (by simp only [hJ,nH];omega),hH]
    simp only [nJ]
    rw [hx0,hy _ (by omega) (by omega)]
    obtain ⟨v,hv,hv2⟩:=hc (gd Y ((i + j) / 2 - m)) x hin.1 hin.2 hx.1 hx.2
    rw [hv,hH]
    by_cases g:K (gd Y ((i + j) / 2 - m)) < K x
    ·rw [if_pos (hv2.2 g),if_pos (by simpa using g),wGD (by omega)]
    ·rw [if_neg (fun h=>g (hv2.1 h)),if_neg (by simpa using g)]) (fun i h1 h2=>by
    simp only
    rw [if_neg (by omega)]
    rfl)
 rw [k3,hH,wHj (by omega) (by omega)]
 obtain ⟨j,rfl⟩:∃ j,k=m + j:=⟨k - m,by omega⟩
 have hj:j <= Y.length:=by omega
 refine ⟨Y.take j ++ x :: Y.drop j,?_,?_,?_⟩
 ·refine wIn (m:=j) (fun i=>(A ++ Y.take i ++ x :: (Y.drop i ++ B),((a + i:Nat):Int))) (fun i hi=>?_) ?_ (by simp) (by omega)
  ·have e:(A ++ Y.take i).length=a + i:=by rw [hJ,nB];omega
   have e2:Y.drop i ++ B=gd Y i :: (Y.drop (i + 1) ++ B):=by rw [wGc (by omega)];rfl
   obtain ⟨s1,s2,_,s4⟩:=wHk (A ++ Y.take i) (Y.drop (i + 1) ++ B) x (gd Y i)
   rw [e] at s1 s2 s4
   have hll:(A ++ Y.take i ++ x :: gd Y i :: (Y.drop (i + 1) ++ B)).length <= 1000/\a + i + 2 <= (A ++ Y.take i ++ x :: gd Y i :: (Y.drop (i + 1) ++ B)).length:=by
    rw [hJ,e];simp only [nI,hJ,nM];omega
   simp only
   rw [if_pos (by omega),e2,wGD (by omega),wBW (by omega) (by omega),hH,wBW (by omega) (by omega),hH,wBW (by omega) (by rw [nZ];omega),hH]
   simp only [nJ]
   rw [s1,s2,s4,wDo (by omega)]
   simp [Nat.add_assoc]
  ·simp only
   rw [if_neg (by omega)]
   simp
 ·simp only [List.singleton_append]
  refine (List.perm_middle).trans ?_
  rw [nG]
 ·rw [<- nG j Y,nQ] at ho
  rw [nQ,kA]
  refine ⟨ho.1,⟨fun y hy=>?_,ho.2.1⟩,fun y hy z hz=>?_⟩
  ·obtain ⟨i,hi,e⟩:=nP hy
   rw [nM] at hi
   have h5:=k5 (m + (j + i)) (by omega) (by omega)
   rw [show m + (j + i) - m=j + i by omega] at h5
   have e':gd Y (j + i)=y:=by rw [wEj (by omega),<- e,kB]
   rw [e'] at h5
   have h5:¬ K y < K x:=by simpa using h5
   exact Lr.of (by omega) (hlt y (List.mem_of_mem_drop hy))
  ·rcases nc.1 hz with e0 | hz
   ·rw [e0]
    obtain ⟨i,hi,e⟩:=nP hy
    rw [nB] at hi
    have h4:=k4 (m + i) (by omega) (by omega)
    rw [show m + i - m=i by omega] at h4
    have e':gd Y i=y:=by rw [wEj (by omega),<- e,kC]
    rw [e'] at h4
    exact .inl (by simpa using h4)
   ·exact ho.2.2 y hy z hz
theorem wNq {K:Int->Int} {n:Int} {c:(Int × Int)->Option Int} (hc:ByK K n c) {A X B:List Int} {y:Int} (hy:0 <= y/\y < n) (hX:In n X) (hlt:∀ x ∈ X,x < y) (ho:X.Pairwise (Lr K)) (hl:(A ++ X ++ [y] ++ B).length <= 1000) {a m b:Nat} (ha:A.length=a) (hm:a + X.length=m) (hb:m + 1=b) :
    ∃ Z,sm2 (A ++ X ++ [y] ++ B) (a:Int) (m:Int) (b:Int) c=some (A ++ Z ++ B)/\Z.Perm (X ++ [y])/\Z.Pairwise (Lr K):=by
  have hl2:=hl
  simp only [hJ,nH] at hl2
  unfold sm2
  have hy0:gd (A ++ X ++ [y] ++ B) m=y:=by rw [gd_Y (by omega) (by simp;omega),show m - (A.length + X.length)=0 by omega];rfl
  have hx:∀ i,a <= i->i < m->gd (A ++ X ++ [y] ++ B) i=gd X (i - a):=fun i h1 h2=>by rw [gd_X (by omega) (by omega),ha]
  obtain ⟨k,k1,k2,k3,k4,k5⟩:=wGf (body:=fun (x137,x138) =>
        if x137 < x138 then
          (chk (m:Int) (A ++ X ++ [y] ++ B).length).bind fun _ =>
          (chk (w64 ((wAf (w64 (x137 + x138))) / 2)) (A ++ X ++ [y] ++ B).length).bind fun _ =>
          (c ((gd (A ++ X ++ [y] ++ B) (m:Int).toNat),(gd (A ++ X ++ [y] ++ B) (w64 ((wAf (w64 (x137 + x138))) / 2)).toNat))).bind fun x166 =>
          if x166 < 0 then
            some (.inl (x137,w64 ((wAf (w64 (x137 + x138))) / 2)))
          else
            some (.inl (w64 ((w64 ((wAf (w64 (x137 + x138))) / 2)) + 1),x138))
        else
          esc (some x137)) (fun h=>decide (K (gd X (h - a)) <= K y)) (lo:=a) (hi:=m) (by omega) (by omega) (fun i j h1 h2 h3 h4=>by
        have h4:K (gd X (j - a)) <= K y:=by simpa using h4
        have:=wIT ho (i:=i - a) (j:=j - a) (by omega) (by omega)
        simpa using (by omega:K (gd X (i - a)) <= K y)) (fun i j h1 h2 h3=>by
        have hh:(i + j) / 2 - a < X.length:=by omega
        have hin:=hX _ (wCF hh)
        simp only
        rw [if_pos (by omega),wHl (by omega),wBW (by omega) (by simp only [hJ,nH];omega),hH,wBW (by omega) (by simp only [hJ,nH];omega),hH]
        simp only [nJ]
        rw [hy0,hx _ (by omega) (by omega)]
        obtain ⟨v,hv,hv2⟩:=hc y (gd X ((i + j) / 2 - a)) hy.1 hy.2 hin.1 hin.2
        rw [hv,hH]
        by_cases g:K y < K (gd X ((i + j) / 2 - a))
        · rw [if_pos (hv2.2 g),if_neg (by simpa using g)]
        · rw [if_neg (fun h=>g (hv2.1 h)),if_pos (by simpa using g),wGD (by omega)]) (fun i h1 h2=>by
        simp only
        rw [if_neg (by omega)]
        rfl)
  rw [k3,hH]
  obtain ⟨j,rfl⟩:∃ j,k=a + j:=⟨k - a,by omega⟩
  have hj:j <= X.length:=by omega
  refine ⟨X.take j ++ y :: X.drop j,?_,?_,?_⟩
  · refine wIn (m:=X.length - j) (fun i=>(A ++ X.take (X.length - i) ++ y :: (X.drop (X.length - i) ++ B),((m - i:Nat):Int))) (fun i hi=>?_) ?_ (by simp) (by omega)
    · obtain ⟨q,hq⟩:∃ q,X.length - i=q + 1:=⟨X.length - i - 1,by omega⟩
      have hq1:X.length - (i + 1)=q:=by omega
      have e:(A ++ X.take q).length=a + q:=by rw [hJ,nB];omega
      obtain ⟨s1,s2,s3,_⟩:=wHk (A ++ X.take q) (X.drop (q + 1) ++ B) (gd X q) y
      rw [e] at s1 s2 s3
      have e2:A ++ X.take (q + 1) ++ y :: (X.drop (q + 1) ++ B)=A ++ X.take q ++ gd X q :: y :: (X.drop (q + 1) ++ B):=by rw [wDo (by omega)];simp
      have hll:a + q + 2 <= (A ++ X.take q ++ gd X q :: y :: (X.drop (q + 1) ++ B)).length:=by rw [hJ,e];simp only [nI];omega
      have em:m - i=a + q + 1:=by omega
      simp only
      rw [hq,hq1,e2,em,if_pos (by omega),wHj (by omega) (by omega),wBW (by omega) (by omega),hH,wBW (by omega) (by omega),hH,wBW (by omega) (by rw [nZ];omega),hH]
      simp only [nJ,km]
      rw [s1,s2,s3,show m - (i + 1)=a + q by omega,wGc (l:=X) (k:=q) (by omega)]
      rfl
    · simp only
      rw [show X.length - (X.length - j)=j by omega,if_neg (by omega)]
      simp
  · refine (List.perm_middle).trans ?_
    rw [nG]
    exact (kM y X).symm
  · rw [<- nG j X,nQ] at ho
    rw [nQ,kA]
    refine ⟨ho.1,⟨fun x hx=>?_,ho.2.1⟩,fun x hx z hz=>?_⟩
    · obtain ⟨i,hi,e⟩:=nP hx
      rw [nM] at hi
      have h5:=k5 (a + (j + i)) (by omega) (by omega)
      rw [show a + (j + i) - a=j + i by omega] at h5
      have e':gd X (j + i)=x:=by rw [wEj (by omega),<- e,kB]
      rw [e'] at h5
      exact .inl (by simpa using h5)
    · rcases nc.1 hz with e0 | hz
      · rw [e0]
        obtain ⟨i,hi,e⟩:=nP hx
        rw [nB] at hi
        have h4:=k4 (a + i) (by omega) (by omega)
        rw [show a + i - a=i by omega] at h4
        have e':gd X i=x:=by rw [wEj (by omega),<- e,kC]
        rw [e'] at h4
        exact Lr.of (by simpa using h4) (hlt x (kI hx))
      · exact ho.2.2 x hx z hz
end Go.Proofs.YtkghaiefcjgfkaaGreat
namespace Go.Proofs.YtkghaiefcjgfkaaGreat
open Go.KL
abbrev Rec:=(List Int)->Int->Int->Int->((Int × Int)->Option Int)->Option ((List Int))
def wJi (K:Int->Int) (n:Int) (c:(Int × Int)->Option Int) (r:Rec) (N:Nat):Prop:=∀ A X Y B:List Int,0 < X.length->0 < Y.length->In n X->In n Y->(∀ x ∈ X,∀ y ∈ Y,x < y)->X.Pairwise (Lr K)->Y.Pairwise (Lr K)->(A ++ X ++ Y ++ B).length <= 1000->X.length + Y.length < N ->
 ∃ Z,r (A ++ X ++ Y ++ B) ((A.length:Nat):Int) ((A.length + X.length:Nat):Int) ((A.length + X.length + Y.length:Nat):Int) c=some (A ++ Z ++ B)/\Z.Perm (X ++ Y)/\Z.Pairwise (Lr K)
theorem wJj {K:Int->Int} {n:Int} {c:(Int × Int)->Option Int} {r:Rec} {N:Nat} (H:wJi K n c r N) {A X Y B:List Int} (hX:In n X) (hY:In n Y) (hlt:∀ x ∈ X,∀ y ∈ Y,x < y) (oX:X.Pairwise (Lr K)) (oY:Y.Pairwise (Lr K)) (hl:(A ++ X ++ Y ++ B).length <= 1000) (hN:X.length + Y.length < N) {a k m:Nat} (ha:A.length=a) (hk:a + X.length=k) (hm:k + Y.length=m) (R:List Int->Option (List Int)) :
  ∃ Z,(if (a:Int) < (k:Int) then (if (k:Int) < (m:Int) then (r (A ++ X ++ Y ++ B) (a:Int) (k:Int) (m:Int) c).bind R else R (A ++ X ++ Y ++ B)) else R (A ++ X ++ Y ++ B))=R (A ++ Z ++ B)/\Z.Perm (X ++ Y)/\Z.Pairwise (Lr K):=by
 by_cases h1:(a:Int) < (k:Int)
 ·rw [if_pos h1]
  by_cases h2:(k:Int) < (m:Int)
  ·rw [if_pos h2]
   obtain ⟨Z,e,p,o⟩:=H A X Y B (by omega) (by omega) hX hY hlt oX oY hl hN
   rw [ha,hk,hm] at e
   exact ⟨Z,by rw [e,hH],p,o⟩
  ·rw [if_neg h2]
   have:Y=[]:=nW (by omega)
   subst this
   exact ⟨X,by simp,by simp,oX⟩
 ·rw [if_neg h1]
  have:X=[]:=nW (by omega)
  subst this
  exact ⟨Y,by simp,by simp,oY⟩
theorem wNr {K:Int->Int} {n:Int} {c:(Int × Int)->Option Int} {r:Rec} {N:Nat} (H:wJi K n c r N) {A X1 X2 Y1 Y2 B:List Int} (hX:In n (X1 ++ X2)) (hY:In n (Y1 ++ Y2)) (hlt:∀ x ∈ X1 ++ X2,∀ y ∈ Y1 ++ Y2,x < y) (oX:(X1 ++ X2).Pairwise (Lr K)) (oY:(Y1 ++ Y2).Pairwise (Lr K))
  (o12:∀ x ∈ X1,∀ y ∈ Y2,Lr K x y) (o21:∀ y ∈ Y1,∀ x ∈ X2,Lr K y x) (hl:(A ++ X1 ++ Y1 ++ X2 ++ Y2 ++ B).length <= 1000) (hN1:X1.length + Y1.length < N) (hN2:X2.length + Y2.length < N) {a k mid e b:Nat} (ha:A.length=a) (hk:a + X1.length=k) (hm:k + Y1.length=mid) (he:mid + X2.length=e) (hb:e + Y2.length=b) :
  ∃ Z,smT r (A ++ X1 ++ Y1 ++ X2 ++ Y2 ++ B) (a:Int) (b:Int) (mid:Int) (e:Int) (k:Int) c=some (A ++ Z ++ B)/\Z.Perm ((X1 ++ X2) ++ (Y1 ++ Y2))/\Z.Pairwise (Lr K):=by
 rw [nQ] at oX oY
 have T:∀ l:List Int,smT r l (a:Int) (b:Int) (mid:Int) (e:Int) (k:Int) c=if (a:Int) < (k:Int) then (if (k:Int) < (mid:Int) then (r l (a:Int) (k:Int) (mid:Int) c).bind (fun l=>if (mid:Int) < (e:Int) then (if (e:Int) < (b:Int) then (r l (mid:Int) (e:Int) (b:Int) c).bind some else some l) else some l) else (fun l=>if (mid:Int) < (e:Int) then (if (e:Int) < (b:Int) then (r l (mid:Int) (e:Int) (b:Int) c).bind some else some l) else some l) l) else (fun l=>if (mid:Int) < (e:Int) then (if (e:Int) < (b:Int) then (r l (mid:Int) (e:Int) (b:Int) c).bind some else some l) else some l) l:=fun l=>rfl
 obtain ⟨Z1,e1,p1,o1⟩:=wJj H (A:=A) (X:=X1) (Y:=Y1) (B:=X2 ++ Y2 ++ B) (fun x hx=>hX x (nj _ hx)) (fun y hy=>hY y (nj _ hy)) (fun x hx y hy=>hlt x (nj _ hx) y (nj _ hy)) oX.1 oY.1 (by simpa only [nA] using hl) hN1 ha hk hm (fun l=>if (mid:Int) < (e:Int) then (if (e:Int) < (b:Int) then (r l (mid:Int) (e:Int) (b:Int) c).bind some else some l) else some l)
 have hZ1:Z1.length=X1.length + Y1.length:=by rw [p1.length_eq,hJ]
 have hl2:=hl
 simp only [hJ] at hl2
 obtain ⟨Z2,e2,p2,o2⟩:=wJj H (A:=A ++ Z1) (X:=X2) (Y:=Y2) (B:=B) (fun x hx=>hX x (nq _ hx)) (fun y hy=>hY y (nq _ hy)) (fun x hx y hy=>hlt x (nq _ hx) y (nq _ hy)) oX.2.1 oY.2.1 (by simp only [hJ];omega) hN2 (a:=mid) (by rw [hJ];omega) he hb some
 refine ⟨Z1 ++ Z2,?_,?_,?_⟩
 ·rw [T]
  have q:A ++ X1 ++ Y1 ++ X2 ++ Y2 ++ B=A ++ X1 ++ Y1 ++ (X2 ++ Y2 ++ B):=by simp only [nA]
  rw [q,e1]
  have q2:A ++ Z1 ++ (X2 ++ Y2 ++ B)=A ++ Z1 ++ X2 ++ Y2 ++ B:=by simp only [nA]
  rw [q2,e2]
  simp only [nA]
 ·refine (p1.append p2).trans ?_
  rw [nA,nA]
  refine kd _ ?_
  rw [<- nA,<- nA]
  exact List.Perm.append_right _ List.perm_append_comm
 ·rw [nQ]
  refine ⟨o1,o2,fun x hx y hy=>?_⟩
  rcases na.1 (p1.mem_iff.1 hx) with hx | hx <;> rcases na.1 (p2.mem_iff.1 hy) with hy | hy
  ·exact oX.2.2 x hx y hy
  ·exact o12 x hx y hy
  ·exact o21 x hx y hy
  ·exact oY.2.2 x hx y hy
theorem wNs {K:Int->Int} {n:Int} {c:(Int × Int)->Option Int} {r:Rec} {N:Nat} (H:wJi K n c r N) {A X1 X2 Y1 Y2 B:List Int} (hX:In n (X1 ++ X2)) (hY:In n (Y1 ++ Y2)) (hlt:∀ x ∈ X1 ++ X2,∀ y ∈ Y1 ++ Y2,x < y) (oX:(X1 ++ X2).Pairwise (Lr K)) (oY:(Y1 ++ Y2).Pairwise (Lr K))
  (o12:∀ x ∈ X1,∀ y ∈ Y2,Lr K x y) (o21:∀ y ∈ Y1,∀ x ∈ X2,Lr K y x) (hl:(A ++ X1 ++ X2 ++ Y1 ++ Y2 ++ B).length <= 1000) (hN1:X1.length + Y1.length < N) (hN2:X2.length + Y2.length < N) {a k m mid e b:Nat} (ha:A.length=a) (hk:a + X1.length=k) (hm:k + X2.length=m) (hmid:k + Y1.length=mid) (he:m + Y1.length=e) (hb:e + Y2.length=b) :
  ∃ Z,smR r (A ++ X1 ++ X2 ++ Y1 ++ Y2 ++ B) (a:Int) (m:Int) (b:Int) (mid:Int) (e:Int) (k:Int) c=some (A ++ Z ++ B)/\Z.Perm ((X1 ++ X2) ++ (Y1 ++ Y2))/\Z.Pairwise (Lr K):=by
 have hl2:=hl
 simp only [hJ] at hl2
 obtain ⟨Z,e1,p,o⟩:=wNr H (A:=A) (B:=B) hX hY hlt oX oY o12 o21 (by simp only [hJ];omega) hN1 hN2 ha hk hmid (e:=e) (by omega) hb
 refine ⟨Z,?_,p,o⟩
 rw [<- e1]
 unfold smR
 by_cases h1:k < m
 ·rw [if_pos (by omega),hH]
  by_cases h2:m < e
  ·rw [if_pos (by simp;omega)]
   have q:A ++ X1 ++ X2 ++ Y1 ++ Y2 ++ B=(A ++ X1) ++ X2 ++ Y1 ++ (Y2 ++ B):=by simp only [nA]
   have q2:A ++ X1 ++ Y1 ++ X2 ++ Y2 ++ B=(A ++ X1) ++ Y1 ++ X2 ++ (Y2 ++ B):=by simp only [nA]
   rw [q,wKs (A:=A ++ X1) (a:=k) (m:=m) (b:=e) (by rw [hJ];omega) (by rw [hJ];omega) (by rw [hJ];omega) (by omega) (by omega) (by rw [<- q];exact hl),hH,q2]
  ·rw [if_neg (by simp;omega)]
   have:Y1=[]:=nW (by omega)
   subst this
   simp
 ·rw [if_neg (by omega),hH,if_neg (by simp)]
  have:X2=[]:=nW (by omega)
  subst this
  simp
theorem wMH {K:Int->Int} {n:Int} {c:(Int × Int)->Option Int} (hc:ByK K n c) {A X Y B:List Int} (hX:In n X) (hY:In n Y) (oX:X.Pairwise (Lr K)) (oY:Y.Pairwise (Lr K)) (hl:(A ++ X ++ Y ++ B).length <= 1000) {a m b lo hi p:Nat} (ha:A.length=a) (hm:a + X.length=m) (hb:m + Y.length=b) (h1:a <= lo) (h2:lo <= hi) (h3:hi <= m) (hp:∀ i,lo <= i->i < hi->i <= p/\m <= p - i/\p - i < b) :
  ∃ k:Nat,lo <= k/\k <= hi/\iter (smS (A ++ X ++ Y ++ B) (p:Int) c) big ((lo:Int),(hi:Int))=some (k:Int)/\(∀ i,lo <= i->i < k->K (gd X (i - a)) <= K (gd Y (p - i - m)))/\(∀ i,k <= i->i < hi->K (gd Y (p - i - m)) < K (gd X (i - a))):=by
 have hl2:=hl
 simp only [hJ] at hl2
 have gx:∀ i,a <= i->i < m->gd (A ++ X ++ Y ++ B) i=gd X (i - a):=fun i g1 g2=>by rw [gd_X (by omega) (by omega),ha]
 have gy:∀ i,m <= i->i < b->gd (A ++ X ++ Y ++ B) i=gd Y (i - m):=fun i g1 g2=>by rw [gd_Y (by omega) (by omega)];exact wIR (by omega)
 obtain ⟨k,k1,k2,k3,k4,k5⟩:=wGf (body:=smS (A ++ X ++ Y ++ B) (p:Int) c) (fun i=>decide (K (gd X (i - a)) <= K (gd Y (p - i - m)))) h2 (by omega) (fun i j g1 g2 g3 g4=>by
  have g4:K (gd X (j - a)) <= K (gd Y (p - j - m)):=by simpa using g4
  have q1:=hp i g1 (by omega)
  have q2:=hp j (by omega) g3
  have l1:=wIT oX (i:=i - a) (j:=j - a) (by omega) (by omega)
  have l2:=wIT oY (i:=p - j - m) (j:=p - i - m) (by omega) (by omega)
  simpa using (by omega:K (gd X (i - a)) <= K (gd Y (p - i - m)))) (fun i j g1 g2 g3=>by
  obtain ⟨q0,q1,q2⟩:=hp ((i + j) / 2) (by omega) (by omega)
  have hx:(i + j) / 2 - a < X.length:=by omega
  have hy:p - (i + j) / 2 - m < Y.length:=by omega
  have ix:=hX _ (wCF hx)
  have iy:=hY _ (wCF hy)
  unfold smS
  simp only
  have hpb:p <= 1000000:=by omega
  rw [if_pos (by omega),wHl (by omega),wDY (by omega) hpb,wBW (by omega) (by simp only [hJ];omega),hH,wBW (by omega) (by simp only [hJ];omega),hH]
  simp only [nJ]
  rw [gx ((i + j) / 2) (by omega) (by omega),gy (p - (i + j) / 2) q1 q2]
  obtain ⟨v,hv,hv2⟩:=hc (gd Y (p - (i + j) / 2 - m)) (gd X ((i + j) / 2 - a)) iy.1 iy.2 ix.1 ix.2
  rw [hv,hH]
  by_cases g:K (gd Y (p - (i + j) / 2 - m)) < K (gd X ((i + j) / 2 - a))
  ·rw [if_pos (hv2.2 g),if_neg (by simpa using g)]
  ·rw [if_neg (fun h=>g (hv2.1 h)),if_pos (by simpa using g),wGD (by omega)]) (fun i g1 g2=>by
  unfold smS
  simp only
  rw [if_neg (by omega)]
  rfl)
 exact ⟨k,k1,k2,k3,fun i g1 g2=>by simpa using k4 i g1 g2,fun i g1 g2=>by simpa using k5 i g1 g2⟩
theorem wNt {K:Int->Int} {n:Int} {c:(Int × Int)->Option Int} (hc:ByK K n c):∀ F:Nat,wJi K n c (wAS F) (F + 1):=by
 intro F
 induction F with
 | zero=>intro A X Y B h1 h2 _ _ _ _ _ _ h;omega
 | succ F ih =>
  intro A X Y B hx0 hy0 hX hY hlt oX oY hl hF
  show ∃ Z,wAo (wAS F) _ _ _ _ _=_/\_
  rw [wKB]
  have hl2:=hl
  simp only [hJ] at hl2
  generalize ha:A.length=a at *
  generalize hm:a + X.length=m at *
  generalize hb:m + Y.length=b at *
  rw [wDY (a:=m) (b:=a) (by omega) (by omega),wDY (a:=b) (b:=m) (by omega) (by omega)]
  by_cases c1:X.length=1
  ·rw [if_pos (by omega)]
   obtain ⟨x,rfl⟩:=kc.1 c1
   exact wNp hc (hX x (by simp)) hY (fun y hy=>hlt x (by simp) y hy) oY hl ha (by simpa using hm) hb
  rw [if_neg (by omega)]
  by_cases c2:Y.length=1
  ·rw [if_pos (by omega)]
   obtain ⟨y,rfl⟩:=kc.1 c2
   exact wNq hc (hY y (by simp)) hX (fun x hx=>hlt x hx y (by simp)) oX hl ha hm (by simpa using hb)
  rw [if_neg (by omega),wHl (by omega)]
  generalize hmid:(a + b) / 2=mid at *
  rw [wEk (a:=mid) (b:=m) (by omega),wHj (a:=mid + m) (by omega) (by omega)]
  have fin:∀ k:Nat,a <= k->k <= m->m + k <= mid + m->mid + m <= b + k->(a < k->mid + m < b + k->K (gd X (k - 1 - a)) <= K (gd Y (mid + m - k - m)))->(k < m->k < mid->K (gd Y (mid + m - 1 - k - m)) < K (gd X (k - a))) ->
    ∃ Z,smR (wAS F) (A ++ X ++ Y ++ B) (a:Int) (m:Int) (b:Int) (mid:Int) (w64 (((mid + m:Nat):Int) - (k:Int))) (k:Int) c=some (A ++ Z ++ B)/\Z.Perm (X ++ Y)/\Z.Pairwise (Lr K):=by
   intro k k1 k2 k3 k4 k5 k6
   rw [wDY (by omega) (by omega)]
   have ex:X=X.take (k - a) ++ X.drop (k - a):=(nG ..).symm
   have ey:Y=Y.take (mid - k) ++ Y.drop (mid - k):=(nG ..).symm
   have lx1:(X.take (k - a)).length=k - a:=by rw [nB];omega
   have lx2:(X.drop (k - a)).length=m - k:=by rw [nM];omega
   have ly1:(Y.take (mid - k)).length=mid - k:=by rw [nB];omega
   have ly2:(Y.drop (mid - k)).length=Y.length - (mid - k):=by rw [nM]
   have mx1:∀ x ∈ X.take (k - a),∃ i,i < k - a/\gd X i=x:=fun x hx=>by
    obtain ⟨i,hi,e⟩:=nP hx
    rw [lx1] at hi
    exact ⟨i,hi,by rw [wEj (by omega),<- e,kC]⟩
   have mx2:∀ x ∈ X.drop (k - a),∃ i,k - a <= i/\i < X.length/\gd X i=x:=fun x hx=>by
    obtain ⟨i,hi,e⟩:=nP hx
    rw [lx2] at hi
    exact ⟨k - a + i,by omega,by omega,by rw [wEj (by omega),<- e,kB]⟩
   have my1:∀ y ∈ Y.take (mid - k),∃ i,i < mid - k/\gd Y i=y:=fun y hy=>by
    obtain ⟨i,hi,e⟩:=nP hy
    rw [ly1] at hi
    exact ⟨i,hi,by rw [wEj (by omega),<- e,kC]⟩
   have my2:∀ y ∈ Y.drop (mid - k),∃ i,mid - k <= i/\i < Y.length/\gd Y i=y:=fun y hy=>by
    obtain ⟨i,hi,e⟩:=nP hy
    rw [ly2] at hi
    exact ⟨mid - k + i,by omega,by omega,by rw [wEj (by omega),<- e,kB]⟩
   obtain ⟨Z,e,p,o⟩:=wNs ih (A:=A) (X1:=X.take (k - a)) (X2:=X.drop (k - a)) (Y1:=Y.take (mid - k)) (Y2:=Y.drop (mid - k)) (B:=B) (by rwa [<- ex]) (by rwa [<- ey]) (by rwa [<- ex,<- ey]) (by rwa [<- ex]) (by rwa [<- ey]) (fun x hx y hy=>by
     obtain ⟨i,i1,rfl⟩:=mx1 x hx
     obtain ⟨j,j1,j2,rfl⟩:=my2 y hy
     have h5:=k5 (by omega) (by omega)
     have l1:=wIT oX (i:=i) (j:=k - 1 - a) (by omega) (by omega)
     have l2:=wIT oY (i:=mid + m - k - m) (j:=j) (by omega) j2
     exact Lr.of (by omega) (hlt _ (wCF (by omega)) _ (wCF j2))) (fun y hy x hx=>by
     obtain ⟨i,i1,i2,rfl⟩:=mx2 x hx
     obtain ⟨j,j1,rfl⟩:=my1 y hy
     have h6:=k6 (by omega) (by omega)
     have l1:=wIT oX (i:=k - a) (j:=i) (by omega) i2
     have l2:=wIT oY (i:=j) (j:=mid + m - 1 - k - m) (by omega) (by omega)
     exact .inl (by omega)) (by
     have:A ++ X.take (k - a) ++ X.drop (k - a) ++ Y.take (mid - k) ++ Y.drop (mid - k) ++ B=A ++ X ++ Y ++ B:=by rw [nA A,<- ex,nA (A ++ X),<- ey]
     rw [this];exact hl) (by omega) (by omega) ha (k:=k) (m:=m) (mid:=mid) (e:=mid + m - k) (b:=b) (by omega) (by omega) (by omega) (by omega) (by omega)
   have q:A ++ X.take (k - a) ++ X.drop (k - a) ++ Y.take (mid - k) ++ Y.drop (mid - k) ++ B=A ++ X ++ Y ++ B:=by rw [nA A,<- ex,nA (A ++ X),<- ey]
   rw [q] at e
   rw [<- ex,<- ey] at p
   exact ⟨Z,e,p,o⟩
  by_cases c3:mid < m
  ·rw [if_pos (by omega),wDY (a:=mid + m) (b:=b) (by omega) (by omega)]
   obtain ⟨k,k1,k2,k3,k4,k5⟩:=wMH hc hX hY oX oY hl ha hm hb (lo:=mid + m - b) (hi:=mid) (p:=mid + m - 1) (by omega) (by omega) (by omega) (fun i g1 g2=>by omega)
   rw [k3,hH]
   refine fin k (by omega) (by omega) (by omega) (by omega) (fun g1 g2=>?_) (fun g1 g2=>k5 k (by omega) g2)
   have:=k4 (k - 1) (by omega) (by omega)
   rwa [show mid + m - 1 - (k - 1) - m=mid + m - k - m by omega] at this
  ·rw [if_neg (by omega)]
   obtain ⟨k,k1,k2,k3,k4,k5⟩:=wMH hc hX hY oX oY hl ha hm hb (lo:=a) (hi:=m) (p:=mid + m - 1) (by omega) (by omega) (by omega) (fun i g1 g2=>by omega)
   rw [k3,hH]
   refine fin k (by omega) (by omega) (by omega) (by omega) (fun g1 g2=>?_) (fun g1 g2=>k5 k (by omega) g1)
   have:=k4 (k - 1) (by omega) (by omega)
   rwa [show mid + m - 1 - (k - 1) - m=mid + m - k - m by omega] at this
end Go.Proofs.YtkghaiefcjgfkaaGreat
namespace Go.Proofs.YtkghaiefcjgfkaaGreat
open Go.KL
def seg (l:List Int) (i j:Nat):List Int:=(l.drop i).take (j - i)
def rng (i j:Nat):List Int:=(nT (j - i)).map fun (k:Nat)=>((i + k:Nat):Int)
theorem wJk {i j:Nat}:∀ x ∈ rng i j,(i:Int) <= x/\x < j:=by
 intro x hx
 obtain ⟨k,hk,rfl⟩:=nk.1 hx
 have:=kK.1 hk
 omega
theorem wNu (i j:Nat):(rng i j).Pairwise (· < ·):=by
 unfold rng
 rw [List.pairwise_map]
 exact List.pairwise_lt_range.imp fun h=>by omega
theorem wGE (i j:Nat):(rng i j).length=j - i:=by simp [rng]
theorem wKt {a m b:Nat} (h1:a <= m) (h2:m <= b):rng a m ++ rng m b=rng a b:=by
 unfold rng
 rw [show b - a=(m - a) + (b - m) by omega,List.range_add,ny,List.map_map]
 congr 1
 refine kh fun k _=>?_
 simp only [Function.comp_apply]
 omega
theorem wHm {l:List Int} {i j:Nat} (h:j <= l.length):(seg l i j).length=j - i:=by
 unfold seg;rw [nB,nM];omega
theorem wGg {l:List Int} {a b:Nat} (h1:a <= b):l=l.take a ++ seg l a b ++ l.drop b:=by
 unfold seg
 rw [nA]
 conv=>lhs;rw [<- nG a l]
 congr 1
 conv=>lhs;rw [<- nG (b - a) (l.drop a)]
 congr 1
 rw [List.drop_drop]
 congr 1
 omega
theorem wKC {l:List Int} {a m b:Nat} (h1:a <= m) (h2:m <= b):l=l.take a ++ seg l a m ++ seg l m b ++ l.drop b:=by
 conv=>lhs;rw [wGg (l:=l) h2]
 congr 1
 congr 1
 unfold seg
 conv=>lhs;rw [<- nG a (l.take m)]
 rw [List.take_take,ni h1,List.drop_take]
theorem wKu {A Z Z' B:List Int} (h:Z.length=Z'.length) {i j:Nat} (hij:j <= A.length \/ A.length + Z.length <= i):seg (A ++ Z ++ B) i j=seg (A ++ Z' ++ B) i j:=by
 unfold seg
 apply kP
 intro t
 rw [ng,ng]
 split
 ·rw [nz,nz]
  rcases hij with g | g
  ·rw [nN (by simp;omega),nN (by omega),nN (by simp;omega),nN (by omega)]
  ·rw [nU (by simp;omega),nU (by simp;omega)]
   congr 1
   simp only [hJ]
   omega
 ·rfl
theorem wKv {A Z B:List Int} {a b:Nat} (ha:A.length=a) (hb:a + Z.length=b):seg (A ++ Z ++ B) a b=Z:=by
 unfold seg
 rw [nA,<- ha,List.drop_left,List.take_append_of_le_length (by omega),no (by omega)]
def Srt (K:Int->Int) (l:List Int) (i j:Nat):Prop:=(seg l i j).Perm (rng i j)/\(seg l i j).Pairwise (Lr K)
theorem wHT {K:Int->Int} {n:Nat} {c:(Int × Int)->Option Int} (hc:ByK K n c) {l:List Int} (hl:l.length=n) (hn:n <= 64) {a b:Nat} (hab:a <= b) (hb:b <= n) (hs:seg l a b=rng a b) :
  ∃ l',wAU l (a:Int) (b:Int) c=some l'/\l'.length=n/\Srt K l' a b/\∀ i j,j <= a \/ b <= i->seg l' i j=seg l i j:=by
 have e:=wGg (l:=l) hab
 have la:(l.take a).length=a:=by rw [nB];omega
 have ls:=wHm (l:=l) (i:=a) (j:=b) (by omega)
 obtain ⟨Z,h1,h2,h3⟩:=wIS hc (A:=l.take a) (X:=seg l a b) (B:=l.drop b) (fun x hx=>by rw [hs] at hx;have:=wJk x hx;omega) (by rw [hs];exact wNu a b) (by rw [<- e];omega) (a:=a) (b:=b) la (by rw [la,ls];omega)
 have lz:Z.length=b - a:=by rw [h2.length_eq,ls]
 rw [<- e] at h1
 refine ⟨_,h1,?_,?_,fun i j hij=>?_⟩
 ·have:=congrArg List.length e
  simp only [hJ] at this ⊢
  omega
 ·rw [Srt,wKv la (by omega)]
  exact ⟨by rw [<- hs];exact h2,h3⟩
 ·conv=>rhs;rw [e]
  exact wKu (by omega) (by omega)
theorem wIU {K:Int->Int} {n:Nat} {c:(Int × Int)->Option Int} (hc:ByK K n c) {l:List Int} (hl:l.length=n) (hn:n <= 64) {a m b:Nat} (ham:a < m) (hmb:m < b) (hb:b <= n) (h1:Srt K l a m) (h2:Srt K l m b) :
  ∃ l',wAS 1000 l (a:Int) (m:Int) (b:Int) c=some l'/\l'.length=n/\Srt K l' a b/\∀ i j,j <= a \/ b <= i->seg l' i j=seg l i j:=by
 have e:=wKC (l:=l) (kV ham) (kV hmb)
 have e2:=wGg (l:=l) (a:=a) (b:=b) (by omega)
 have la:(l.take a).length=a:=by rw [nB];omega
 have l1:=wHm (l:=l) (i:=a) (j:=m) (by omega)
 have l2:=wHm (l:=l) (i:=m) (j:=b) (by omega)
 have l3:=wHm (l:=l) (i:=a) (j:=b) (by omega)
 have i1:∀ x ∈ seg l a m,(a:Int) <= x/\x < m:=fun x hx=>wJk x (h1.1.mem_iff.1 hx)
 have i2:∀ x ∈ seg l m b,(m:Int) <= x/\x < b:=fun x hx=>wJk x (h2.1.mem_iff.1 hx)
 obtain ⟨Z,g1,g2,g3⟩:=wNt hc 1000 (l.take a) (seg l a m) (seg l m b) (l.drop b) (by omega) (by omega) (fun x hx=>by have:=i1 x hx;omega) (fun x hx=>by have:=i2 x hx;omega) (fun x hx y hy=>by have:=i1 x hx;have:=i2 y hy;omega) h1.2 h2.2 (by rw [<- e];omega) (by omega)
 rw [<- e,la,l1,l2,show a + (m - a)=m by omega,show m + (b - m)=b by omega] at g1
 have lz:Z.length=b - a:=by rw [g2.length_eq,hJ,l1,l2];omega
 refine ⟨_,g1,?_,?_,fun i j hij=>?_⟩
 ·have:=congrArg List.length e2
  simp only [hJ] at this ⊢
  omega
 ·rw [Srt,wKv la (by omega)]
  refine ⟨?_,g3⟩
  rw [<- wKt (kV ham) (kV hmb)]
  exact g2.trans (h1.1.append h2.1)
 ·conv=>rhs;rw [e2]
  exact wKu (by omega) (by omega)
def Blk (K:Int->Int) (n bs:Nat) (l:List Int):Prop:=∀ s,bs * s < n->Srt K l (bs * s) (min (bs * s + bs) n)
theorem Srt.same {K:Int->Int} {l l':List Int} {i j:Nat} (h:Srt K l i j) (e:seg l' i j=seg l i j):Srt K l' i j:=by unfold Srt;rw [e];exact h
theorem wIu {K:Int->Int} {n:Nat} {c:(Int × Int)->Option Int} (hc:ByK K n c) (hn:n <= 64):∃ l a l',iter (fun (l16,x17,x18) =>
  if x18 <= (n:Int) then
   (wAU l16 x17 x18 c).bind fun x39 =>
   some (.inl (x39,x18,w64 (x18 + 20)))
  else
   esc (some (l16,x17))) big (rng 0 n,0,20)=some (l,a)/\wAU l a (n:Int) c=some l'/\l'.length=n/\Blk K n 20 l':=by
 obtain ⟨r,h1,l,t,rfl,h2,h3,h4,h5,h6⟩:=wEQ (body:=fun (l16,x17,x18) =>
  if x18 <= (n:Int) then
   (wAU l16 x17 x18 c).bind fun x39 =>
   some (.inl (x39,x18,w64 (x18 + 20)))
  else
   esc (some (l16,x17))) (fun t s=>∃ l,s=(l,((20 * t:Nat):Int),((20 * t + 20:Nat):Int))/\l.length=n/\20 * t <= n/\(∀ s,s < t->Srt K l (20 * s) (20 * s + 20))/\(∀ i j,20 * t <= i->j <= n->seg l i j=rng i j))
  (fun r=>∃ l t,r=(l,((20 * t:Nat):Int))/\l.length=n/\20 * t <= n/\n < 20 * t + 20/\(∀ s,s < t->Srt K l (20 * s) (20 * s + 20))/\(∀ i j,20 * t <= i->j <= n->seg l i j=rng i j)) 4
  (fun t s ht ⟨l,hs,g1,g2,g3,g4⟩=>by
   subst hs
   simp only
   by_cases h:((20 * t + 20:Nat):Int) <= (n:Int)
   ·left
    obtain ⟨l',e1,e2,e3,e4⟩:=wHT hc g1 hn (a:=20 * t) (b:=20 * t + 20) (by omega) (by omega) (g4 _ _ (nL _) (by omega))
    have ew:w64 (((20 * t + 20:Nat):Int) + 20)=((20 * (t + 1) + 20:Nat):Int):=by
     have:=wEk (a:=20 * t + 20) (b:=20) (by omega)
     rw [show ((20:Nat):Int)=20 from rfl] at this
     rw [this]
     omega
    rw [if_pos h,e1,hH,ew]
    refine ⟨by omega,_,rfl,l',by rw [show 20 * t + 20=20 * (t + 1) by omega],e2,by omega,fun s hs=>?_,fun i j hi hj=>?_⟩
    ·by_cases c1:s=t
     ·rw [c1];exact e3
     ·exact (g3 s (by omega)).same (e4 _ _ (by omega))
    ·rw [e4 _ _ (by omega)]
     exact g4 i j (by omega) hj
   ·right
    rw [if_neg h]
    exact ⟨_,rfl,l,t,rfl,g1,g2,by omega,g3,g4⟩)
  (s0:=(rng 0 n,0,20)) ⟨rng 0 n,rfl,by rw [wGE];omega,by omega,fun s hs=>by omega,fun i j _ hj=>by
   unfold seg
   apply kP
   intro q
   rw [ng]
   split
   ·rw [nz]
    simp only [rng,ko]
    rw [ki (by omega),ki (by omega)]
    simp
   ·rw [kG (by rw [wGE];omega)]⟩ (by omega)
 obtain ⟨l',e1,e2,e3,e4⟩:=wHT hc h2 hn (a:=20 * t) (b:=n) h3 (nL _) (h6 _ _ (nL _) (nL _))
 refine ⟨l,_,l',h1,e1,e2,fun s hs=>?_⟩
 by_cases c1:s=t
 ·rw [c1,nl (by omega)];exact e3
 ·have hlt:s < t:=by omega
  rw [ni (by omega)]
  exact (h5 s hlt).same (e4 _ _ (by omega))
theorem wLj {K:Int->Int} {n:Nat} {c:(Int × Int)->Option Int} (hc:ByK K n c) (hn:n <= 64) {bs:Nat} (hbs:bs=20 \/ bs=40) (hlt:bs < n) {l:List Int} (hl:l.length=n) (hB:Blk K n bs l) :
    ∃ l',((iter (fun (l121,x122,x123) =>
        if x123 <= (n:Int) then
          (wAS 1000 l121 x122 (w64 (x122 + (bs:Int))) x123 c).bind fun x146 =>
          some (.inl (x146,x123,w64 (x123 + (w64 (2 * (bs:Int))))))
        else
          esc (some (l121,x122))) big (l,0,w64 (2 * (bs:Int)))).bind fun (l107,x108) =>
      if (w64 (x108 + (bs:Int))) < (n:Int) then
        (wAS 1000 l107 x108 (w64 (x108 + (bs:Int))) (n:Int) c).bind fun x182 =>
        some (.inl (x182,w64 ((bs:Int) * 2)))
      else
        some (.inl (l107,w64 ((bs:Int) * 2))))=some (Sum.inl (β:=List Int) (l',((2 * bs:Nat):Int)))/\l'.length=n/\Blk K n (2 * bs) l':=by
  have e0:w64 (2 * (bs:Int))=((2 * bs:Nat):Int):=by rw [wAW (by omega) (by omega)];omega
  have e00:w64 ((bs:Int) * 2)=((2 * bs:Nat):Int):=by rw [wAW (by omega) (by omega)];omega
  rw [e0,e00]
  obtain ⟨r,h1,m,t,rfl,h2,h3,h4,h5,h6⟩:=wEQ (body:=fun (l121,x122,x123) =>
        if x123 <= (n:Int) then
          (wAS 1000 l121 x122 (w64 (x122 + (bs:Int))) x123 c).bind fun x146 =>
          some (.inl (x146,x123,w64 (x123 + ((2 * bs:Nat):Int))))
        else
          esc (some (l121,x122))) (fun t s=>∃ l,s=(l,((2 * bs * t:Nat):Int),((2 * bs * t + 2 * bs:Nat):Int))/\l.length=n/\2 * bs * t <= n/\(∀ s,s < t->Srt K l (2 * bs * s) (2 * bs * s + 2 * bs))/\(∀ s,2 * t <= s->bs * s < n->Srt K l (bs * s) (min (bs * s + bs) n)))
    (fun r=>∃ l t,r=(l,((2 * bs * t:Nat):Int))/\l.length=n/\2 * bs * t <= n/\n < 2 * bs * t + 2 * bs/\(∀ s,s < t->Srt K l (2 * bs * s) (2 * bs * s + 2 * bs))/\(∀ s,2 * t <= s->bs * s < n->Srt K l (bs * s) (min (bs * s + bs) n))) 4
    (fun t s ht ⟨l,hs,g1,g2,g3,g4⟩=>by
      subst hs
      simp only
      by_cases h:((2 * bs * t + 2 * bs:Nat):Int) <= (n:Int)
      · left
        have s1:=g4 (2 * t) (nL _) (by rcases hbs with rfl | rfl <;> omega)
        have s2:=g4 (2 * t + 1) (by omega) (by rcases hbs with rfl | rfl <;> omega)
        have q1:bs * (2 * t)=2 * bs * t:=by rcases hbs with rfl | rfl <;> omega
        have q2:bs * (2 * t + 1)=2 * bs * t + bs:=by rcases hbs with rfl | rfl <;> omega
        rw [q1,ni (by omega)] at s1
        rw [q2,ni (by omega),show 2 * bs * t + bs + bs=2 * bs * t + 2 * bs by omega] at s2
        obtain ⟨l',e1,e2,e3,e4⟩:=wIU hc g1 hn (by omega) (by omega) (by omega) s1 s2
        have ew:w64 (((2 * bs * t + 2 * bs:Nat):Int) + ((2 * bs:Nat):Int))=((2 * bs * (t + 1) + 2 * bs:Nat):Int):=by
          rw [wEk (by omega)]
          rcases hbs with rfl | rfl <;> omega
        rw [if_pos h,wEk (by omega),e1,hH,ew]
        refine ⟨by rcases hbs with rfl | rfl <;> omega,_,rfl,l',by rw [show 2 * bs * t + 2 * bs=2 * bs * (t + 1) by rw [Nat.mul_add,Nat.mul_one]],e2,by rw [Nat.mul_add,Nat.mul_one];omega,fun s hs=>?_,fun s hs hs2=>?_⟩
        · by_cases c1:s=t
          · rw [c1];exact e3
          · exact (g3 s (by omega)).same (e4 _ _ (by rcases hbs with rfl | rfl <;> omega))
        · exact (g4 s (by omega) hs2).same (e4 _ _ (by rcases hbs with rfl | rfl <;> omega))
      · right
        rw [if_neg h]
        exact ⟨_,rfl,l,t,rfl,g1,g2,by omega,g3,g4⟩)
    (s0:=(l,0,((2 * bs:Nat):Int))) ⟨l,by simp,hl,by omega,fun s hs=>by omega,fun s _ hs=>hB s hs⟩ (by omega)
  rw [h1,hH]
  simp only
  rw [wEk (by omega)]
  have fin:∀ l':List Int,l'.length=n->(2 * bs * t < n->Srt K l' (2 * bs * t) n)->(∀ s,s < t->Srt K l' (2 * bs * s) (2 * bs * s + 2 * bs))->Blk K n (2 * bs) l':=fun l' _ g2 g3 s hs=>by
    by_cases c1:s=t
    · subst c1
      rw [nl (by omega)]
      exact g2 hs
    · have:s < t:=by rcases hbs with rfl | rfl <;> omega
      have q:2 * bs * s + 2 * bs <= n:=by rcases hbs with rfl | rfl <;> omega
      rw [ni q]
      exact g3 s this
  have q1:bs * (2 * t)=2 * bs * t:=by rcases hbs with rfl | rfl <;> omega
  have q2:bs * (2 * t + 1)=2 * bs * t + bs:=by rcases hbs with rfl | rfl <;> omega
  by_cases h:((2 * bs * t + bs:Nat):Int) < (n:Int)
  · have s1:=h6 (2 * t) (nL _) (by omega)
    have s2:=h6 (2 * t + 1) (by omega) (by omega)
    rw [q1,ni (by omega)] at s1
    rw [q2,nl (by omega)] at s2
    obtain ⟨l',e1,e2,e3,e4⟩:=wIU hc h2 hn (by omega) (by omega) (nL _) s1 s2
    rw [if_pos h,e1,hH]
    refine ⟨l',rfl,e2,fin l' e2 (fun _=>e3) fun s hs=>(h5 s hs).same (e4 _ _ (by rcases hbs with rfl | rfl <;> omega))⟩
  · rw [if_neg h]
    refine ⟨m,rfl,h2,fin m h2 (fun g=>?_) h5⟩
    have s1:=h6 (2 * t) (nL _) (by omega)
    rw [q1,nl (by omega)] at s1
    exact s1
theorem wKw {K:Int->Int} {n:Nat} {c:(Int × Int)->Option Int} (hc:ByK K n c) (hn:n <= 64):∃ r,wAm (rng 0 n) c=some r/\r.Perm (rng 0 n)/\r.Pairwise (Lr K):=by
 unfold wAm wBX
 rw [wGE,Nat.sub_zero]
 obtain ⟨l,a,l',h1,h2,h3,h4⟩:=wIu hc hn
 rw [h1,hH]
 simp only
 rw [h2,hH]
 obtain ⟨r,g1,g2,g3⟩:=wEQ (body:=fun (l88,x89) =>
  if x89 < (n:Int) then
   (iter (fun (l121,x122,x123) =>
    if x123 <= (n:Int) then
     (wAS 1000 l121 x122 (w64 (x122 + x89)) x123 c).bind fun x146 =>
     some (.inl (x146,x123,w64 (x123 + (w64 (2 * x89)))))
    else
     esc (some (l121,x122))) big (l88,0,w64 (2 * x89))).bind fun (l107,x108) =>
   if (w64 (x108 + x89)) < (n:Int) then
    (wAS 1000 l107 x108 (w64 (x108 + x89)) (n:Int) c).bind fun x182 =>
    some (.inl (x182,w64 (x89 * 2)))
   else
    some (.inl (l107,w64 (x89 * 2)))
  else
   esc (some l88)) (fun k s=>∃ l bs,s=(l,((bs:Nat):Int))/\(k=0/\bs=20 \/ k=1/\bs=40 \/ k=2/\bs=80)/\l.length=n/\Blk K n bs l) (fun r=>r.length=n/\Srt K r 0 n) 3
  (fun k s hk ⟨l,bs,hs,q1,q2,q3⟩=>by
   subst hs
   simp only
   by_cases h:((bs:Nat):Int) < (n:Int)
   ·left
    obtain ⟨l2,e1,e2,e3⟩:=wLj hc hn (bs:=bs) (by omega) (by omega) q2 q3
    rw [if_pos h,e1]
    exact ⟨by omega,_,rfl,l2,2 * bs,rfl,by omega,e2,e3⟩
   ·right
    rw [if_neg h]
    refine ⟨_,rfl,q2,?_⟩
    by_cases z:n=0
    ·subst z
     have:l=[]:=nW q2
     subst this
     exact ⟨ku _,kq⟩
    ·have:=q3 0 (by omega)
     rw [Nat.mul_zero,nb,nl (by omega)] at this
     exact this) (s0:=(l',20)) ⟨l',20,rfl,.inl ⟨rfl,rfl⟩,h3,h4⟩ (by omega)
 rw [g1,hH]
 refine ⟨r,rfl,?_⟩
 have:seg r 0 n=r:=by unfold seg;rw [List.drop_zero,no (by omega)]
 unfold Srt at g3
 rwa [this] at g3
end Go.Proofs.YtkghaiefcjgfkaaGreat
namespace Go.Proofs.YtkghaiefcjgfkaaGreat
open Go.KL
theorem wLk (x a b:Int):wDK x a b=some (decide (a <= x) && decide (x <= b)):=by
 unfold wDK
 by_cases h:a <= x <;> simp [h]
theorem wLl {K V:Type} [DecidableEq K] {m:List (K × V)} {x y:K} {v:V}:wHs (wFN m x v) y=if y=x then some v else wHs m y:=by
 induction m with
 | nil=>simp only [wFN,wHs]
 | cons p m ih =>
  obtain ⟨a,u⟩:=p
  rw [wFN]
  by_cases h:x=a
  ·subst h
   rw [if_pos rfl,wHs,wHs]
   split <;> rfl
  ·rw [if_neg h,wHs,wHs,ih]
   by_cases h2:y=a
   ·rw [if_pos h2,if_neg (fun e:y=x=>h (e.symm.trans h2)),if_pos h2]
   ·rw [if_neg h2,if_neg h2]
theorem wLm {l:List Int} (hl:l.length <= 1000):wDL l=some (!decide l.Nodup):=by
 unfold wDL
 rw [wEE (by omega)]
 have key:∀ (m k:Nat) (t:List (Int × Bool)),k + m=l.length->(∀ n,wAw t n false=decide (n ∈ l.take k))->(l.take k).Nodup ->
   jn (forN (fun k20 l17 =>
  (idx l (↑k20:Int)).bind fun x41 =>
  if (wAw l17 x41 false)=true then
   esc (some true)
  else
   some (.inl (wFN l17 x41 true))) m k t) (fun _=>some false)=some (!decide l.Nodup):=by
  intro m
  induction m with
  | zero =>
   intro k t hk _ hn
   rw [no (by omega)] at hn
   simp [forN,hn]
  | succ m ih =>
   intro k t hk ht hn
   have hlt:k < l.length:=by omega
   rw [forN,wFW hlt,hH,ht]
   by_cases c:gd l k ∈ l.take k
   ·have:¬ l.Nodup:=fun h=>by
     rw [<- nG k l,wGc hlt] at h
     exact (kQ.1 h).2.2 _ c _ (by simp) rfl
    simp [c,this]
   ·rw [if_neg (by simpa using c)]
    simp only
    refine ih (k + 1) _ (by omega) (fun n=>?_) ?_
    ·unfold wAw at ht ⊢
     rw [wLl,wDo hlt]
     by_cases e:n=gd l k
     ·rw [if_pos e];simp [e]
     ·rw [if_neg e,ht];simp [e]
    ·rw [wDo hlt,kQ]
     exact ⟨hn,by simp,fun a ha b hb e=>by simp at hb;subst hb;subst e;exact c ha⟩
 exact key l.length 0 [] (by omega) (fun n=>by simp [wAw,wHs]) (by simp)
theorem wKx {α:Type} [Inhabited α] {l:List α} {a:α} (h:a ∈ l):∃ i,i < l.length/\gd l i=a:=by
 obtain ⟨i,hi,e⟩:=nP h
 exact ⟨i,hi,by rw [wEj hi,e]⟩
theorem wKy {α:Type} [Inhabited α] {l:List α} {p:α->Int}:(l.map p).Nodup ↔ ∀ i,i < l.length->∀ j,j < i->p (gd l i) ≠ p (gd l j):=by
 rw [List.nodup_iff_pairwise_ne,kR]
 constructor
 ·intro h i hi j hj e
  have:=h j i (by simp;omega) (by simpa using hi) hj
  rw [kF,kF,<- wEj (by omega),<- wEj hi] at this
  exact this e.symm
 ·intro h i j hi hj hij e
  rw [kX] at hi hj
  rw [kF,kF,<- wEj hi,<- wEj hj] at e
  exact h j hj i hij e.symm
theorem wHU (a b:Int):wBp a b=some (if a < b then -1 else if b < a then 1 else 0):=by
 unfold wBp wCn
 simp only [not_true_eq_false,decide_false,hH,nS,if_false]
 split
 ·rfl
 ·split <;> rfl
end Go.Proofs.YtkghaiefcjgfkaaGreat
namespace Go.Proofs.YtkghaiefcjgfkaaGreat
open Go.KL
theorem wKz {a u:Int} (h:0 <= a) (hu:0 < u):a % u <= a:=by
 have h1:=Int.emod_add_mul_ediv a u
 have h2:=Int.mul_nonneg (Int.le_of_lt hu) (Int.ediv_nonneg h (Int.le_of_lt hu))
 omega
def okQ (x:wAK):Bool:=(decide (1 <= x.Bib) && decide (x.Bib <= 999)) && (decide (0 <= x.Time) && decide (x.Time <= 360000))
def okU (r:wAX):Prop:=(1 <= r.Unit/\r.Unit <= 600)/\0 <= r.Limit/\r.Limit <= 360000
instance (r:wAX):Decidable (okU r):=by unfold okU;exact inferInstance
def wLA (l:List wAK) (r:wAX):Int:=if 60 < l.length then 2 else if l.all okQ=true/\okU r then (if (l.map (·.Bib)).Nodup then 0 else 5) else 3
theorem wMn {l:List wAK} (hn:l.length <= 1000):wBJ l wBK=some (l.all okQ):=by
 unfold wBJ
 rw [wFH (p:=okQ) (z:=false) (fun x _=>by
  have:wBK x=some (okQ x):=by
   unfold wBK okQ
   rw [wLk,hH]
   by_cases h:(decide (1 <= x.Bib) && decide (x.Bib <= 999))=true
   ·rw [if_pos h,wLk,h];rfl
   ·rw [if_neg h,Bool.eq_false_iff.2 h];rfl
  simp only [this,hH];split <;> rfl) (by omega)]
 cases l.all okQ <;> rfl
theorem wKD {l:List wAK} (hl:l.length <= 1000) (r:wAX):wCm l r=some (wLA l r):=by
 unfold wCm wLA
 rw [wLY (bytes:=8) (f:=fun x:wAK=>x.Bib) (fun s _ r=>by rw [wMb]) (by omega) (by omega)]
 show (some (l.map (·.Bib))).bind _=_
 rw [hH]
 by_cases h0:60 < l.length
 ·rw [if_pos (by omega),if_pos h0]
 rw [if_neg (by omega),if_neg h0,wMn hl,hH]
 by_cases h1:l.all okQ=true
 case neg=>rw [if_neg h1,if_neg (fun h=>h1 h.1)]
 rw [if_pos h1,wLk,hH]
 by_cases h2:1 <= r.Unit/\r.Unit <= 600
 case neg=>rw [if_neg (by simp;omega),if_neg (fun h=>h2 h.2.1)]
 rw [if_pos (by simp;omega),wLk,hH]
 by_cases h3:0 <= r.Limit/\r.Limit <= 360000
 case neg=>rw [if_neg (by simp;omega),if_neg (fun h=>h3 h.2.2)]
 rw [if_pos (by simp;omega),wLm (by simpa using hl),hH,if_pos (show l.all okQ=true/\okU r from ⟨h1,h2,h3⟩)]
 by_cases h4:(l.map (·.Bib)).Nodup
 ·rw [if_neg (by simp [h4]),if_pos h4]
 ·rw [if_pos (by simp [h4]),if_neg h4]
structure wLB (l:List wAK) (r:wAX):Prop where
 len:l.length <= 60
 bib:∀ x ∈ l,1 <= x.Bib/\x.Bib <= 999
 time:∀ x ∈ l,0 <= x.Time/\x.Time <= 360000
 unit:1 <= r.Unit/\r.Unit <= 600
 lim:0 <= r.Limit/\r.Limit <= 360000
 bibs:(l.map (·.Bib)).Nodup
theorem wGh {l:List wAK} {r:wAX}:wLA l r=0 ↔ wLB l r:=by
 unfold wLA
 constructor
 ·intro h
  by_cases h0:60 < l.length
  ·rw [if_pos h0] at h;omega
  rw [if_neg h0] at h
  by_cases h1:l.all okQ=true/\okU r
  case neg=>rw [if_neg h1] at h;omega
  rw [if_pos h1] at h
  by_cases h2:(l.map (·.Bib)).Nodup
  case neg=>rw [if_neg h2] at h;omega
  have:=fun x hx=>kD.1 h1.1 x hx
  simp only [okQ,nt,decide_eq_true_iff] at this
  exact ⟨by omega,fun x hx=>(this x hx).1,fun x hx=>(this x hx).2,h1.2.1,h1.2.2,h2⟩
 ·intro G
  have:=G.len
  rw [if_neg (by omega),if_pos ⟨kD.2 fun x hx=>by
   have h1:=G.bib x hx
   have h2:=G.time x hx
   simp only [okQ,nt,decide_eq_true_iff]
   exact ⟨h1,h2⟩,G.unit,G.lim⟩,if_pos G.bibs]
def bst (l:List wAK):Int:=l.foldl (fun b x=>min b x.Time) 360000
theorem wLn {l:List wAK} {k:Nat} (hk:k < l.length):bst (l.take (k + 1))=min (bst (l.take k)) (gd l k).Time:=by
 unfold bst
 rw [wDo hk,List.foldl_append]
 rfl
theorem wMo (l:List wAK):∀ b:Int,l.foldl (fun b x=>min b x.Time) b <= b/\(∀ x ∈ l,l.foldl (fun b x=>min b x.Time) b <= x.Time)/\((∀ x ∈ l,0 <= x.Time)->0 <= b->0 <= l.foldl (fun b x=>min b x.Time) b):=by
 induction l with
 | nil=>intro b;exact ⟨kL _,fun x hx=>by simp at hx,fun _ h=>h⟩
 | cons a l ih =>
  intro b
  obtain ⟨h1,h2,h3⟩:=ih (min b a.Time)
  rw [List.foldl_cons]
  refine ⟨by omega,fun x hx=>?_,fun h0 hb=>h3 (fun x hx=>h0 x (kJ _ hx)) (by have:=h0 a (List.mem_cons_self ..);omega)⟩
  rcases nc.1 hx with rfl | hx
  ·omega
  ·exact h2 x hx
def dfc (r:wAX) (best t:Int):Int:=min ((t - best) - (t - best) % r.Unit) r.Limit
def dfs (l:List wAK) (r:wAX):List Int:=l.map fun x=>dfc r (bst l) x.Time
theorem wMI {l:List wAK} {r:wAX} (G:wLB l r):0 <= bst l/\bst l <= 360000/\∀ x ∈ l,bst l <= x.Time:=by
 have:=wMo l 360000
 exact ⟨this.2.2 (fun x hx=>(G.time x hx).1) (by omega),this.1,this.2.1⟩
theorem wNv {l:List wAK} {r:wAX} (G:wLB l r) {x:wAK} (hx:x ∈ l):0 <= dfc r (bst l) x.Time/\dfc r (bst l) x.Time <= r.Limit/\dfc r (bst l) x.Time <= x.Time - bst l:=by
 have h1:=wMI G
 have h2:=h1.2.2 x hx
 have h3:=G.unit
 have h4:=G.lim
 have h5:=kY (x.Time - bst l) (show r.Unit ≠ 0 by omega)
 have h6:=wKz (a:=x.Time - bst l) (u:=r.Unit) (by omega) (by omega)
 unfold dfc
 omega
theorem wIv {l:List wAK} {r:wAX} (hl:l.length <= 1000):wCV l r=some (if wLA l r=0 then dfs l r else [],wLA l r):=by
 unfold wCV
 rw [wKD hl,hH]
 by_cases h:wLA l r=0
 case neg=>rw [if_neg h,if_neg h]
 rw [if_pos h,if_pos h,h]
 have G:=wGh.1 h
 have B:=wMI G
 rw [wDi (s0:=(360000:Int)) (fun k=>bst (l.take k)) (by simp [bst]) (by omega) (fun i hi=>by rw [wFW hi,hH,wLn hi]),hH,nm]
 have hlen:=G.len
 rw [wDi (s0:=([]:List Int)) (fun k=>(l.take k).map fun x=>dfc r (bst l) x.Time) (by simp) (by omega) (fun i hi=>by
  have hx:=wCF hi
  have t:=G.time _ hx
  have b:=B.2.2 _ hx
  have u:=G.unit
  have em:=kY ((gd l i).Time - bst l) (show r.Unit ≠ 0 by omega)
  have em2:=wKz (a:=(gd l i).Time - bst l) (u:=r.Unit) (by omega) (by omega)
  have e:w64 ((gd l i).Time - bst l)=(gd l i).Time - bst l:=wAW (by omega) (by omega)
  rw [wFW hi,hH,e,rem,if_neg (by omega),hH,nu (by omega),wAW (by omega) (by omega),wEO (by simp;omega),hH,wDo hi,ny]
  rfl),hH,nm]
 rfl
end Go.Proofs.YtkghaiefcjgfkaaGreat
namespace Go.Proofs.YtkghaiefcjgfkaaGreat
open Go.KL
def key (l:List wAK) (r:wAX) (i:Int):Int:=dfc r (bst l) (gd l i.toNat).Time * 400000 + (gd l i.toNat).Time
theorem or_is (a b:Int):wDh [a,b]=some (if a=0 then b else a):=by
 unfold wDh
 have e:((([a,b]:List Int).length:Nat):Int)=((2:Nat):Int):=rfl
 rw [e,wEE (by omega)]
 have i0:idx [a,b] ((0:Nat):Int)=some a:=rfl
 have i1:idx [a,b] ((0 + 1:Nat):Int)=some b:=rfl
 simp only [forN,i0,i1,hH]
 by_cases c:a=0
 ·rw [if_pos c,if_pos c]
  by_cases c2:b=0
  ·simp [c2]
  ·simp [c2]
 ·rw [if_neg c,if_neg c]
  rfl
theorem wIw {l:List wAK} {r:wAX} {a b:Int} (ha:0 <= a/\a < l.length) (hb:0 <= b/\b < l.length):wBL a b (dfs l r) l=some (if (if dfc r (bst l) (gd l a.toNat).Time < dfc r (bst l) (gd l b.toNat).Time then (-1:Int) else if dfc r (bst l) (gd l b.toNat).Time < dfc r (bst l) (gd l a.toNat).Time then 1 else 0)=0 then (if (gd l a.toNat).Time < (gd l b.toNat).Time then (-1:Int) else if (gd l b.toNat).Time < (gd l a.toNat).Time then 1 else 0) else (if dfc r (bst l) (gd l a.toNat).Time < dfc r (bst l) (gd l b.toNat).Time then (-1:Int) else if dfc r (bst l) (gd l b.toNat).Time < dfc r (bst l) (gd l a.toNat).Time then 1 else 0)):=by
 unfold wBL
 have e:∀ {i:Int},0 <= i->i < l.length->idx l i=some (gd l i.toNat)/\idx (dfs l r) i=some (dfc r (bst l) (gd l i.toNat).Time):=fun {i} h1 h2=>by
  refine ⟨by unfold idx;rw [if_pos h1,wAt (by omega)],?_⟩
  unfold idx dfs
  rw [if_pos h1,wAt (by simp;omega),wIm _ (by omega)]
 rw [(e ha.1 ha.2).2,hH,(e hb.1 hb.2).2,hH,(e ha.1 ha.2).1,hH,(e hb.1 hb.2).1,hH,wHU,hH,wHU,hH,or_is,hH]
theorem byKey {l:List wAK} {r:wAX} (G:wLB l r):ByK (key l r) (l.length:Int) (fun x=>wBL x.1 x.2 (dfs l r) l):=by
 intro a b a0 a1 b0 b1
 refine ⟨_,wIw ⟨a0,a1⟩ ⟨b0,b1⟩,?_⟩
 have ta:=G.time _ (wCF (l:=l) (k:=a.toNat) (by omega))
 have tb:=G.time _ (wCF (l:=l) (k:=b.toNat) (by omega))
 unfold key
 generalize dfc r (bst l) (gd l a.toNat).Time=x
 generalize dfc r (bst l) (gd l b.toNat).Time=y
 generalize (gd l a.toNat).Time=s at ta ⊢
 generalize (gd l b.toNat).Time=t at tb ⊢
 by_cases c1:x < y
 ·rw [if_pos c1,if_neg (by decide)]
  constructor
  ·intro _;omega
  ·intro _;decide
 ·simp only [c1,if_false]
  by_cases c2:y < x
  ·rw [if_pos c2,if_neg (by decide)]
   constructor
   ·intro h;exact absurd h (by decide)
   ·intro h;omega
  ·simp only [c2,if_false,if_true]
   by_cases c3:s < t
   ·simp only [c3,if_true]
    constructor
    ·intro _;omega
    ·intro _;decide
   ·simp only [c3,if_false]
    by_cases c4:t < s
    ·simp only [c4,if_true]
     constructor
     ·intro h;exact absurd h (by decide)
     ·intro h;omega
    ·simp only [c4,if_false]
     constructor
     ·intro h;omega
     ·intro h;omega
structure Plc (l:List wAK) (r:wAX) (p:List Int):Prop where
 perm:p.Perm (rng 0 l.length)
 ord:p.Pairwise (Lr (key l r))
def stt (l:List wAK) (r:wAX) (i:Int):wBR:=⟨(gd l i.toNat).Bib,dfc r (bst l) (gd l i.toNat).Time,0⟩
theorem wLC {l:List wAK} {r:wAX} {p:List Int} (h:Plc l r p) {k:Nat} (hk:k < l.length):p.length=l.length/\0 <= gd p k/\gd p k < l.length:=by
 have hl:p.length=l.length:=by rw [h.perm.length_eq,wGE];omega
 have:=wJk _ (h.perm.mem_iff.1 (wCF (l:=p) (k:=k) (by omega)))
 exact ⟨hl,by omega,this.2⟩
theorem wKE {l:List wAK} {r:wAX} (hl:l.length <= 1000):∃ p,(wLA l r=0->Plc l r p)/\wCo l r=some (if wLA l r=0 then p.map (stt l r) else [],wLA l r):=by
 unfold wCo
 rw [wIv hl,hH]
 by_cases h:wLA l r=0
 case neg=>exact ⟨[],fun e=>absurd e h,by simp only [if_neg h]⟩
 simp only [if_pos h]
 have G:=wGh.1 h
 have h60:=G.len
 rw [wDi (s0:=([]:List Int)) (fun k=>rng 0 k) rfl (by omega) (fun i hi=>by
  rw [wEO (by rw [wGE];simp;omega),hH]
  have:=wKt (a:=0) (m:=i) (b:=i + 1) (by omega) (by omega)
  rw [<- this]
  congr 2
  simp [rng]),hH]
 obtain ⟨p,e,hp,ho⟩:=wKw (byKey G) (by omega)
 rw [e,hH]
 have P:Plc l r p:=⟨hp,ho⟩
 have hpl:p.length=l.length:=by rw [hp.length_eq,wGE];omega
 refine ⟨p,fun _=>P,?_⟩
 rw [wDi (s0:=([]:List wBR)) (fun k=>(p.take k).map (stt l r)) (by simp) (by omega) (fun i hi=>by
  obtain ⟨_,g0,g1⟩:=wLC P (k:=i) (by omega)
  have e1:idx l (gd p i)=some (gd l (gd p i).toNat):=by unfold idx;rw [if_pos g0,wAt (by omega)]
  have e2:idx (dfs l r) (gd p i)=some (dfc r (bst l) (gd l (gd p i).toNat).Time):=by unfold idx dfs;rw [if_pos g0,wAt (by simp;omega),wIm _ (by omega)]
  rw [wBW (by omega) (by omega),hH,e1,hH,e2,hH,wEO (by simp;omega),hH,wDo hi,ny]
  rfl),hH,nm,h]
end Go.Proofs.YtkghaiefcjgfkaaGreat
namespace Go.Proofs.YtkghaiefcjgfkaaGreat
open Go.KL
theorem wLD {a b:Int} (h0:0 <= a) (hb:0 < b):∃ x,rem a b=some x/\0 <= x/\x < b:=by
 refine ⟨a.tmod b,if_neg (by omega),?_,?_⟩
 ·rw [nu h0];exact kY _ (by omega)
 ·rw [nu h0];exact Int.emod_lt_of_pos _ hb
theorem wIx (x:Int):0 <= wEp x:=by unfold wEp;omega
theorem wMp (x:Int):wEp x < 4294967296:=by unfold wEp;omega
theorem w64u (x:Int):w64 (wEp x)=wEp x:=by
 have:=wIx x
 have:=wMp x
 exact wAW (by omega) (by omega)
theorem wLo (a:Int) {b:Int} (hb:b ≠ 0):∃ x,quo a b=some x:=⟨_,if_neg hb⟩
theorem wIy (d:wAP) (n:Int) (h0:0 <= d.next) (h1:d.next <= 1000000):∃ x d',wAh d n=some (x,d')/\0 <= d'.next/\d'.next <= d.next + 1/\0 <= x/\(x < n \/ (n <= 1/\x=0)):=by
 unfold wAh
 by_cases hn:n <= 1
 ·exact ⟨0,d,by rw [if_pos hn],h0,by omega,by omega,.inr ⟨hn,rfl⟩⟩
 rw [if_neg hn]
 by_cases hl:(d.bytes.length:Int)=0
 ·exact ⟨0,d,by rw [if_pos hl],h0,by omega,by omega,.inl (by omega)⟩
 rw [if_neg hl]
 obtain ⟨r,e1,r0,r1⟩:=wLD h0 (show (0:Int) < d.bytes.length by omega)
 obtain ⟨b,e2⟩:∃ b,idx d.bytes r=some b:=by
  unfold idx
  rw [if_pos r0,nX (by omega)]
  exact ⟨_,rfl⟩
 obtain ⟨q,e3⟩:=wLo d.next (b:=d.bytes.length) hl
 obtain ⟨st,e4,_,_⟩:=wLD (wIx ((wEp ((wEp ((wEp (d.state * 45)) + (wEp b))) + (wEp (77 * (wEp q))))) + 1)) (b:=65519) (by decide)
 rw [e1,hH,e2,hH,e3,hH,e4,hH,wAW (x:=d.next + 1) (by omega) (by omega)]
 have fin:∀ z:Int,∃ x d',((rem (w64 (wEp z)) n).bind fun x=>some (x,(⟨d.bytes,d.next + 1,st⟩:wAP)))=some (x,d')/\0 <= d'.next/\d'.next <= d.next + 1/\0 <= x/\(x < n \/ (n <= 1/\x=0)):=by
  intro z
  obtain ⟨x,e5,x0,x1⟩:=wLD (a:=w64 (wEp z)) (b:=n) (by rw [w64u];exact wIx z) (by omega)
  exact ⟨x,_,by rw [e5];rfl,by show 0 <= d.next + 1;omega,by show d.next + 1 <= _;omega,x0,.inl x1⟩
 by_cases c1:wEp q=0
 ·rw [if_pos c1]
  by_cases c2:n <= 256
  ·rw [if_pos c2];exact fin _
  ·rw [if_neg c2];exact fin _
 ·rw [if_neg c1];exact fin _
theorem wHn (d:wAP) (a b:Int) (h0:0 <= d.next) (h1:d.next <= 1000000) (ha:-1000000 <= a) (hab:a <= b) (hb:b <= 1000000):∃ x d',wAZ d a b=some (x,d')/\0 <= d'.next/\d'.next <= d.next + 1/\a <= x/\x <= b:=by
 unfold wAZ
 rw [wAW (x:=b - a) (by omega) (by omega),wAW (x:=b - a + 1) (by omega) (by omega)]
 obtain ⟨x,d',e,n0,n1,x0,x1⟩:=wIy d (b - a + 1) h0 h1
 refine ⟨a + x,d',?_,n0,n1,by omega,by omega⟩
 rw [e,hH]
 simp only
 rw [wAW (by omega) (by omega)]
end Go.Proofs.YtkghaiefcjgfkaaGreat
namespace Go.Proofs.YtkghaiefcjgfkaaGreat
open Go.KL Go.KL.Net
open Classical
theorem wFJ {S:Type} {body:Nat->S->Option S} {n:Nat} {s0:S} (I:Nat->S->Prop) (hn:n <= 1000) (h0:I 0 s0) (h:∀ i s,i < n->I i s->∃ s',body i s=some s'/\I (i + 1) s'):∃ s,wBy 0 (n:Int) body s0=some s/\I n s:=by
 rw [wDX (by omega)]
 have:=wEe (body:=body) I n 0 s0 h0 fun i s _ h2 h3=>h i s (by omega) h3
 rwa [nb] at this
theorem wLp (v:Int) {n:Int} (h1:1 <= n) (h2:n <= 100000):∃ x,wCN v n=some x/\0 <= x/\x < n:=by
 unfold wCN
 rw [if_neg (by omega),rem,if_neg (by omega),hH]
 have a1:=Int.lt_tmod_of_pos v (show 0 < n by omega)
 have a2:=kn v (show 0 < n by omega)
 rw [wAW (by omega) (by omega)]
 have b1:=Int.tmod_nonneg n (a:=v.tmod n + n) (by omega)
 have b2:=kn (v.tmod n + n) (show 0 < n by omega)
 rw [rem,if_neg (by omega)]
 exact ⟨_,rfl,b1,b2⟩
theorem wGF {f g:Nat->Int}:∀ {m:Nat},(∀ k,k < m->f k=g k)->wEY f m=wEY g m
 | 0,_=>rfl
 | m + 1,h=>by rw [wEY,wEY,wGF fun k hk=>h k (by omega),h m (by omega)]
theorem wGG {α:Type} [Inhabited α] {l:List α} {k:Nat} (h:l.length=k) (x:α):gd (l ++ [x]) k=x:=by
 rw [<- h,wHg]
theorem wGi {f:Nat->Int} {b:Int}:∀ {m:Nat},(∀ k,k < m->0 <= f k/\f k <= b)->0 <= wEY f m/\wEY f m <= b * (m:Int)
 | 0,_=>by simp only [wEY];omega
 | m + 1,h=>by
  have a:=wGi (m:=m) fun k hk=>h k (by omega)
  have c:=h m (by omega)
  have e:b * ((m + 1:Nat):Int)=b * (m:Int) + b:=by rw [Int.natCast_add,Int.mul_add];simp
  rw [wEY,e]
  omega
def rsB (k85:Nat):List Int × Int × Int × List wAK->Option (List Int × Int × Int × List wAK):=fun (l76,x79,x80,l81) =>
  (wAh (⟨l76,x79,x80⟩:wAP) 200).bind fun (x114,x115) =>
  (app 16 l81 [(⟨(↑(k85 + 1):Int),w64 (12000 + (w64 (7 * x114)))⟩:wAK)]).bind fun x133 =>
  some (x115.bytes,x115.next,x115.state,x133)
theorem rs_is {n:Nat} (hn:n <= 7) {d:wAP} (d0:0 <= d.next) (d1:d.next <= 10):∃ b x s l,wBy 0 (n:Int) rsB (d.bytes,d.next,d.state,[])=some (b,x,s,l)/\(0 <= x/\x <= 20)/\l.length=n/\∀ i,i < n->(gd l i).Bib=(i:Int) + 1/\12000 <= (gd l i).Time/\(gd l i).Time <= 14000:=by
 obtain ⟨⟨b,x,s,l⟩,e,I⟩:=wFJ (n:=n) (body:=rsB) (s0:=(d.bytes,d.next,d.state,[]))
  (fun (k:Nat) s=>(0 <= s.2.1/\s.2.1 <= 10 + (k:Int))/\s.2.2.2.length=k/\∀ i,i < k->(gd s.2.2.2 i).Bib=(i:Int) + 1/\12000 <= (gd s.2.2.2 i).Time/\(gd s.2.2.2 i).Time <= 14000) (by omega)
  ⟨by simp only;omega,rfl,fun _ h=>by omega⟩ (by
   rintro k ⟨b,x,s,l⟩ hk ⟨a1,a2,a3⟩
   simp only at a1 a2 a3 ⊢
   obtain ⟨v,d2,e2,p0,p1,v0,v1⟩:=wIy ⟨b,x,s⟩ 200 a1.1 (by simp only;omega)
   simp only at p1
   unfold rsB
   simp only
   rw [e2,hH]
   simp only
   rw [wAW (x:=7 * v) (by omega) (by omega),wAW (by omega) (by omega),wEO (by simp only [nI,nO];omega),hH]
   refine ⟨_,rfl,by simp only;omega,by simp [a2],fun i hi=>?_⟩
   simp only
   by_cases c:i=k
   ·subst c
    rw [wGG a2]
    simp only
    omega
   ·rw [wEP (by omega)]
    exact a3 i (by omega))
 simp only at I
 exact ⟨b,x,s,l,e,⟨I.1.1,by omega⟩,I.2.1,I.2.2⟩
theorem wMq {l:List wAK} {u:Int} (hn:l.length <= 7) (hl:∀ i,i < l.length->(gd l i).Bib=(i:Int) + 1/\12000 <= (gd l i).Time/\(gd l i).Time <= 14000) (u0:1 <= u) (u1:u <= 50):wLB l ⟨u,1000⟩:=by
 refine ⟨by omega,fun x hx=>?_,fun x hx=>?_,by simp only;omega,by simp only;omega,wKy.2 fun i hi j hj=>?_⟩
 ·obtain ⟨i,hi,rfl⟩:=wKx hx
  have:=hl i hi
  omega
 ·obtain ⟨i,hi,rfl⟩:=wKx hx
  have:=hl i hi
  omega
 ·have a:=hl i hi
  have b:=hl j (by omega)
  omega
def slB (k279:Nat):List Int × Int × Int × List wAF × Int->Option (List Int × Int × Int × List wAF × Int):=fun (l269,x272,x273,l274,x278) =>
        (wAZ (⟨l269,x272,x273⟩:wAP) 1 9).bind fun (x310,x311) =>
        (wAh x311 20).bind fun (x324,x325) =>
        (app 16 l274 [(⟨w64 (50 * x310),w64 ((w64 (50 * x310)) + (w64 (10 * x324)))⟩:wAF)]).bind fun x350 =>
        some (x325.bytes,x325.next,x325.state,x350,w64 ((w64 (x278 + (w64 ((w64 (50 * x310)) + (w64 (10 * x324)))))) - (w64 (50 * x310))))
theorem sl_is {n:Nat} (hn:n <= 3) {b0:List Int} {x0 s0:Int} (d0:0 <= x0) (d1:x0 <= 100):∃ b x s l,wBy 0 (n:Int) slB (b0,x0,s0,[],0)=some (b,x,s,l,wEY (fun k=>(gd l k).Hi - (gd l k).Lo) n)/\l.length=n/\∀ i,i < n->50 <= (gd l i).Lo/\(gd l i).Lo <= (gd l i).Hi/\(gd l i).Hi <= 700:=by
 obtain ⟨⟨b,x,s,l,t⟩,e,I⟩:=wFJ (n:=n) (body:=slB) (s0:=(b0,x0,s0,[],0))
  (fun (k:Nat) s=>(0 <= s.2.1/\s.2.1 <= 100 + 2 * (k:Int))/\s.2.2.2.1.length=k/\(∀ i,i < k->50 <= (gd s.2.2.2.1 i).Lo/\(gd s.2.2.2.1 i).Lo <= (gd s.2.2.2.1 i).Hi/\(gd s.2.2.2.1 i).Hi <= 700)/\s.2.2.2.2=wEY (fun j=>(gd s.2.2.2.1 j).Hi - (gd s.2.2.2.1 j).Lo) k) (by omega)
  ⟨by simp only;omega,rfl,fun _ h=>(by omega),rfl⟩ (by
   rintro k ⟨b,x,s,l,t⟩ hk ⟨a1,a2,a3,a4⟩
   simp only at a1 a2 a3 a4 ⊢
   have bd:=wGi (f:=fun j=>(gd l j).Hi - (gd l j).Lo) (b:=700) (m:=k) fun j hj=>by have:=a3 j hj;omega
   rw [<- a4] at bd
   obtain ⟨v,d2,e2,p0,p1,v0,v1⟩:=wHn ⟨b,x,s⟩ 1 9 a1.1 (by simp only;omega) (by omega) (by omega) (by omega)
   simp only at p1
   obtain ⟨u,d3,e3,q0,q1,u0,u1⟩:=wIy d2 20 p0 (by omega)
   unfold slB
   simp only
   rw [e2,hH]
   simp only
   rw [e3,hH]
   simp only
   have w1:w64 (50 * v)=50 * v:=wAW (by omega) (by omega)
   have w2:w64 (10 * u)=10 * u:=wAW (by omega) (by omega)
   have w3:w64 (50 * v + 10 * u)=50 * v + 10 * u:=wAW (by omega) (by omega)
   rw [w1,w2,w3,wAW (x:=t + (50 * v + 10 * u)) (by omega) (by omega),wAW (by omega) (by omega),wEO (by simp only [nI,nO];omega),hH]
   refine ⟨_,rfl,by simp only;omega,by simp [a2],fun i hi=>?_,?_⟩
   ·simp only
    by_cases c:i=k
    ·subst c
     rw [wGG a2]
     simp only
     omega
    ·rw [wEP (by omega)]
     exact a3 i (by omega)
   ·simp only
    rw [wEY,wGG a2,wGF (g:=fun j=>(gd l j).Hi - (gd l j).Lo) fun j hj=>by rw [wEP (by omega)],<- a4]
    simp only
    omega)
 simp only at I
 exact ⟨b,x,s,l,by rw [e,I.2.2.2],I.2.1,I.2.2.1⟩
def inB' (Sp:List wAF) (k1254:Nat):List Int × Int × Int × Int->Option (List Int × Int × Int × Int):=fun (l1248,x1251,x1252,x1253) =>
          (chk (↑k1254:Int) Sp.length).bind fun _ =>
          (wAZ (⟨l1248,x1251,x1252⟩:wAP) ((gd Sp k1254).Lo) ((gd Sp k1254).Hi)).bind fun (x1300,x1301) =>
          some (x1301.bytes,x1301.next,x1301.state,w64 (x1253 + x1300))
def SpOK (Sp:List wAF):Prop:=Sp.length <= 3/\∀ i,i < Sp.length->50 <= (gd Sp i).Lo/\(gd Sp i).Lo <= (gd Sp i).Hi/\(gd Sp i).Hi <= 700
theorem wNw {Sp:List wAF} (H:SpOK Sp) {b:List Int} {x s t:Int} (d0:0 <= x) (d1:x <= 1000) (t0:0 <= t) (t1:t <= 1000):∃ b' x' s' g,wBy 0 (Sp.length:Int) (inB' Sp) (b,x,s,t)=some (b',x',s',t + wEY g Sp.length)/\(0 <= x'/\x' <= x + 3)/\∀ j,j < Sp.length->(gd Sp j).Lo <= g j/\g j <= (gd Sp j).Hi:=by
 have h3:=H.1
 obtain ⟨⟨b',x',s',t'⟩,e,⟨I1,g,I2,I3⟩⟩:=wFJ (n:=Sp.length) (body:=inB' Sp) (s0:=(b,x,s,t))
  (fun (k:Nat) s=>(0 <= s.2.1/\s.2.1 <= x + (k:Int))/\∃ g:Nat->Int,(∀ j,j < k->(gd Sp j).Lo <= g j/\g j <= (gd Sp j).Hi)/\s.2.2.2=t + wEY g k) (by omega)
  ⟨by simp only;omega,fun _=>0,fun _ h=>(by omega),by simp only [wEY];omega⟩ (by
   rintro k ⟨b2,x2,s2,t2⟩ hk ⟨a1,g,a2,a3⟩
   simp only at a1 a2 a3 ⊢
   have sp:=H.2 k hk
   have bd:=wGi (f:=g) (b:=700) (m:=k) fun j hj=>by
    have:=H.2 j (by omega)
    have:=a2 j hj
    omega
   obtain ⟨v,d2,e2,p0,p1,v0,v1⟩:=wHn ⟨b2,x2,s2⟩ (gd Sp k).Lo (gd Sp k).Hi a1.1 (by simp only;omega) (by omega) (by omega) (by omega)
   simp only at p1
   unfold inB'
   simp only
   rw [wBW (by omega) (by omega),hH,e2,hH]
   simp only
   rw [wAW (by omega) (by omega)]
   refine ⟨_,rfl,by simp only;omega,fun j=>if j=k then v else g j,fun j hj=>?_,?_⟩
   ·by_cases c:j=k
    ·simp only [c,if_true]
     exact ⟨v0,v1⟩
    ·simp only [c,if_false]
     exact a2 j (by omega)
   ·simp only
    rw [wEY,wGF (f:=fun j=>if j=k then v else g j) (g:=g) fun j hj=>if_neg (by omega),a3]
    simp only [if_true]
    omega)
 simp only at I1 I3
 exact ⟨b',x',s',g,by rw [e,I3],⟨I1.1,by omega⟩,I2⟩
def seB (L:List wBR) (Sp:List wAF) (k1158:Nat):List Int × List Int × Int × Int × List Int->Option (List Int × List Int × Int × Int × List Int):=fun (l1145,l1149,x1152,x1153,l1154) =>
        (chk (↑k1158:Int) L.length).bind fun _ =>
        (app 8 l1145 [(gd L k1158).Time]).bind fun x1217 =>
        (wBy 0 (↑Sp.length:Int) (inB' Sp) (l1149,x1152,x1153,(gd L k1158).Time)).bind fun (y1259,y1260,y1261,y1262) =>
        (app 8 l1154 [y1262]).bind fun x1355 =>
        some (x1217,y1259,y1260,y1261,x1355)
theorem se_is {L:List wBR} {Sp:List wAF} (H:SpOK Sp) (hL:L.length <= 7) (ht:∀ k,k < L.length->0 <= (gd L k).Time/\(gd L k).Time <= 1000) {b:List Int} {x s:Int} (d0:0 <= x) (d1:x <= 100):∃ A b' x' s' E,wBy 0 (L.length:Int) (seB L Sp) ([],b,x,s,[])=some (A,b',x',s',E)/\A.length=L.length/\E.length=L.length/\(∀ k,k < L.length->0 <= gd A k/\gd A k <= 1000)/\∀ k,k < L.length->∃ g:Nat->Int,(∀ j,j < Sp.length->(gd Sp j).Lo <= g j/\g j <= (gd Sp j).Hi)/\gd E k=gd A k + wEY g Sp.length:=by
 obtain ⟨⟨A,b',x',s',E⟩,e,I1,I2,I3,I4,I5⟩:=wFJ (n:=L.length) (body:=seB L Sp) (s0:=([],b,x,s,[]))
  (fun (k:Nat) s=>(0 <= s.2.2.1/\s.2.2.1 <= 100 + 3 * (k:Int))/\s.1.length=k/\s.2.2.2.2.length=k/\(∀ i,i < k->0 <= gd s.1 i/\gd s.1 i <= 1000)/\∀ i,i < k->∃ g:Nat->Int,(∀ j,j < Sp.length->(gd Sp j).Lo <= g j/\g j <= (gd Sp j).Hi)/\gd s.2.2.2.2 i=gd s.1 i + wEY g Sp.length) (by omega)
  ⟨by simp only;omega,rfl,rfl,fun _ h=>(by omega),fun _ h=>(by omega)⟩ (by
   rintro k ⟨A,b2,x2,s2,E⟩ hk ⟨a1,a2,a3,a4,a5⟩
   simp only at a1 a2 a3 a4 a5 ⊢
   have tk:=ht k hk
   obtain ⟨b3,x3,s3,g,e2,p,hg⟩:=wNw H (b:=b2) (s:=s2) a1.1 (by omega) tk.1 tk.2
   unfold seB
   simp only
   rw [wBW (by omega) (by omega),hH,wEO (by simp only [nI,nO];omega),hH,e2,hH]
   simp only
   rw [wEO (by simp only [nI,nO];omega),hH]
   refine ⟨_,rfl,by simp only;omega,by simp [a2],by simp [a3],fun i hi=>?_,fun i hi=>?_⟩
   ·simp only
    by_cases c:i=k
    ·subst c;rw [wGG a2];exact tk
    ·rw [wEP (by omega)];exact a4 i (by omega)
   ·simp only
    by_cases c:i=k
    ·subst c
     rw [wGG a2,wGG a3]
     exact ⟨g,hg,rfl⟩
    ·rw [wEP (by omega),wEP (by omega)]
     exact a5 i (by omega))
 exact ⟨A,b',x',s',E,e,I2,I3,I4,I5⟩
end Go.Proofs.YtkghaiefcjgfkaaGreat
namespace Go.Proofs.YtkghaiefcjgfkaaGreat
open Go.KL Go.KL.Net
theorem wLq {r:wAD} (S:wFQ r):wBk r=some r:=by
 have hn:=S.n;have hm:=S.m;have hc:=S.c;have hq:=S.q
 unfold wBk wBw wBS wBF wBB
 rw [wEO (by simp only [nO];omega),hH,hH,wEO (by simp only [nO];omega),hH,hH,wEO (by simp only [nO];omega),hH,hH,wEO (by simp only [nO];omega)]
 rfl
end Go.Proofs.YtkghaiefcjgfkaaGreat
