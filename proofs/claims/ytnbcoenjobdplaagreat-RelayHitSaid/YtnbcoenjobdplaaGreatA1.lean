import Derived.Test.YtnbcoenjobdplaaGreatA0
import Derived.Lib.AppendZeros
set_option linter.all false
open Bool renaming and_eq_true->hH,or_eq_true->nO,false_eq_true->nQ,not_eq_true'->nh,eq_false_iff->kK
open Nat renaming eq_of_beq_eq_true->nA,beq->nB,blt_eq->nD,le_refl->nG,le_of_ble_eq_true->nL,ble_eq->nM,blt->nP,le_of_mul_le_mul_right->nW,le_trans->nf,lt_of_lt_of_le->no,le_mul_of_pos_right->np,mul_le_mul_right->nw,lt_or_ge->ny,add_mul->kB,ble->kM,zero_add->kO,mul_pos->kg
open List.cons renaming injEq->nE
open List renaming getElem?_eq_getElem->nH,map_cons->nJ,getElem?_eq_some_iff->nK,mem_append->nN,eq_nil_of_length_eq_zero->nR,replicate->nS,all_eq_true->nT,count_pos_iff->nU,nil_append->nV,getD_eq_getElem?_getD->nX,count_append->nY,mem_of_getElem?->nZ,length_append->ng,cons_append->nj,getElem?_append_right->nk,getElem?_append_left->nl,append_assoc->nr,getElem?_map->nu,getElem?_eq_none->nv,count_eq_zero_of_not_mem->nz,length->kC,getElem?_take->kD,mem_cons->kG,size_toArray->kH,flatten_cons->kJ,range->kL,map_nil->kP,length_nil->kR,mem_append_right->kW,mem_append_left->kX,map_eq_nil_iff->kZ,toArray_range->kc,set->kh
open Array renaming ext'->nI,range->nb,getD_eq_getD_getElem?->ni,getElem?_replicate->kQ,replicate->kU,getElem?_toList->kV,toList_append->kY,size_append->kf,toList_map->ki
open Int renaming ofNat_eq_natCast->na,toNat_natCast->nq,negSucc_eq->kA,ofNat->kS
open Go.Value renaming int->kE
open Option.some renaming injEq->ke
open Option renaming getD_none->kj,getD_some->kk,map_some->kl
namespace Go.Proofs.YtnbcoenjobdplaaGreat
open Go.KL
structure wAA where
 bytes:List Int
 next:Int
 state:Int
deriving DecidableEq,Inhabited,Repr
structure wAC where
 Classes:List Int
 Each:Int
 Laps:Int
 Spare:Int
 Loop:Int
 Unused:Int
deriving DecidableEq,Inhabited,Repr
structure wAB where
 Skier:Int
 Loops:List Int
 Bouts:List (List Bool)
deriving DecidableEq,Inhabited,Repr
structure wAD where
 Bib:Int
 Classes:List Int
 Legs:List wAB
deriving DecidableEq,Inhabited,Repr
structure wAF where
 Rules:wAC
 Start:Int
 Teams:List wAD
deriving DecidableEq,Inhabited,Repr
structure wAH where
 of:(wAC->Option Int)
 lo:Int
 hi:Int
structure wAd where
 Spares:Int
 Loops:Int
 Unused:Int
deriving DecidableEq,Inhabited,Repr
structure wCg where
 Race:wAF
 after:List (List Int)
deriving DecidableEq,Inhabited,Repr
structure wBn where
 Laps:Int
 Bibs:List Int
 Times:List (List Int)
deriving DecidableEq,Inhabited,Repr
structure wAG where
 team:Int
 leg:Int
 bout:Int
 round:Int
deriving DecidableEq,Inhabited,Repr
def wCB (p0:List Int):Option (wAA) :=
 some (⟨p0,0,17⟩:wAA)
def wAE (p0:wAA) (p1:Int):Option (Int × wAA) :=
 if p1 <= 1 then
  some (0,p0)
 else
  if (↑p0.bytes.length:Int)=0 then
   some (0,p0)
  else
   (rem p0.next (↑p0.bytes.length:Int)).bind fun x10 =>
   (idx p0.bytes x10).bind fun x13 =>
   (quo p0.next (↑p0.bytes.length:Int)).bind fun x20 =>
   (rem (wDd ((wDd ((wDd ((wDd (p0.state * 45)) + (wDd x13))) + (wDd (77 * (wDd x20))))) + 1)) 65519).bind fun x32 =>
   if (wDd x20)=0 then
    if p1 <= 256 then
     (rem (w64 (wDd x13)) p1).bind fun x42 =>
     some (x42,(⟨p0.bytes,w64 (p0.next + 1),x32⟩:wAA))
    else
     (rem (w64 (wDd ((wDd (x32 * 256)) + (wDd x13)))) p1).bind fun x46 =>
     some (x46,(⟨p0.bytes,w64 (p0.next + 1),x32⟩:wAA))
   else
    (rem (w64 (wDd ((wDd (x32 * 256)) + (wDd x13)))) p1).bind fun x50 =>
    some (x50,(⟨p0.bytes,w64 (p0.next + 1),x32⟩:wAA))
def wAK (p0:wAA) (p1:Int) (p2:Int):Option (Int × wAA) :=
 (wAE p0 (w64 ((w64 (p2 - p1)) + 1))).bind fun (x2,x3) =>
 some (w64 (p1 + x2),x3)
def wBP (p0:wAA) (p1:Int):Option (wAC × wAA) :=
 (wAK p0 1 2).bind fun (x6,x7) =>
 (wAK x7 1 3).bind fun (x21,x22) =>
 (wAE x22 100).bind fun (x35,x36) =>
 (wAE x36 100).bind fun (x49,x50) =>
 (wAE x50 13).bind fun (x63,x64) =>
 (wAK x64 1 p1).bind fun (x84,x85) =>
 (wCv 0 x84 (fun k136 (l127,x130,x131,l132) =>
  (wAE (⟨l127,x130,x131⟩:wAA) 2).bind fun (x198,x199) =>
  (app 8 l132 [x198]).bind fun x217 =>
  some (x199.bytes,x199.next,x199.state,x217)) (x85.bytes,x85.next,x85.state,[])).bind fun (y141,y142,y143,y144) =>
 some ((⟨y144,x6,x21,x35,w64 (200 + x49),w64 (100 * x63)⟩:wAC),(⟨y141,y142,y143⟩:wAA))
def wAO (p0:wAA) (p1:Int):Option (Bool × wAA) :=
 (wAE p0 p1).bind fun (x2,x3) =>
 some (decide (x2=0),x3)
def wAP (p0:wAA):Option ((List Bool) × wAA) :=
 iter (fun (l31,x34,x35,l36,x40) =>
  if x40 < 5 then
   if (↑l36.length:Int) < 5 then
    (wAO (⟨l31,x34,x35⟩:wAA) 4).bind fun (x61,x62) =>
    (app 1 l36 [!x61]).bind fun x80 =>
    if x61=true then
     some (.inl (x62.bytes,x62.next,x62.state,x80,x40))
    else
     some (.inl (x62.bytes,x62.next,x62.state,x80,w64 (x40 + 1)))
   else
    if (↑l36.length:Int) < 8 then
     (wAO (⟨l31,x34,x35⟩:wAA) 6).bind fun (x112,x113) =>
     if x112=true then
      esc (some (l36,x113))
     else
      (wAO x113 4).bind fun (x132,x133) =>
      (app 1 l36 [!x132]).bind fun x151 =>
      if x132=true then
       some (.inl (x133.bytes,x133.next,x133.state,x151,x40))
      else
       some (.inl (x133.bytes,x133.next,x133.state,x151,w64 (x40 + 1)))
    else
     esc (some (l36,(⟨l31,x34,x35⟩:wAA)))
  else
   esc (some (l36,(⟨l31,x34,x35⟩:wAA)))) big (p0.bytes,p0.next,p0.state,[],(0:Int))
def wBI (p0:wAA) (p1:Int) (p2:Int):Option (wAF × wAA) :=
 (wBP p0 p2).bind fun (x6,x7) =>
 (wAE x7 50).bind fun (x24,x25) =>
 (wAK x25 1 p1).bind fun (x46,x47) =>
 (wCv 0 x46 (fun k102 (l92,x95,x96,l97) =>
  (wAK (⟨l92,x95,x96⟩:wAA) 1 9).bind fun (x131,x132) =>
  (wAK x132 1 5).bind fun (x152,x153) =>
  (wCv 0 x152 (fun k204 (l195,x198,x199,l200) =>
   (wAE (⟨l195,x198,x199⟩:wAA) 2).bind fun (x269,x270) =>
   (app 8 l200 [x269]).bind fun x288 =>
   some (x270.bytes,x270.next,x270.state,x288)) (x153.bytes,x153.next,x153.state,[])).bind fun (y209,y210,y211,y212) =>
  (wAK (⟨y209,y210,y211⟩:wAA) 300 900).bind fun (x355,x356) =>
  (wAO x356 4).bind fun (x369,x370) =>
  if x369=true then
   (wAE x370 (w64 ((w64 ((↑x6.Classes.length:Int) * x6.Laps)) + 1))).bind fun (x385,x386) =>
   (iter (fun (l443,x446,x447,l448,x453) =>
    if 0 < x453 then
     (wAE (⟨l443,x446,x447⟩:wAA) (↑y212.length:Int)).bind fun (x478,x479) =>
     iter (fun (l566,l570,l575,x578,x579,x580,x581) =>
      if x581 < x6.Laps then
       if 0 < x580 then
        (wAE (⟨l575,x578,x579⟩:wAA) 200).bind fun (x647,x648) =>
        (app 8 l566 [w64 (x355 + x647)]).bind fun x667 =>
        if 0 < x581 then
         (wAP x648).bind fun (x729,x730) =>
         (app 24 l570 [x729]).bind fun x758 =>
         some (.inl (x667,x758,x730.bytes,x730.next,x730.state,w64 (x580 - 1),w64 (x581 + 1)))
        else
         some (.inl (x667,l570,x648.bytes,x648.next,x648.state,w64 (x580 - 1),w64 (x581 + 1)))
       else
        esc ((app 56 l448 [(⟨x478,l566,l570⟩:wAB)]).bind fun x827 =>
        some (.inl (l575,x578,x579,x827,x580)))
      else
       esc ((app 56 l448 [(⟨x478,l566,l570⟩:wAB)]).bind fun x878 =>
       some (.inl (l575,x578,x579,x878,x580)))) big ([],[],x479.bytes,x479.next,x479.state,x453,(0:Int))
    else
     esc (some (l443,x446,x447,l448))) big (x386.bytes,x386.next,x386.state,[],x385)).bind fun (l399,x402,x403,l404) =>
   (app 56 l97 [(⟨w64 ((w64 (9 * (↑k102:Int))) + x131),y212,l404⟩:wAD)]).bind fun x951 =>
   some (l399,x402,x403,x951)
  else
   (iter (fun (l1029,x1032,x1033,l1034,x1039) =>
    if 0 < x1039 then
     (wAE (⟨l1029,x1032,x1033⟩:wAA) (↑y212.length:Int)).bind fun (x1064,x1065) =>
     iter (fun (l1152,l1156,l1161,x1164,x1165,x1166,x1167) =>
      if x1167 < x6.Laps then
       if 0 < x1166 then
        (wAE (⟨l1161,x1164,x1165⟩:wAA) 200).bind fun (x1233,x1234) =>
        (app 8 l1152 [w64 (x355 + x1233)]).bind fun x1253 =>
        if 0 < x1167 then
         (wAP x1234).bind fun (x1315,x1316) =>
         (app 24 l1156 [x1315]).bind fun x1344 =>
         some (.inl (x1253,x1344,x1316.bytes,x1316.next,x1316.state,w64 (x1166 - 1),w64 (x1167 + 1)))
        else
         some (.inl (x1253,l1156,x1234.bytes,x1234.next,x1234.state,w64 (x1166 - 1),w64 (x1167 + 1)))
       else
        esc ((app 56 l1034 [(⟨x1064,l1152,l1156⟩:wAB)]).bind fun x1413 =>
        some (.inl (l1161,x1164,x1165,x1413,x1166)))
      else
       esc ((app 56 l1034 [(⟨x1064,l1152,l1156⟩:wAB)]).bind fun x1464 =>
       some (.inl (l1161,x1164,x1165,x1464,x1166)))) big ([],[],x1065.bytes,x1065.next,x1065.state,x1039,(0:Int))
    else
     esc (some (l1029,x1032,x1033,l1034))) big (x370.bytes,x370.next,x370.state,[],w64 ((↑x6.Classes.length:Int) * x6.Laps))).bind fun (l985,x988,x989,l990) =>
   (app 56 l97 [(⟨w64 ((w64 (9 * (↑k102:Int))) + x131),y212,l990⟩:wAD)]).bind fun x1537 =>
   some (l985,x988,x989,x1537)) (x47.bytes,x47.next,x47.state,[])).bind fun (y107,y108,y109,y110) =>
 some ((⟨x6,x24,y110⟩:wAF),(⟨y107,y108,y109⟩:wAA))
def wBK (p0:Int) (p1:Int) (p2:Int):Option (Bool) :=
 if p1 <= p0 then
  some (decide (p0 <= p2))
 else
  some false
def wBL (p0:Int) (p1:(Int->Option Bool)):Option (Bool) :=
 (p1 p0).bind fun x1 =>
 some (!x1)
def wBG (p0:List Int) (p1:(Int->Option Bool)):Option (Int) :=
 jn (wDu 0 (↑p0.length:Int) (fun k2 _ =>
  (idx p0 (↑k2:Int)).bind fun x22 =>
  (p1 x22).bind fun x30 =>
  if x30=true then
   esc (some (↑k2:Int))
  else
   some (.inl ())) ()) fun _ =>
 some (-1)
def wAq (p0:List Int) (p1:(Int->Option Bool)):Option (Bool) :=
 (wBG p0 p1).bind fun x1 =>
 some (decide (0 <= x1))
def wBb (p0:List Int) (p1:(Int->Option Bool)):Option (Bool) :=
 (wAq p0 (fun x=>wBL x p1)).bind fun x13 =>
 some (!x13)
def wAj (p0:Int):Option (Bool) :=
 (wBK p0 0 3).bind fun x1 =>
 some x1
def wBV (p0:List Int):Option (Bool) :=
 (wBb p0 wAj).bind fun x2 =>
 some x2
def wBA (p0:wAC):Option (Int) :=
 some p0.Each
def wBB (p0:wAC):Option (Int) :=
 some p0.Laps
def wBC (p0:wAC):Option (Int) :=
 some p0.Spare
def wBD (p0:wAC):Option (Int) :=
 some p0.Loop
def wBE (p0:wAC):Option (Int) :=
 some p0.Unused
def wCb :Option ((List wAH)) :=
 some [(⟨wBA,1,4⟩:wAH),(⟨wBB,1,5⟩:wAH),(⟨wBC,0,600⟩:wAH),(⟨wBD,0,600⟩:wAH),(⟨wBE,0,6000⟩:wAH)]
def wAy (p0:wAH) (p1:wAC):Option (Bool) :=
 (p0.of p1).bind fun x7 =>
 (wBK x7 p0.lo p0.hi).bind fun x17 =>
 some x17
def wAb (p0:wAH) (p1:(wAH->Option Bool)):Option (Bool) :=
 (p1 p0).bind fun x5 =>
 some (!x5)
def wAV (p0:List wAH) (p1:(wAH->Option Bool)):Option (Int) :=
 jn (wDu 0 (↑p0.length:Int) (fun k2 _ =>
  (idx p0 (↑k2:Int)).bind fun x22 =>
  (p1 x22).bind fun x34 =>
  if x34=true then
   esc (some (↑k2:Int))
  else
   some (.inl ())) ()) fun _ =>
 some (-1)
def wAR (p0:List wAH) (p1:(wAH->Option Bool)):Option (Bool) :=
 (wAV p0 p1).bind fun x1 =>
 some (decide (0 <= x1))
def wAu (p0:List wAH) (p1:(wAH->Option Bool)):Option (Bool) :=
 (wAR p0 (fun x=>wAb x p1)).bind fun x13 =>
 some (!x13)
def wBc (p0:wAC):Option (Int) :=
 (wBK (↑p0.Classes.length:Int) 1 4).bind fun x10 =>
 if x10=true then
  (wBV p0.Classes).bind fun x25 =>
  if x25=true then
   (wCb).bind fun x37 =>
   (wAu x37 (fun x=>wAy x p0)).bind fun x64 =>
   if x64=true then
    some 0
   else
    some 3
  else
   some 3
 else
  some 2
def wAr (p0:wAC) (p1:wAD):Option (Bool) :=
 (wBK (↑p1.Classes.length:Int) 1 8).bind fun x9 =>
 if x9=true then
  if (↑p0.Classes.length:Int) < (↑p1.Legs.length:Int) then
   some false
  else
   jn (wDu 0 (↑p1.Legs.length:Int) (fun k25 _ =>
    (idx p1.Legs (↑k25:Int)).bind fun x46 =>
    if p0.Laps < (↑x46.Loops.length:Int) then
     esc (some false)
    else
     if (↑k25:Int) < (w64 ((↑p1.Legs.length:Int) - 1)) then
      if (↑x46.Loops.length:Int) < p0.Laps then
       esc (some false)
      else
       if (↑x46.Bouts.length:Int)=(max 0 (w64 ((↑x46.Loops.length:Int) - 1))) then
        some (.inl ())
       else
        esc (some false)
     else
      if (↑x46.Bouts.length:Int)=(max 0 (w64 ((↑x46.Loops.length:Int) - 1))) then
       some (.inl ())
      else
       esc (some false)) ()) fun _ =>
   some true
 else
  some false
def wAe (p0:wAD) (p1:(wAD->Option Bool)):Option (Bool) :=
 (p1 p0).bind fun x5 =>
 some (!x5)
def wAW (p0:List wAD) (p1:(wAD->Option Bool)):Option (Int) :=
 jn (wDu 0 (↑p0.length:Int) (fun k2 _ =>
  (idx p0 (↑k2:Int)).bind fun x22 =>
  (p1 x22).bind fun x38 =>
  if x38=true then
   esc (some (↑k2:Int))
  else
   some (.inl ())) ()) fun _ =>
 some (-1)
def wAS (p0:List wAD) (p1:(wAD->Option Bool)):Option (Bool) :=
 (wAW p0 p1).bind fun x1 =>
 some (decide (0 <= x1))
def wAk (p0:List wAD) (p1:(wAD->Option Bool)):Option (Bool) :=
 (wAS p0 (fun x=>wAe x p1)).bind fun x13 =>
 some (!x13)
def wBi (p0:wAD):Option (Bool) :=
 (wBK p0.Bib 1 999).bind fun x5 =>
 if x5=true then
  (wBV p0.Classes).bind fun x18 =>
  some x18
 else
  some false
def wAs {S E:Type} (f:S->(wAD × wAB)->Option (S ⊕ E)) (s0:S) (p1:wAF):Option (S ⊕ E) :=
 jn (wDu 0 (↑p1.Teams.length:Int) (fun k12 s10 =>
  (idx p1.Teams (↑k12:Int)).bind fun x33 =>
  jn (wDu 0 (↑x33.Legs.length:Int) (fun k66 s64 =>
   (idx x33.Legs (↑k66:Int)).bind fun x91 =>
   (f s64 (x33,x91)).bind fun yr115 =>
   match yr115 with
   | .inl s125 =>
    some (.inl s125)
   | .inr s125 =>
    esc (esc (some (.inr s125)))) s10) fun y142 =>
  some (.inl y142)) s0) fun y163 =>
 some (.inl y163)
def wBT (p0:wAF):Option (Unit) :=
 some ()
def wBW (p0:Int):Option (Bool) :=
 (wBK p0 1 9000).bind fun x1 =>
 some x1
def wBo (p0:List Bool):Option (wAd × Int) :=
 (wBK (↑p0.length:Int) 5 8).bind fun x5 =>
 if x5=true then
  jn (wDu 0 (↑p0.length:Int) (fun k23 x22 =>
   (idx p0 (↑k23:Int)).bind fun x45 =>
   if x22=0 then
    esc (some ((⟨0,0,0⟩:wAd),8))
   else
    if x45=true then
     some (.inl (w64 (x22 - 1)))
    else
     some (.inl x22)) 5) fun y72 =>
  if 0 < y72 then
   some ((⟨w64 ((↑p0.length:Int) - 5),y72,w64 (8 - (↑p0.length:Int))⟩:wAd),0)
  else
   some ((⟨w64 ((↑p0.length:Int) - 5),y72,0⟩:wAd),0)
 else
  some ((⟨0,0,0⟩:wAd),2)
def wCO (p0:wAF):Option (Int) :=
 (wBc p0.Rules).bind fun x9 =>
 if x9=0 then
  (wBK (↑p0.Teams.length:Int) 1 12).bind fun x21 =>
  if x21=true then
   (wAk p0.Teams (fun x=>wAr p0.Rules x)).bind fun x38 =>
   if x38=true then
    (wBK p0.Start 0 36000).bind fun x50 =>
    if x50=true then
     (wAk p0.Teams wBi).bind fun x65 =>
     if x65=true then
      (wBT p0).bind fun _ =>
      (wAs (S:=Unit) (E:=Int) (fun _ x146 =>
       (wBb x146.2.Loops wBW).bind fun x191 =>
       if x191=true then
        some (.inl ())
       else
        some (.inr 3)) () p0).bind fun rr138 =>
      match rr138 with
      | .inl _ =>
       (wBT p0).bind fun _ =>
       (wAs (S:=Unit) (E:=Int) (fun _ x290 =>
        (wBK x290.2.Skier 0 (w64 ((↑x290.1.Classes.length:Int) - 1))).bind fun x341 =>
        if x341=true then
         some (.inl ())
        else
         some (.inr 1)) () p0).bind fun rr282 =>
       match rr282 with
       | .inl _ =>
        (wBT p0).bind fun _ =>
        (wAs (S:=Unit) (E:=Int) (fun _ x492 =>
         jn (wDu 0 (↑x492.2.Bouts.length:Int) (fun k537 _ =>
          (idx x492.2.Bouts (↑k537:Int)).bind fun x558 =>
          (wBo x558).bind fun (x571,x572) =>
          if x572=0 then
           some (.inl ())
          else
           esc (some (.inr x572))) ()) fun _ =>
         some (.inl ())) () p0).bind fun rr484 =>
        match rr484 with
        | .inl _ =>
         (wCv 0 (↑p0.Teams.length:Int) (fun k640 l637 =>
          (idx p0.Teams (↑k640:Int)).bind fun x664 =>
          some (mput l637 x664.Bib true)) ([]:List (Int × Bool))).bind fun y645 =>
         if (↑(y645.length):Int) < (↑p0.Teams.length:Int) then
          some 5
         else
          some 0
        | .inr y618 =>
         some y618
       | .inr y364 =>
        some y364
      | .inr y214 =>
       some y214
     else
      some 3
    else
     some 3
   else
    some 2
  else
   some 2
 else
  some x9
def wCP (p0:wAF):Option ((Option wCg) × Int) :=
 (wCO p0).bind fun x5 =>
 if x5=0 then
  (wCv 0 (↑p0.Teams.length:Int) (fun k42 l37 =>
   (idx p0.Teams (↑k42:Int)).bind fun x66 =>
   (wCv 0 (↑x66.Legs.length:Int) (fun k111 (x106,l107) =>
    (idx x66.Legs (↑k111:Int)).bind fun x140 =>
    (wCv 0 (↑x140.Loops.length:Int) (fun k181 (x177,l178) =>
     (idx x140.Loops (↑k181:Int)).bind fun x211 =>
     if 0 < (↑k181:Int) then
      (idx x140.Bouts (w64 ((↑k181:Int) - 1))).bind fun x221 =>
      (wBo x221).bind fun (x234,x235) =>
      (app 8 l178 [w64 ((w64 (x177 + x211)) + (w64 ((w64 (x234.Spares * p0.Rules.Spare)) + (w64 (x234.Loops * p0.Rules.Loop)))))]).bind fun x274 =>
      some (w64 ((w64 (x177 + x211)) + (w64 ((w64 (x234.Spares * p0.Rules.Spare)) + (w64 (x234.Loops * p0.Rules.Loop))))),x274)
     else
      (app 8 l178 [w64 (x177 + x211)]).bind fun x292 =>
      some (w64 (x177 + x211),x292)) (x106,l107)).bind fun (y186,y187) =>
    some (y186,y187)) (p0.Start,[])).bind fun (y116,y117) =>
   (app 24 l37 [y117]).bind fun x366 =>
   some x366) []).bind fun y47 =>
  some ((some (⟨p0,y47⟩:wCg)),0)
 else
  some (none,x5)
def wBY (p0:List Int):Option ((List Int)) :=
 (app 8 ([]:List Int) p0).bind fun x11 =>
 some x11
def wBj (p0:wCg):Option (wBn) :=
 (wCv 0 (↑p0.Race.Teams.length:Int) (fun k51 (l42,l46) =>
  (idx p0.Race.Teams (↑k51:Int)).bind fun x80 =>
  (app 8 l42 [x80.Bib]).bind fun x108 =>
  (idx p0.after (↑k51:Int)).bind fun x121 =>
  (wBY x121).bind fun x134 =>
  (app 24 l46 [x134]).bind fun x158 =>
  some (x108,x158)) ([],[])).bind fun (y56,y57) =>
 some (⟨w64 ((↑p0.Race.Rules.Classes.length:Int) * p0.Race.Rules.Laps),y56,y57⟩:wBn)
def wBF (p0:wAF):Option (wBn × Int) :=
 (wCP p0).bind fun (x9,x10) =>
 match x9 with
 | none =>
  if x10=0 then
   none
  else
   some ((⟨0,[],[]⟩:wBn),x10)
 | some x28 =>
  if x10=0 then
   (wBj x28).bind fun x55 =>
   some (x55,0)
  else
   some ((⟨0,[],[]⟩:wBn),x10)
def wAg (p0:List Int):Option ((List Int)) :=
 (app 8 ([]:List Int) p0).bind fun x4 =>
 some x4
def wAp (p0:wAC):Option (wAC) :=
 (wAg p0.Classes).bind fun x9 =>
 some (⟨x9,p0.Each,p0.Laps,p0.Spare,p0.Loop,p0.Unused⟩:wAC)
def wAx (p0:List Bool):Option ((List Bool)) :=
 (app 1 ([]:List Bool) p0).bind fun x4 =>
 some x4
def wAl (p0:List (List Bool)):Option ((List (List Bool))) :=
 (wCv 0 (↑p0.length:Int) (fun k22 l17 =>
  (idx p0 (↑k22:Int)).bind fun x46 =>
  (wAx x46).bind fun x59 =>
  (app 24 l17 [x59]).bind fun x87 =>
  some x87) []).bind fun y27 =>
 some y27
def wAf (p0:wAF):Option (wAF) :=
 ((wAp p0.Rules).bind fun x22 =>
 some (x22.Classes,x22.Each,x22.Laps,x22.Spare,x22.Loop,x22.Unused)).bind fun (l11,x14,x15,x16,x17,x18) =>
 (wCv 0 (↑p0.Teams.length:Int) (fun k130 l125 =>
  (idx p0.Teams (↑k130:Int)).bind fun x155 =>
  ((wAg x155.Classes).bind fun x187 =>
  some x187).bind fun l181 =>
  (wCv 0 (↑x155.Legs.length:Int) (fun k289 l284 =>
   (idx x155.Legs (↑k289:Int)).bind fun x318 =>
   (wAg x318.Loops).bind fun x344 =>
   (wAl x318.Bouts).bind fun x358 =>
   (app 56 l284 [(⟨x318.Skier,x344,x358⟩:wAB)]).bind fun x401 =>
   some x401) []).bind fun y294 =>
  (app 56 l125 [(⟨x155.Bib,l181,y294⟩:wAD)]).bind fun x476 =>
  some x476) []).bind fun y135 =>
 some (⟨(⟨l11,x14,x15,x16,x17,x18⟩:wAC),p0.Start,y135⟩:wAF)
def wAv (p0:Int) (p1:Int):Option (Int) :=
 if p1 <= 0 then
  some 0
 else
  (rem p0 p1).bind fun x4 =>
  (rem (w64 (x4 + p1)) p1).bind fun x7 =>
  some x7
def wAz:Option Bool:=some true
def wBR (p0:List Int) (p1:Int) (p2:Int):Option (Bool) :=
 (wCB p0).bind fun x1 =>
 (wBI x1 5 3).bind fun (x16,x17) =>
 (wBF x16).bind fun (x57,x58) =>
 if x58=0 then
  if (↑x57.Times.length:Int)=(↑x16.Teams.length:Int) then
   (wAf x16).bind fun x89 =>
   (wAv p2 200).bind fun x114 =>
   (some ()).bind fun _ =>
   (wBF (⟨(⟨x89.Rules.Classes,x89.Rules.Each,x89.Rules.Laps,max 0 (w64 (x16.Rules.Spare - x114)),max 0 (w64 (x16.Rules.Loop - x114)),x89.Rules.Unused⟩:wAC),x89.Start,x89.Teams⟩:wAF)).bind fun (x179,x180) =>
   if x180=0 then
    if (↑x179.Times.length:Int)=(↑x16.Teams.length:Int) then
     jn (wDu 0 (↑x57.Times.length:Int) (fun k230 _ =>
      (idx x179.Times (↑k230:Int)).bind fun x254 =>
      (idx x57.Times (↑k230:Int)).bind fun x268 =>
      if (↑x254.length:Int)=(↑x268.length:Int) then
       jn (wDu 0 (↑x268.length:Int) (fun k294 _ =>
        (idx x254 (↑k294:Int)).bind fun x331 =>
        (idx x268 (↑k294:Int)).bind fun x348 =>
        if x348 < x331 then
         esc (esc (some false))
        else
         some (.inl ())) ()) fun _ =>
       some (.inl ())
      else
       esc (some false)) ()) fun _ =>
     jn (wDu 0 (↑x16.Teams.length:Int) (fun k416 l412 =>
      (idx x16.Teams (↑k416:Int)).bind fun x441 =>
      jn (wDu 0 (↑x441.Legs.length:Int) (fun k487 l484 =>
       (idx x441.Legs (↑k487:Int)).bind fun x514 =>
       jn (wDu 0 (↑x514.Bouts.length:Int) (fun k551 l548 =>
        (idx x514.Bouts (↑k551:Int)).bind fun x582 =>
        (wBo x582).bind fun (x595,x596) =>
        if x596=0 then
         (wCv 0 (↑x582.length:Int) (fun k629 l626 =>
          (idx x582 (↑k629:Int)).bind fun x667 =>
          (if x667=true then
           some false
          else
           if 1 < x595.Loops then
            some true
           else
            if x595.Loops=1 then
             some (decide ((↑k629:Int)=(w64 ((↑x582.length:Int) - 1))))
            else
             some false).bind fun b676 =>
          if b676=true then
           (app 32 l626 [(⟨(↑k416:Int),(↑k487:Int),(↑k551:Int),(↑k629:Int)⟩:wAG)]).bind fun x728 =>
           some x728
          else
           some l626) l548).bind fun y634 =>
         some (.inl y634)
        else
         esc (esc (esc (some false)))) l484) fun y793 =>
       some (.inl y793)) l412) fun y822 =>
      some (.inl y822)) []) fun y847 =>
     if (↑y847.length:Int)=0 then
      (wAz).bind fun x863 =>
      some x863
     else
      (wAv p1 (↑y847.length:Int)).bind fun x874 =>
      (chk x874 y847.length).bind fun _ =>
      (wAf x16).bind fun x918 =>
      (idx x918.Teams ((gd y847 x874.toNat).team)).bind fun x957 =>
      (idx x957.Legs ((gd y847 x874.toNat).leg)).bind fun x979 =>
      (idx x979.Bouts ((gd y847 x874.toNat).bout)).bind fun x1001 =>
      (chk ((gd y847 x874.toNat).round) x1001.length).bind fun _ =>
      (wBF (⟨x918.Rules,x918.Start,(kh x918.Teams ((gd y847 x874.toNat).team).toNat (⟨x957.Bib,x957.Classes,(kh x957.Legs ((gd y847 x874.toNat).leg).toNat (⟨x979.Skier,x979.Loops,(kh x979.Bouts ((gd y847 x874.toNat).bout).toNat (kh x1001 ((gd y847 x874.toNat).round).toNat true))⟩:wAB))⟩:wAD))⟩:wAF)).bind fun (x1057,x1058) =>
      if x1058=0 then
       if (↑x1057.Times.length:Int)=(↑x57.Times.length:Int) then
        jn (wDu 0 (↑x57.Times.length:Int) (fun k1102 _ =>
         (idx x1057.Times (↑k1102:Int)).bind fun x1127 =>
         (idx x57.Times (↑k1102:Int)).bind fun x1140 =>
         if (↑x1127.length:Int)=(↑x1140.length:Int) then
          jn (wDu 0 (↑x1140.length:Int) (fun k1174 _ =>
           (idx x1140 (↑k1174:Int)).bind fun x1210 =>
           if (↑k1102:Int)=((gd y847 x874.toNat).team) then
            if (w64 ((w64 ((w64 (((gd y847 x874.toNat).leg) * x16.Rules.Laps)) + ((gd y847 x874.toNat).bout))) + 1)) <= (↑k1174:Int) then
             (idx x1127 (↑k1174:Int)).bind fun x1231 =>
             if x1231=(w64 (x1210 - x16.Rules.Loop)) then
              some (.inl ())
             else
              esc (esc (some false))
            else
             (idx x1127 (↑k1174:Int)).bind fun x1258 =>
             if x1258=x1210 then
              some (.inl ())
             else
              esc (esc (some false))
           else
            (idx x1127 (↑k1174:Int)).bind fun x1285 =>
            if x1285=x1210 then
             some (.inl ())
            else
             esc (esc (some false))) ()) fun _ =>
          some (.inl ())
         else
          esc (some false)) ()) fun _ =>
        (wAz).bind fun x1338 =>
        some x1338
       else
        some false
      else
       some false
    else
     some false
   else
    some false
  else
   some false
 else
  some false
end Go.Proofs.YtnbcoenjobdplaaGreat
namespace Go.KL
open Go.RowKit
open Go.KX (LoopAt Yd wLf Dfr wLh retM)
section
variable {r:Option Nat} {N:Nat} {P:Program} {Q:wCd} {D:List Deferred} {B:Base} {U:PHeap} {L:List Res} {σ:Env} {w:World} {X S E:Type} {ar:PHeap->X->List Value->Prop}
 {PY:S->PHeap->List Res->Prop} {PE:E->PHeap->List Res->Prop} {f:S->X->Option (S ⊕ E)}
end
section
variable {N:Nat} {P:Program} {Q:wCd} {D:List Deferred} {l:List Oper} {ks:List Nat} {B:Base} {U:PHeap} {L:List Res} {σ:Env} {w:World} {o:Oper} {d i:Nat} {s:Sch}
theorem wQJ (z:Array Value) (n:Nat):(Builtin.zeroCells z n).toList.length=n * z.size:=by simp [Builtin.zeroCells]
theorem OKS.append0 {α:Type} {t e sz j c2 bytes b:Nat} {A2:Option Addr} {inf:TypeInfo} {z:Value} {x y:Operand} {enc:α->List Value} {ys zs:List α}
  (ho:l[i]?=some o) (hd:o.dst=some d) (hN:nP d N=true) (hw:wanted l σ o=true) (hop:o.op=.call { callee:=.builtin .append,args:=#[x,y],argTypes:=#[t,t] })
  (ht:P.underlying t=some (.slice e)) (hi:P.info? e=some inf) (hz:inf.zero=some z) (hsize:inf.size=sz) (hzs:z.cells.size=sz) (hsz:nP 0 sz=true) (hby:inf.bytes=bytes) (hb0:nP 0 bytes=true)
  (hS:St B U L w) (hk:L[j]?=some (.row (some ⟨b,0,none⟩) 0 e sz [])) (hx:ev σ x=.slice (some ⟨b,0,none⟩) 0 0) (hy:ev σ y=.slice A2 ys.length c2)
  (hsrc:ys.length=0 \/ ∃ a,A2=some a/\∀ j u,(ys.flatMap enc)[j]?=some u->w.cell? (a.add j)=some u) (hel:∀ x,(enc x).length=sz)
  (happ:app bytes ([]:List α) ys=some zs)
  (k:∀ A' c' w',St B U (L.set j (.row A' c' e sz (zs.flatMap enc))) w'->OKS N P l Q D ks s (upd σ d (.slice A' zs.length c')) w'):OKS N P l Q D ks (.fx i s .stop) σ w:=by
 obtain ⟨e1,hb⟩:=wJY happ
 rw [nV] at e1
 subst zs
 subst hsize hby
 have hb0':0 < inf.bytes:=by simpa [nD] using hb0
 have hsz':0 < inf.size:=by simpa [nD] using hsz
 rw [kR,kO] at hb
 by_cases hm:ys.length=0
 ·have:ys=[]:=nR hm
  subst this
  have hr:(Builtin.append_ #[t,t] o.type #[.slice (some ⟨b,0,none⟩) 0 0,.slice A2 0 c2]).run P w=.ok (.slice (some ⟨b,0,none⟩) 0 0) w:=by
   cases A2 <;> simp [Builtin.append_,run_underlying ht,sizeOf,typeInfo,hi,Builtin.lenOf,Builtin.firstCells,loadCells,loadCellsFrom,storeCells]
  refine OKS.v (v:=.slice (some ⟨b,0,none⟩) 0 0) (w':=w) ho hd hN hw ⟨by rw [hop];rfl,?_⟩ (.inr (Keep.refl w _)) (k _ _ _ (hS.set hk (Keep.refl w _) ?_ fun b hb=>.inl hb))
  ·simp only [kR] at hy
   simp [execOp,hop,resolve,invoke,builtin,hx,hy,hr,Result.andThen]
  ·exact hS.at_ _ (nZ hk)
 ·obtain ⟨a,rfl,ha⟩:=hsrc.resolve_left hm
  have hl:(ys.flatMap enc).length=ys.length * inf.size:=wAL hel ys
  have hys:ys.length <= ys.length * inf.bytes:=np _ hb0'
  have hr:=run_append_grow (P:=P) w t o.type e inf z ht hi hz ⟨b,0,none⟩ 0 0 [] (by simp) (fun j v h=>by simp at h) a ys.length c2 (ys.flatMap enc) hl ha (by omega) (by omega) (growslice_fits (by omega) (by simpa using hb))
  have hG:=grownCap_ge w (0 + ys.length) 0 e
  have hG2:=grownCap_le_maxLen w (0 + ys.length) 0 e (by unfold maxLen;omega)
  generalize grownCap w (0 + ys.length) 0 e=G at hr hG hG2
  rw [kO] at hr hG
  have ec:(([]:List Value).toArray ++ (ys.flatMap enc).toArray ++ Builtin.zeroCells z.cells (G - ys.length))=(ys.flatMap enc ++ (Builtin.zeroCells z.cells (G - ys.length)).toList).toArray:=by
   apply nI
   simp
  rw [ec] at hr
  have kp:=(Keep.drew w).trans' (wAn w.drew (.cells (ys.flatMap enc ++ (Builtin.zeroCells z.cells (G - ys.length)).toList).toArray e))
  have zl:(Builtin.zeroCells z.cells (G - ys.length)).toList.length=(G - ys.length) * inf.size:=by rw [wQJ,hzs]
  refine OKS.v (v:=.slice (some ⟨w.heap.size,0,none⟩) ys.length G) (w':=w.drew.alloc (.cells (ys.flatMap enc ++ (Builtin.zeroCells z.cells (G - ys.length)).toList).toArray e)) ho hd hN hw ⟨by rw [hop];rfl,?_⟩ (.inr kp) (k _ _ _ (hS.set hk (kp.weak fun x _ h=>h.elim) (.inr ⟨_,(ys.flatMap enc ++ (Builtin.zeroCells z.cells (G - ys.length)).toList).toArray,rfl,wDH w.drew _ e,?_,hG2,?_,?_⟩) fun b hb=>.inr ?_))
  ·simp [execOp,hop,resolve,invoke,builtin,hx,hy,hr,Result.andThen]
  ·rw [hl];exact nw _ hG
  ·simp only [kH,ng,zl,hl,<- kB]
   rw [show ys.length + (G - ys.length)=G by omega]
  ·simp
  ·have hb:w.heap.size=b:=Option.some.inj hb
   exact Nat.le_of_eq hb
end
end Go.KL
namespace Go.KL
open Go.RowKit
def bks:Option Addr->List Nat
 | none=>[]
 | some a=>[a.block]
def Ows (lo U:PHeap) (ls:List Nat):Prop:=∀ b,ls.count b <= 1/\(b ∈ ls->lo b=none/\∃ o,U b=some o)
theorem Ows.nil (lo U:PHeap):Ows lo U []:=fun b=>⟨by simp,fun h=>by cases h⟩
theorem Ows.le {lo U U':PHeap} {ls:List Nat} (h:Ows lo U ls) (l:PHeap.Le U U'):Ows lo U' ls:=fun b=>⟨(h b).1,fun hb=>⟨((h b).2 hb).1,by obtain ⟨o,ho⟩:=((h b).2 hb).2;exact ⟨o,l _ _ ho⟩⟩⟩
theorem Ows.low {lo lo' U:PHeap} {ls:List Nat} (h:Ows lo U ls) (l:PHeap.Le lo' lo):Ows lo' U ls:=fun b=>by
 refine ⟨(h b).1,fun hb=>?_⟩
 obtain ⟨h1,h2⟩:=(h b).2 hb
 refine ⟨?_,h2⟩
 cases e:lo' b with
 | none=>rfl
 | some o=>have:=l _ _ e;rw [h1] at this;cases this
theorem Ows.cat {a b c d:PHeap} {l1 l2:List Nat} (h1:Ows a b l1) (h2:Ows c d l2) (ab:PHeap.Le a b) (bc:PHeap.Le b c) (bd:PHeap.Le b d):Ows a d (l1 ++ l2):=fun x=>by
 have g1:=h1.le bd
 have g2:=h2.low (ab.trans bc)
 refine ⟨?_,fun hx=>?_⟩
 ·rw [nY]
  by_cases c1:x ∈ l1
  ·obtain ⟨_,o,ho⟩:=(h1 x).2 c1
   have c2:x ∉ l2:=fun hx=>by have:=((h2 x).2 hx).1;rw [bc _ _ ho] at this;cases this
   rw [nz c2]
   exact (h1 x).1
  ·rw [nz c1,kO]
   exact (h2 x).1
 ·rcases nN.1 hx with hx | hx
  ·exact (g1 x).2 hx
  ·exact (g2 x).2 hx
theorem Ows.perm {lo U:PHeap} {l1 l2:List Nat} (h:Ows lo U l1) (p:∀ b,l2.count b=l1.count b):Ows lo U l2:=fun b=>by
 refine ⟨by rw [p];exact (h b).1,fun hb=>(h b).2 ?_⟩
 rw [<- nU] at hb ⊢
 rw [<- p];exact hb
theorem Ows.left {lo U:PHeap} {l1 l2:List Nat} (h:Ows lo U (l1 ++ l2)):Ows lo U l1:=fun b=>by
 have:=(h b).1
 rw [nY] at this
 exact ⟨by omega,fun hb=>(h b).2 (by simp [hb])⟩
theorem Ows.right {lo U:PHeap} {l1 l2:List Nat} (h:Ows lo U (l1 ++ l2)):Ows lo U l2:=fun b=>by
 have:=(h b).1
 rw [nY] at this
 exact ⟨by omega,fun hb=>(h b).2 (by simp [hb])⟩
theorem Ows.apart {lo U:PHeap} {l1 l2:List Nat} (h:Ows lo U (l1 ++ l2)) {b:Nat}:¬ (b ∈ l1/\b ∈ l2):=fun ⟨h1,h2⟩=>by
 have:=(h b).1
 rw [nY] at this
 rw [<- nU] at h1 h2
 omega
def PHeap.del (U:PHeap) (β:Nat):PHeap:=fun b=>if b=β then none else U b
theorem PHeap.del_le {U lo:PHeap} {β:Nat} (h:PHeap.Le lo U) (hβ:lo β=none):PHeap.Le lo (U.del β):=fun b o hb=>by
 unfold PHeap.del
 rw [if_neg (fun e=>by subst e;rw [hβ] at hb;cases hb)]
 exact h _ _ hb
theorem Ows.keep {lo U U':PHeap} {ls:List Nat} {β:Nat} (h:Ows lo U ls) (l:PHeap.Le (U.del β) U') (hβ:β ∉ ls):∀ b ∈ ls,U' b=U b:=fun b hb=>by
 obtain ⟨_,o,ho⟩:=(h b).2 hb
 rw [ho]
 refine l b o ?_
 unfold PHeap.del
 have hne:b ≠ β:=by rintro rfl;exact hβ hb
 rw [if_neg hne];exact ho
theorem Ows.stay {lo U U':PHeap} {ls:List Nat} (h:Ows lo U ls) (l:PHeap.Le U U'):∀ b ∈ ls,U' b=U b:=fun b hb=>by
 obtain ⟨_,o,ho⟩:=(h b).2 hb
 rw [ho];exact l b o ho
theorem Sl.at {U U':PHeap} {sz c n:Nat} {A:Option Addr} {cs:List Value} (h:Sl U sz A c n cs) (e:∀ b ∈ bks A,U' b=U b):Sl U' sz A c n cs :=
 ⟨h.len,h.cap,h.mem.imp id fun ⟨b,off,arr,T,fr,h1,h2,h3⟩=>⟨b,off,arr,T,fr,h1,(e b (by rw [h1];simp [bks])).trans h2,h3⟩⟩
structure Rf (α:Type) where
 R:Rl α
 f:PHeap->α->List Value->List Nat->Prop
 fr:∀ U x vs ls,f U x vs ls->R.r U x vs
 loc:∀ U U' x vs ls,f U x vs ls->(∀ b ∈ ls,U' b=U b)->f U' x vs ls
def RlF {α:Type} (U:PHeap) (F:Rf α) (xs:List α) (cs:List Value) (ls:List Nat):Prop :=
 ∃ (vss:List (List Value)) (lss:List (List Nat)),vss.length=xs.length/\lss.length=xs.length/\(∀ (i:Nat) (x:α) (vs:List Value) (l:List Nat),xs[i]?=some x->vss[i]?=some vs->lss[i]?=some l->F.f U x vs l)/\cs=vss.flatten/\ls=lss.flatten
theorem RlF.toL {α:Type} {U:PHeap} {F:Rf α} {xs:List α} {cs:List Value} {ls:List Nat} (h:RlF U F xs cs ls):RlL U F.R xs cs:=by
 obtain ⟨vss,lss,h1,h2,h3,h4,h5⟩:=h
 refine ⟨vss,h1,fun i x vs hx hv=>?_,h4⟩
 have hi:=(nK.1 hx).1
 exact F.fr _ _ _ _ (h3 i x vs (lss[i]'(by omega)) hx hv (nH (by omega)))
theorem wEZ {α:Type} {lss:List (List α)} {i:Nat} {l:List α} {b:α} (h:lss[i]?=some l) (hb:b ∈ l):b ∈ lss.flatten:=List.mem_flatten.2 ⟨l,nZ h,hb⟩
theorem wKT {lss:List (List Nat)} {b:Nat}:∀ {i j:Nat} {l m:List Nat},lss.flatten.count b <= 1->lss[i]?=some l->lss[j]?=some m->b ∈ l->b ∈ m->i=j:=by
 induction lss with
 | nil=>intro i j l m _ h;simp at h
 | cons a lss ih =>
  intro i j l m hc hi hj hl hm
  rw [kJ,nY] at hc
  cases i with
  | zero =>
   cases j with
   | zero=>rfl
   | succ j =>
    simp at hi hj
    subst hi
    have h1:=nU.2 hl
    have h2:=nU.2 (wEZ (b:=b) hj hm)
    omega
  | succ i =>
   cases j with
   | zero =>
    simp at hi hj
    subst hj
    have h1:=nU.2 hm
    have h2:=nU.2 (wEZ (b:=b) hi hl)
    omega
   | succ j =>
    have:=ih (i:=i) (j:=j) (by omega) (by simpa using hi) (by simpa using hj) hl hm
    omega
theorem wLi {lss:List (List Nat)} {b:Nat}:∀ {i:Nat} {l:List Nat},lss[i]?=some l->l.count b <= lss.flatten.count b:=by
 induction lss with
 | nil=>intro i l h;simp at h
 | cons a lss ih =>
  intro i l h
  rw [kJ,nY]
  cases i with
  | zero=>simp at h;subst h;omega
  | succ i=>have:=ih (i:=i) (l:=l) (by simpa using h);omega
theorem RlF.up {α:Type} {U U':PHeap} {F:Rf α} {xs:List α} {cs:List Value} {ls:List Nat} (h:RlF U F xs cs ls) (e:∀ b ∈ ls,U' b=U b):RlF U' F xs cs ls:=by
 obtain ⟨vss,lss,h1,h2,h3,h4,rfl⟩:=h
 exact ⟨vss,lss,h1,h2,fun i x vs l hx hv hl=>F.loc _ _ _ _ _ (h3 i x vs l hx hv hl) fun b hb=>e b (wEZ hl hb),h4,rfl⟩
theorem RlF.nil {α:Type} {U:PHeap} {F:Rf α}:RlF U F ([]:List α) [] []:=⟨[],[],rfl,rfl,fun i x vs l hx=>by simp at hx,rfl,rfl⟩
theorem RlF.snoc {α:Type} {U:PHeap} {F:Rf α} {xs:List α} {cs:List Value} {ls:List Nat} {x:α} {vs:List Value} {l:List Nat} (h:RlF U F xs cs ls) (g:F.f U x vs l):RlF U F (xs ++ [x]) (cs ++ vs) (ls ++ l):=by
 obtain ⟨vss,lss,h1,h2,h3,rfl,rfl⟩:=h
 refine ⟨vss ++ [vs],lss ++ [l],by simp [h1],by simp [h2],fun i y us m hy hu hm=>?_,by simp,by simp⟩
 rcases ny i xs.length with hi | hi
 ·rw [nl hi] at hy
  rw [nl (by omega)] at hu hm
  exact h3 i y us m hy hu hm
 ·have e:i=xs.length:=by
   have:=(nK.1 hy).1
   simp at this;omega
  subst e
  rw [nk (by omega)] at hy hu hm
  simp [h1,h2] at hy hu hm
  subst hy hu hm
  exact g
theorem RlF.el {α:Type} {lo U:PHeap} {F:Rf α} {xs:List α} {cs:List Value} {ls:List Nat} (h:RlF U F xs cs ls) (o:Ows lo U ls) {k:Nat} {x:α} (hx:xs[k]?=some x) :
  ∃ vs l,(∀ j v,vs[j]?=some v->cs[k * F.R.sz + j]?=some v)/\F.f U x vs l/\Ows lo U l/\(∀ b ∈ l,b ∈ ls)/\∀ β ∈ l,∀ U' x',PHeap.Le (U.del β) U'->F.f U' x' vs l->RlF U' F (xs.set k x') cs ls:=by
 obtain ⟨vss,lss,h1,h2,h3,rfl,rfl⟩:=h
 have hk:=(nK.1 hx).1
 have hv:vss[k]?=some (vss[k]'(by omega)):=nH (by omega)
 have hl:lss[k]?=some (lss[k]'(by omega)):=nH (by omega)
 have hlen:∀ vs ∈ vss,vs.length=F.R.sz:=fun vs hm=>by
  obtain ⟨i,hi⟩:=List.getElem?_of_mem hm
  have hlt:=(nK.1 hi).1
  exact F.R.len _ _ _ (F.fr _ _ _ _ (h3 i (xs[i]'(by omega)) vs (lss[i]'(by omega)) (nH (by omega)) hi (nH (by omega))))
 have own:∀ {i:Nat} {l:List Nat},lss[i]?=some l->Ows lo U l:=fun {i l} hi b=>⟨nf (wLi hi) (o b).1,fun hb=>(o b).2 (wEZ hi hb)⟩
 refine ⟨_,_,fun j v hj=>wEt hlen k j _ v hv hj,h3 k x _ _ hx hv hl,own hl,fun b hb=>wEZ hl hb,fun β hβ U' x' hle hf=>?_⟩
 refine ⟨vss,lss,by simp [h1],by simp [h2],fun i y us m hy hu hm=>?_,rfl,rfl⟩
 by_cases e:i=k
 ·subst e
  rw [List.getElem?_set_self (by omega)] at hy
  cases hy
  rw [hv] at hu;rw [hl] at hm
  cases hu;cases hm
  exact hf
 ·rw [List.getElem?_set_ne (fun h=>e h.symm)] at hy
  refine F.loc _ _ _ _ _ (h3 i y us m hy hu hm) ((own hm).keep hle fun hb=>e ?_)
  exact wKT (o β).1 hm hl hb hβ
def SlF {α:Type} (U:PHeap) (F:Rf α) (A:Option Addr) (c:Nat) (xs:List α) (ls:List Nat):Prop:=∃ cs l,Sl U F.R.sz A c xs.length cs/\RlF U F xs cs l/\ls=l ++ bks A
theorem SlF.toR {α:Type} {U:PHeap} {F:Rf α} {A:Option Addr} {c:Nat} {xs:List α} {ls:List Nat} (h:SlF U F A c xs ls):SlR U F.R A c xs:=by
 obtain ⟨cs,l,h1,h2,_⟩:=h
 exact ⟨cs,h1,h2.toL⟩
theorem SlF.up {α:Type} {U U':PHeap} {F:Rf α} {A:Option Addr} {c:Nat} {xs:List α} {ls:List Nat} (h:SlF U F A c xs ls) (e:∀ b ∈ ls,U' b=U b):SlF U' F A c xs ls:=by
 obtain ⟨cs,l,h1,h2,rfl⟩:=h
 exact ⟨cs,l,h1.at fun b hb=>e b (by simp [hb]),h2.up fun b hb=>e b (by simp [hb]),rfl⟩
theorem SlF.el {α:Type} {lo U:PHeap} {F:Rf α} {A:Option Addr} {c:Nat} {xs:List α} {ls:List Nat} (h:SlF U F A c xs ls) (o:Ows lo U ls) {k:Nat} {x:α} (hx:xs[k]?=some x) :
  ∃ b off vs l,A=some ⟨b,off,none⟩/\Cl U b (off + k * F.R.sz) vs/\F.f U x vs l/\Ows lo U l/\(∀ b ∈ l,b ∈ ls)/\∀ β ∈ l,∀ U' x',PHeap.Le (U.del β) U'->F.f U' x' vs l->SlF U' F A c (xs.set k x') ls:=by
 obtain ⟨cs,l0,h1,h2,rfl⟩:=h
 obtain ⟨vs,l,g1,g2,g3,g5,g4⟩:=h2.el o.left hx
 have hlt:=(nK.1 hx).1
 rcases h1.mem with h0 | ⟨b,off,arr,T,fr,hA,m2,m3⟩
 ·omega
 ·refine ⟨b,off,vs,l,hA,⟨arr,T,fr,m2,fun j v hj=>?_⟩,g2,g3,fun b hb=>by simp [g5 b hb],fun β hβ U' x' hle hf=>?_⟩
  ·have:=g1 j v hj
   rw [<- m3,kD] at this
   split at this
   ·rw [List.getElem?_drop] at this
    rw [show off + k * F.R.sz + j=off + (k * F.R.sz + j) from by omega]
    simpa using this
   ·cases this
  ·have hl:β ∈ l0:=g5 β hβ
   refine ⟨cs,l0,?_,g4 β hβ U' x' hle hf,rfl⟩
   rw [List.length_set]
   exact h1.at (o.right.keep hle fun hb=>o.apart ⟨hl,hb⟩)
def RowP (U:PHeap) (A:Option Addr) (c:Nat) (T:TypeId) (sz:Nat) (cs:List Value):Prop :=
 (A=none/\c=0/\cs=[]) \/ ∃ b cur,A=some ⟨b,0,none⟩/\U b=some (.cells cur T (0,0))/\cs.length <= c * sz/\c <= maxLen/\cur.size=c * sz/\cur.toList.take cs.length=cs
theorem RowP.at {U U':PHeap} {A:Option Addr} {c sz:Nat} {T:TypeId} {cs:List Value} (h:RowP U A c T sz cs) (e:∀ b ∈ bks A,U' b=U b):RowP U' A c T sz cs :=
 h.imp id fun ⟨b,cur,h1,h2,h3⟩=>⟨b,cur,h1,(e b (by rw [h1];simp [bks])).trans h2,h3⟩
theorem RowP.le {U U':PHeap} {A:Option Addr} {c sz:Nat} {T:TypeId} {cs:List Value} (h:RowP U A c T sz cs) (l:PHeap.Le U U'):RowP U' A c T sz cs :=
 h.imp id fun ⟨b,cur,h1,h2,h3⟩=>⟨b,cur,h1,l _ _ h2,h3⟩
theorem RowP.sl {U:PHeap} {A:Option Addr} {c sz n:Nat} {T:TypeId} {cs:List Value} (h:RowP U A c T sz cs) (hn:cs.length=n * sz) (hz:0 < sz):Sl U sz A c n cs:=by
 rcases h with ⟨rfl,rfl,rfl⟩ | ⟨b,cur,rfl,h1,h2,h3,h4,h5⟩
 ·have:n=0:=by
   simp only [kR] at hn
   rcases Nat.eq_zero_or_pos n with e | e
   ·exact e
   ·have:=kg e hz;omega
  subst this
  exact Sl.nil _ _ _ _
 ·refine ⟨hn,?_,.inr ⟨b,0,cur,T,(0,0),rfl,h1,?_⟩⟩
  ·rw [hn] at h2;exact nW h2 hz
  ·rw [<- hn];simpa using h5
theorem RowP.block {U:PHeap} {A:Option Addr} {c sz:Nat} {T:TypeId} {cs:List Value} (h:RowP U A c T sz cs) (hn:0 < cs.length):∃ b,A=some ⟨b,0,none⟩:=by
 rcases h with ⟨_,_,rfl⟩ | ⟨b,_,h,_⟩
 ·simp at hn
 ·exact ⟨b,h⟩
section
variable {B:Base} {U U':PHeap} {L:List Res} {w w':World}
theorem St.freezeRP (h:St B U L w) {k c T sz:Nat} {A:Option Addr} {cs:List Value} (hk:L[k]?=some (.row A c T sz cs)) :
  ∃ U',PHeap.Le U U'/\RowP U' A c T sz cs/\Ows U U' (bks A)/\St B U' (L.eraseIdx k) w:=by
 have hm:=nZ hk
 rcases h.at_ _ hm with ⟨rfl,rfl,rfl⟩ | ⟨b,cur,rfl,h1,h2⟩
 ·exact ⟨U,PHeap.Le.refl U,.inl ⟨rfl,rfl,rfl⟩,Ows.nil _ _,h.drop k⟩
 ·obtain ⟨U',g1,g2,g3⟩:=h.freezeB ⟨_,hk,rfl⟩
  have hn:=(h.own _ hm b rfl).1
  refine ⟨U',g1,.inr ⟨b,cur,rfl,g2.trans h1,h2⟩,fun x=>⟨by simp only [bks,List.count_cons,List.count_nil];split <;> omega,fun hx=>?_⟩,g3⟩
  simp only [bks,List.mem_singleton] at hx
  subst hx
  exact ⟨hn,_,g2.trans h1⟩
theorem St.thaw (h:St B U L w) {c T sz β:Nat} {cs:List Value} (hr:RowP U (some ⟨β,0,none⟩) c T sz cs) (hB:B.U β=none):St B (U.del β) (.row (some ⟨β,0,none⟩) c T sz cs :: L) w:=by
 rcases hr with ⟨hA,_,_⟩ | ⟨b,cur,hA,h1,h2⟩
 ·cases hA
 ·cases hA
  have hd:∀ x o,U.del β x=some o->U x=some o:=fun x o hx=>by
   unfold PHeap.del at hx
   split at hx
   ·cases hx
   ·exact hx
  have old:∀ s ∈ L,¬ s.has β:=fun s hs hb=>by have:=(h.own s hs β hb).1;rw [h1] at this;cases this
  refine ⟨h.os,h.tape,h.output,h.size,h.old,fun x o hx=>h.fro x o (hd x o hx),fun x o hx=>?_,fun x o hx=>h.src x o (hd x o hx),fun r hr=>?_,fun r hr x hx=>?_,fun i j r s x hi hj hr hs=>?_⟩
  ·have:=h.le x o hx
   unfold PHeap.del
   rw [if_neg (fun e=>by subst e;rw [hB] at hx;cases hx)]
   exact this
  ·rcases kG.1 hr with rfl | hr
   ·exact .inr ⟨β,cur,rfl,h.fro _ _ h1,h2⟩
   ·exact h.at_ r hr
  ·rcases kG.1 hr with rfl | hr
   ·cases hx
    refine ⟨by simp [PHeap.del],?_⟩
    rcases h.src _ _ h1 with e | e
    ·rw [hB] at e;cases e
    ·exact e
   ·have:=h.own r hr x hx
    refine ⟨?_,this.2⟩
    unfold PHeap.del
    split
    ·rfl
    ·exact this.1
  ·cases i with
   | zero =>
    cases j with
    | zero=>rfl
    | succ j =>
     simp at hi hj
     subst hi
     cases hr
     exact absurd hs (old s (nZ hj))
   | succ i =>
    cases j with
    | zero =>
     simp at hi hj
     subst hj
     cases hs
     exact absurd hr (old r (nZ hi))
    | succ j =>
     have:=h.dj i j r s x (by simpa using hi) (by simpa using hj) hr hs
     omega
end
def RlT {α:Type} (lo U:PHeap) (F:Rf α) (xs:List α) (cs:List Value):Prop:=∃ ls,RlF U F xs cs ls/\Ows lo U ls
theorem RlT.nil {α:Type} {lo U:PHeap} {F:Rf α}:RlT lo U F ([]:List α) []:=⟨[],RlF.nil,Ows.nil _ _⟩
theorem RlT.le {α:Type} {lo U U':PHeap} {F:Rf α} {xs:List α} {cs:List Value} (h:RlT lo U F xs cs) (l:PHeap.Le U U'):RlT lo U' F xs cs:=by
 obtain ⟨ls,h1,h2⟩:=h
 exact ⟨ls,h1.up (h2.stay l),h2.le l⟩
theorem RlT.low {α:Type} {lo lo' U:PHeap} {F:Rf α} {xs:List α} {cs:List Value} (h:RlT lo U F xs cs) (l:PHeap.Le lo' lo):RlT lo' U F xs cs:=by
 obtain ⟨ls,h1,h2⟩:=h
 exact ⟨ls,h1,h2.low l⟩
theorem RlT.toL {α:Type} {lo U:PHeap} {F:Rf α} {xs:List α} {cs:List Value} (h:RlT lo U F xs cs):RlL U F.R xs cs:=by
 obtain ⟨ls,h1,_⟩:=h
 exact h1.toL
theorem RlT.snoc {α:Type} {lo U lo' U':PHeap} {F:Rf α} {xs:List α} {cs:List Value} {x:α} {vs:List Value} {l:List Nat} (h:RlT lo U F xs cs) (g:F.f U' x vs l) (o:Ows lo' U' l) (a:PHeap.Le lo U) (b:PHeap.Le U lo') (c:PHeap.Le U U'):RlT lo U' F (xs ++ [x]) (cs ++ vs):=by
 obtain ⟨ls,h1,h2⟩:=h
 exact ⟨ls ++ l,(h1.up (h2.stay c)).snoc g,h2.cat o a b c⟩
section
variable {N:Nat} {P:Program} {l:List Oper} {Q:wCd} {D:List Deferred} {ks:List Nat} {σ:Env} {w:World} {i d:Nat} {s:Sch} {o:Oper} {B:Base} {U:PHeap} {L:List Res}
theorem OKS.appendRT {α:Type} {R:Rl α} {t e sz j c c2 bytes:Nat} {A A2:Option Addr} {inf:TypeInfo} {z:Value} {x y:Operand} {xs ys zs:List α} {cs ds:List Value}
  (ho:l[i]?=some o) (hd:o.dst=some d) (hN:nP d N=true) (hw:wanted l σ o=true) (hop:o.op=.call { callee:=.builtin .append,args:=#[x,y],argTypes:=#[t,t] })
  (ht:P.underlying t=some (.slice e)) (hi:P.info? e=some inf) (hz:inf.zero=some z) (hsize:inf.size=sz) (hzs:z.cells.size=sz) (hsz:nP 0 sz=true) (hby:inf.bytes=bytes) (hb0:nP 0 bytes=true) (hR:R.sz=sz)
  (hS:St B U L w) (hk:L[j]?=some (.row A c e sz cs)) (hx:ev σ x=.slice A xs.length c) (hy:ev σ y=.slice A2 ys.length c2) (hc:RlL U R xs cs) (hd':RlL U R ys ds)
  (hsrc:ys.length=0 \/ ∃ a,A2=some a/\∀ j u,ds[j]?=some u->w.cell? (a.add j)=some u) (happ:app bytes xs ys=some zs) (hne:wFO (kOf ks i)=false)
  (k:∀ A' c' w',St B U (L.set j (.row A' c' e sz (cs ++ ds))) w'->RlL U R zs (cs ++ ds)->zs=xs ++ ys->OKS N P l Q D ks s (upd σ d (.slice A' zs.length c')) w'):OKS N P l Q D ks (.fx i s .stop) σ w:=by
 obtain ⟨rfl,hb⟩:=wJY happ
 refine OKS.appendC (n:=xs.length) (m:=ys.length) (news:=ds) ho hd hN hw hop ht hi hz hsize hzs hsz hby hb0 hS hk hx (by rw [<- hR];exact hc.len) hy (by rw [<- hR];exact hd'.len) hsrc hd'.one hb hne ?_
 intro A' c' w' hS'
 have:=k A' c' w' hS' (hc.append hd') rfl
 rwa [ng] at this
end
end Go.KL
namespace Go.KX
open Go.RowKit Go.KL
structure Gh where
 N:Nat
 σ:Env
 t:List Nat
 ac:Code
 bc:Code
 rb:Nat
 fn:FuncId
def g0:Gh:=⟨0,fun _=>undef,[],.skip,.skip,0,0⟩
structure Cl where
 b:Nat
 c:Nat
 g:Gh
abbrev Mu:=Pos->Option Cl
mutual
def Rv (μ:Mu):AV->Value->Prop
 | .int k n,v=>v=.int k n
 | .bool b,v=>v=.bool b
 | .ptr b off,v=>∃ c,μ b=some c/\v=.pointer (some ⟨c.1,off,none⟩)
 | .pnil,v=>v=.pointer none
 | .sl b off n c,v=>∃ d,μ b=some d/\n <= c/\v=.slice (some ⟨d.1,off,none⟩) n c
 | .rw b eo co n,v=>∃ d,μ b=some d/\eo + n <= d.2/\v=.slice (some ⟨d.1,co,none⟩) n (d.2 - eo)
 | .rz b eo,v=>∃ d,μ b=some d/\∃ o,v=.slice (some ⟨d.1,o,none⟩) 0 (d.2 - eo)
 | .snil,v=>v=.slice none 0 0
 | .map b,v=>∃ c,μ b=some c/\v=.map (some c.1)
 | .mnil,v=>v=.map none
 | .fn f fi ca,v=>∃ fv cv,RvL μ fi fv/\RvL μ ca cv/\v=.func (.func (f.nat - 1)) fv.toArray cv.toArray
 | .yld b,v=>∃ c,μ b=some c/\v=.func (.yield c.1) #[] #[]
 | .fnil,v=>v=.nilFunc
 | .agg l,v=>∃ vs,RvL μ l vs/\v=.agg vs.toArray
 | .tup l,v=>∃ vs,RvL μ l vs/\v=.tuple vs.toArray
def RvL (μ:Mu):List AV->List Value->Prop
 | [],vs=>vs=[]
 | a :: l,vs=>∃ v ws,Rv μ a v/\RvL μ l ws/\vs=v :: ws
end
def Mu.Le (μ μ':Mu):Prop:=∀ p c,μ p=some c->μ' p=some c
theorem Mu.Le.refl (μ:Mu):μ.Le μ:=fun _ _ h=>h
theorem Mu.Le.trans {a b c:Mu} (h:a.Le b) (k:b.Le c):a.Le c:=fun p x hx=>k p x (h p x hx)
mutual
theorem Rv.mono {μ μ':Mu} (hm:μ.Le μ'):∀ {a:AV} {v:Value},Rv μ a v->Rv μ' a v
 | .int _ _,_,h=>h
 | .bool _,_,h=>h
 | .ptr _ _,_,⟨c,h1,h2⟩=>⟨c,hm _ _ h1,h2⟩
 | .pnil,_,h=>h
 | .sl _ _ _ _,_,⟨c,h1,h2⟩=>⟨c,hm _ _ h1,h2⟩
 | .rw _ _ _ _,_,⟨c,h1,h2⟩=>⟨c,hm _ _ h1,h2⟩
 | .rz _ _,_,⟨c,h1,h2⟩=>⟨c,hm _ _ h1,h2⟩
 | .snil,_,h=>h
 | .map _,_,⟨c,h1,h2⟩=>⟨c,hm _ _ h1,h2⟩
 | .mnil,_,h=>h
 | .fn _ _ _,_,⟨fv,cv,h1,h2,h3⟩=>⟨fv,cv,RvL.mono hm h1,RvL.mono hm h2,h3⟩
 | .yld _,_,⟨c,h1,h2⟩=>⟨c,hm _ _ h1,h2⟩
 | .fnil,_,h=>h
 | .agg _,_,⟨vs,h1,h2⟩=>⟨vs,RvL.mono hm h1,h2⟩
 | .tup _,_,⟨vs,h1,h2⟩=>⟨vs,RvL.mono hm h1,h2⟩
theorem RvL.mono {μ μ':Mu} (hm:μ.Le μ'):∀ {l:List AV} {vs:List Value},RvL μ l vs->RvL μ' l vs
 | [],_,h=>h
 | _ :: _,_,⟨v,ws,h1,h2,h3⟩=>⟨v,ws,Rv.mono hm h1,RvL.mono hm h2,h3⟩
end
theorem wFv {μ:Mu}:RvL μ [] []:=rfl
theorem wBM {μ:Mu} {a:AV} {l:List AV} {v:Value} {vs:List Value} (h:Rv μ a v) (h':RvL μ l vs):RvL μ (a :: l) (v :: vs):=⟨v,vs,h,h',rfl⟩
theorem wCV {μ:Mu}:∀ {l:List AV} {vs:List Value},RvL μ l vs->vs.length=l.length
 | [],_,h=>by cases h;rfl
 | _ :: _,_,⟨_,_,_,h2,h3⟩=>by subst h3;simp [wCV h2]
theorem wDN {μ:Mu}:∀ {l k:List AV} {vs ws:List Value},RvL μ l vs->RvL μ k ws->RvL μ (l ++ k) (vs ++ ws)
 | [],_,_,_,h,h'=>by cases h;exact h'
 | _ :: _,_,_,_,⟨v,ws,h1,h2,h3⟩,h'=>by subst h3;exact wBM h1 (wDN h2 h')
theorem wEF {μ:Mu}:∀ {l:List AV} {vs:List Value},RvL μ l vs->∀ {i:Nat} {a:AV},l[i]?=some a->∃ v,vs[i]?=some v/\Rv μ a v
 | [],_,_,i,a,hi=>by simp at hi
 | b :: l,_,⟨v,ws,h1,h2,h3⟩,i,a,hi=>by
  subst h3
  cases i with
  | zero=>simp at hi;subst hi;exact ⟨v,rfl,h1⟩
  | succ i=>simpa using wEF h2 (i:=i) (by simpa using hi)
theorem wHJ {μ:Mu}:∀ {l:List AV} {vs:List Value} (n:Nat),RvL μ l vs->RvL μ (l.drop n) (vs.drop n)
 | _,_,0,h=>h
 | [],_,n + 1,h=>by cases h;exact rfl
 | _ :: _,_,n + 1,⟨_,_,_,h2,h3⟩=>by subst h3;exact wHJ n h2
theorem wHK {μ:Mu}:∀ {l:List AV} {vs:List Value} (n:Nat),RvL μ l vs->RvL μ (l.take n) (vs.take n)
 | _,_,0,_=>rfl
 | [],_,n + 1,h=>by cases h;exact rfl
 | _ :: _,_,n + 1,⟨_,_,h1,h2,h3⟩=>by subst h3;exact wBM h1 (wHK n h2)
theorem wFw {μ:Mu} {l:List AV} {vs:List Value} (h:RvL μ l vs):∀ n,RvL μ (rep n l) (nS n vs).flatten
 | 0=>rfl
 | n + 1=>by rw [List.replicate_succ,kJ];exact wDN h (wFw h n)
section
variable {α:Type}
theorem wFL:∀ (l:List α) (n:Nat),nth l n=l[n]?
 | [],_=>rfl
 | _ :: _,0=>rfl
 | _ :: l,n + 1=>by show nth l n=_;rw [wFL l n];simp
theorem wDj:∀ (l:List α),len l=l.length
 | []=>rfl
 | _ :: l=>by show Nat.succ (len l)=_;rw [wDj l];rfl
theorem wEv {a:α} {o:Option (List α)} {r:List α} (h:wId a o=some r):∃ r',o=some r'/\r=a :: r':=by
 cases o with
 | none=>cases h
 | some r'=>cases h;exact ⟨r',rfl,rfl⟩
theorem wIt:∀ {l:List α} {n:Nat} {r:List α},tk l n=some r->r=l.take n/\n <= l.length
 | [],0,r,h=>by cases h;simp
 | [],n + 1,r,h=>by cases h
 | a :: l,0,r,h=>by cases h;simp
 | a :: l,n + 1,r,h=>by
  obtain ⟨r',h1,rfl⟩:=wEv (show wId a (tk l n)=some r from h)
  obtain ⟨h2,h3⟩:=wIt h1
  simp [h2,h3]
theorem wJb:∀ {l:List α} {off n:Nat} {r:List α},sub l off n=some r->r=(l.drop off).take n/\off + n <= l.length
 | [],0,n,r,h=>by have:=wIt (l:=[]) (n:=n) h;simpa using this
 | [],off + 1,n,r,h=>by cases h
 | a :: l,0,n,r,h=>by have:=wIt (l:=a :: l) (n:=n) h;simpa using this
 | a :: l,off + 1,n,r,h=>by
  obtain ⟨h1,h2⟩:=wJb (show sub l off n=some r from h)
  exact ⟨by simpa using h1,by simp;omega⟩
theorem wIu:∀ {l vs r:List α},ov l vs=some r->vs.length <= l.length/\r=vs ++ l.drop vs.length
 | [],[],r,h=>by cases h;simp
 | [],v :: vs,r,h=>by cases h
 | a :: l,[],r,h=>by cases h;simp
 | a :: l,v :: vs,r,h=>by
  obtain ⟨r',h1,rfl⟩:=wEv (show wId v (ov l vs)=some r from h)
  obtain ⟨h2,h3⟩:=wIu h1
  subst h3
  exact ⟨by simpa using h2,by simp⟩
theorem wIB:∀ {l:List α} {off:Nat} {vs r:List α},wOR l off vs=some r->off + vs.length <= l.length/\r=l.take off ++ vs ++ l.drop (off + vs.length)
 | [],0,vs,r,h=>by have:=wIu (l:=[]) h;simp at this;simp [this]
 | [],off + 1,vs,r,h=>by cases h
 | a :: l,0,vs,r,h=>by have:=wIu (l:=a :: l) h;simp at this;simp [this]
 | a :: l,off + 1,vs,r,h=>by
  obtain ⟨r',h1,rfl⟩:=wEv (show wId a (wOR l off vs)=some r from h)
  obtain ⟨h2,h3⟩:=wIB h1
  subst h3
  refine ⟨by simp;omega,?_⟩
  rw [show off + 1 + vs.length=(off + vs.length) + 1 from by omega]
  simp
end
theorem wLj:∀ (vs l:List Value) (off:Nat),off + vs.length <= l.length->wES l off vs=l.take off ++ vs ++ l.drop (off + vs.length)
 | [],l,off,_=>by simp [wES]
 | v :: vs,l,off,h=>by
  simp only [List.length_cons] at h
  have hlt:off < l.length:=by omega
  rw [wES,wLj vs (l.set off v) (off + 1) (by simp;omega)]
  have h1:(l.set off v).take (off + 1)=l.take off ++ [v]:=by
   rw [List.take_set,List.take_add_one,nH hlt]
   rw [List.set_append_right _ _ (by simp;omega)]
   simp [Nat.min_eq_left (Nat.le_of_lt hlt)]
  rw [h1,List.drop_set_of_lt (by omega)]
  rw [show off + 1 + vs.length=off + (v :: vs).length from by simp;omega]
  simp
theorem wHL {μ:Mu} {l vs r:List AV} {L V:List Value} {off:Nat} (h:wOR l off vs=some r) (hl:RvL μ l L) (hv:RvL μ vs V):off + V.length <= L.length/\RvL μ r (wES L off V):=by
 obtain ⟨h1,rfl⟩:=wIB h
 have e1:=wCV hl
 have e2:=wCV hv
 have h2:off + V.length <= L.length:=by omega
 refine ⟨h2,?_⟩
 rw [wLj V L off h2,e2]
 exact wDN (wDN (wHK off hl) hv) (wHJ _ hl)
theorem wEG {μ:Mu} {l r:List AV} {L:List Value} {off n:Nat} (h:sub l off n=some r) (hl:RvL μ l L):RvL μ r ((L.drop off).take n)/\off + n <= L.length:=by
 obtain ⟨rfl,h1⟩:=wJb h
 have e1:=wCV hl
 exact ⟨wHK n (wHJ off hl),by omega⟩
theorem wQK {μ:Mu} {a:AV} {v:Value} (h:Rv μ a v) (h1:a.one=true):one v=true:=by
 cases a <;> simp only [Rv] at h <;> first | (cases h1;done) | (subst h;rfl) | (obtain ⟨_,_,_,_,_,rfl⟩:=h;rfl) | (obtain ⟨_,_,_,_,rfl⟩:=h;rfl) | (obtain ⟨_,_,_,rfl⟩:=h;rfl) | (obtain ⟨_,_,rfl⟩:=h;rfl)
theorem wDO {μ:Mu}:∀ {l:List AV} {vs:List Value},RvL μ l vs->wOS l=true->∀ v ∈ vs,one v=true
 | [],_,h,_=>by cases h;simp
 | a :: l,_,⟨v,ws,h1,h2,h3⟩,ho=>by
  subst h3
  have ho:(a.one && wOS l)=true:=ho
  rw [hH] at ho
  intro u hu
  rcases kG.1 hu with rfl | hu
  ·exact wQK h1 ho.1
  ·exact wDO h2 ho.2 u hu
theorem wFX {μ:Mu} {a:AV} {v:Value} (h:Rv μ a v):∃ vs,RvL μ a.cells vs/\v.cells=vs.toArray:=by
 cases a with
 | agg l=>obtain ⟨vs,h1,rfl⟩:=h;exact ⟨vs,h1,rfl⟩
 | tup l=>obtain ⟨vs,h1,rfl⟩:=h;exact ⟨[_],wBM ⟨vs,h1,rfl⟩ wFv,rfl⟩
 | _ =>
  refine ⟨[v],wBM h wFv,?_⟩
  simp only [Rv] at h
  first | (subst h;rfl) | (obtain ⟨_,_,_,_,_,rfl⟩:=h;rfl) | (obtain ⟨_,_,_,_,rfl⟩:=h;rfl) | (obtain ⟨_,_,_,rfl⟩:=h;rfl) | (obtain ⟨_,_,rfl⟩:=h;rfl)
end Go.KX
namespace Go.KX
noncomputable section
open Go.RowKit Go.KL
def EnvR (μ:Mu) (σA:Tr AV) (σ:Env):Prop:=∀ p:Pos,Rv μ (evA σA (.t p)) (σ (p.nat - 1))
theorem wIv (σA:Tr AV) (p:Pos):evA σA (.t p)=(σA.get p).getD u:=by
 show Option.rec (motive:=fun _=>AV) u (fun v=>v) (σA.get p)=_
 cases σA.get p <;> rfl
theorem EnvR.mono {μ μ':Mu} {σA:Tr AV} {σ:Env} (h:EnvR μ σA σ) (hm:μ.Le μ'):EnvR μ' σA σ:=fun p=>(h p).mono hm
theorem EnvR.put {μ:Mu} {σA:Tr AV} {σ:Env} (h:EnvR μ σA σ) {p:Pos} {a:AV} {v:Value} (hv:Rv μ a v):EnvR μ (σA.set p a) (upd σ (p.nat - 1) v):=by
 intro q
 rw [wIv,Tr.get_set]
 by_cases e:q=p
 ·subst e;rw [if_pos rfl,wBg];exact hv
 ·rw [if_neg e,wBe,<- wIv]
  ·exact h q
  ·intro e2
   have:=p.nat_pos;have:=q.nat_pos
   exact e (Pos.nat_inj (by omega))
theorem wLk (μ:Mu):Rv μ u undef:=⟨[],rfl,rfl⟩
theorem wJc {μ:Mu}:∀ {args:List AV} {vs:List Value},RvL μ args vs->∀ {p:Pos} {t:Tr AV} {σ σ':Env},EnvR μ t σ->(∀ i,i < p.nat - 1->σ' i=σ i)->(∀ j v,vs[j]?=some v->σ' (p.nat - 1 + j)=v) ->
  (∀ i,p.nat - 1 + vs.length <= i->σ' i=σ i)->EnvR μ (wKS args p t) σ'
 | [],_,h,p,t,σ,σ',hE,h1,_,h3=>by
  cases h
  intro q
  have:=hE q
  by_cases e:q.nat - 1 < p.nat - 1
  ·rw [h1 _ e];exact this
  ·rw [h3 _ (by simp;omega)];exact this
 | a :: l,_,⟨v,ws,h1,h2,h3⟩,p,t,σ,σ',hE,g1,g2,g3=>by
  subst h3
  have hp:=p.nat_pos
  refine wJc h2 (p:=p.succ) (hE.put (p:=p) h1) ?_ ?_ ?_
  ·intro i hi
   rw [Pos.nat_succ] at hi
   by_cases e:i=p.nat - 1
   ·subst e;rw [wBg];exact g2 0 v rfl
   ·rw [wBe _ _ e];exact g1 i (by omega)
  ·intro j x hx
   rw [Pos.nat_succ]
   have:=g2 (j + 1) x (by simpa using hx)
   rw [<- this];congr 1;omega
  ·intro i hi
   rw [Pos.nat_succ] at hi
   rw [wBe _ _ (by omega)]
   exact g3 i (by simp;omega)
theorem wOY {μ:Mu} {args:List AV} {vs:List Value} (h:RvL μ args vs):EnvR μ (wKS args .H .e) (wNn vs):=by
 have h0:EnvR μ .e (fun _=>undef):=by intro p;rw [wIv,Tr.get_e];exact wLk μ
 refine wJc h (p:=.H) h0 (fun i hi=>by simp [Pos.nat] at hi) (fun j v hv=>?_) (fun i hi=>?_)
 ·simp [wNn,Pos.nat,hv]
 ·simp only [Pos.nat] at hi
  simp [wNn,nv (by omega:vs.length <= i)]
mutual
def okc:AV->Value->Bool
 | .int k n,.int k' n'=>keq k k' && zeq n n'
 | .bool b,.bool b'=>b == b'
 | .pnil,.pointer none=>true
 | .snil,.slice none 0 0=>true
 | .mnil,.map none=>true
 | .fnil,.nilFunc=>true
 | .agg l,.agg vs=>wNE l vs.toList
 | .tup l,.tuple vs=>wNE l vs.toList
 | _,_=>false
def wNE:List AV->List Value->Bool
 | [],[]=>true
 | a :: l,v :: vs=>okc a v && wNE l vs
 | _,_=>false
end
theorem wJd:∀ {a b:Int},zeq a b=true ↔ a=b
 | .ofNat a,.ofNat b=>by simp [zeq];omega
 | .negSucc a,.negSucc b=>by simp [zeq]
 | .ofNat a,.negSucc b=>by simp [zeq]
 | .negSucc a,.ofNat b=>by simp [zeq]
theorem wDP (a b:Int):zeq a b=decide (a=b):=by
 by_cases h:a=b
 ·rw [wJd.2 h];simp [h]
 ·have:zeq a b ≠ true:=fun e=>h (wJd.1 e)
  simp [h,kK.2 this]
theorem wFx:∀ (a b:Int),zlt a b=decide (a < b)
 | .ofNat a,.ofNat b=>by
  simp only [zlt,na,Int.ofNat_lt]
  by_cases h:a < b
  ·simp [h,nD]
  ·simp [h,kK,nD]
 | .negSucc a,.negSucc b=>by
  simp only [zlt,kA]
  by_cases h:b < a
  ·have h2:-((a:Int) + 1) < -((b:Int) + 1):=by omega
   simp [h2,nD];exact h
  ·have h2:¬ -((a:Int) + 1) < -((b:Int) + 1):=by omega
   simp [h2,kK,nD];omega
 | .ofNat a,.negSucc b=>by
  simp only [zlt,kA,na]
  have h2:¬ (a:Int) < -((b:Int) + 1):=by omega
  simp [h2]
 | .negSucc a,.ofNat b=>by
  simp only [zlt,kA,na]
  have h2:-((a:Int) + 1) < (b:Int):=by omega
  simp [h2]
theorem wLl (a b:Int):zle a b=decide (a <= b):=by
 rw [zle,wFx]
 by_cases h:a <= b
 ·simp [h,Int.not_lt.2 h]
 ·simp [h,Int.not_le.1 h]
theorem wBQ {a b:IntKind} (h:keq a b=true):a=b:=by cases a <;> cases b <;> first | rfl | cases h
mutual
theorem wLm (μ:Mu):∀ {a:AV} {v:Value},okc a v=true->Rv μ a v
 | .int k n,v,h=>by
  cases v <;> simp only [okc,hH,nQ] at h
  rw [wBQ h.1,wJd.1 h.2];rfl
 | .bool b,v,h=>by
  cases v <;> simp only [okc,beq_iff_eq,nQ] at h
  subst h;rfl
 | .pnil,v,h=>by
  unfold okc at h
  split at h <;> first | rfl | (exfalso;simp_all;done) | simp_all [Rv]
 | .snil,v,h=>by
  unfold okc at h
  split at h <;> first | rfl | (exfalso;simp_all;done) | simp_all [Rv]
 | .mnil,v,h=>by
  unfold okc at h
  split at h <;> first | rfl | (exfalso;simp_all;done) | simp_all [Rv]
 | .fnil,v,h=>by
  cases v <;> simp only [okc,nQ] at h
  rfl
 | .agg l,v,h=>by
  cases v <;> simp only [okc,nQ] at h
  exact ⟨_,wEw μ h,by simp⟩
 | .tup l,v,h=>by
  cases v <;> simp only [okc,nQ] at h
  exact ⟨_,wEw μ h,by simp⟩
 | .ptr _ _,v,h=>by simp [okc] at h
 | .sl _ _ _ _,v,h=>by simp [okc] at h
 | .rw _ _ _ _,v,h=>by simp [okc] at h
 | .rz _ _,v,h=>by simp [okc] at h
 | .map _,v,h=>by simp [okc] at h
 | .fn _ _ _,v,h=>by simp [okc] at h
 | .yld _,v,h=>by simp [okc] at h
theorem wEw (μ:Mu):∀ {l:List AV} {vs:List Value},wNE l vs=true->RvL μ l vs
 | [],[],_=>rfl
 | a :: l,v :: vs,h=>by
  simp only [wNE,hH] at h
  exact wBM (wLm μ h.1) (wEw μ h.2)
 | [],_ :: _,h=>by simp [wNE] at h
 | _ :: _,[],h=>by simp [wNE] at h
end
def wBm:AOd->Operand->Bool
 | .t p,.tmp t=>nB p.nat (t + 1)
 | .c a,.const v=>okc a v
 | .c (.fn f [] []),.func g=>nB f.nat (g + 1)
 | _,_=>false
def wIC:List AOd->List Operand->Bool
 | [],[]=>true
 | x :: l,y :: k=>wBm x y && wIC l k
 | _,_=>false
theorem wAJ {μ:Mu} {σA:Tr AV} {σ:Env} {x:AOd} {y:Operand} (h:wBm x y=true) (hE:EnvR μ σA σ):Rv μ (evA σA x) (ev σ y):=by
 unfold wBm at h
 split at h
 ·rename_i p t
  have:=nA h
  have h2:=hE p
  rw [this] at h2
  exact h2
 ·exact wLm μ h
 ·rename_i f g
  have:=nA h
  exact ⟨[],[],rfl,rfl,by show Value.func (.func g) #[] #[]=_;rw [this];rfl⟩
 ·cases h
theorem wFY {μ:Mu} {σA:Tr AV} {σ:Env}:∀ {l:List AOd} {k:List Operand},wIC l k=true->EnvR μ σA σ->RvL μ (evs σA l) (k.map (ev σ))
 | [],[],_,_=>rfl
 | x :: l,y :: k,h,hE=>by
  simp only [wIC,hH] at h
  exact wBM (wAJ h.1 hE) (wFY h.2 hE)
 | [],_ :: _,h,_=>by simp [wIC] at h
 | _ :: _,[],h,_=>by simp [wIC] at h
def MR {K:Type} (μ:Mu) (l:List (K × AV)) (t:List (K × Value)):Prop:=l.map (·.1)=t.map (·.1)/\RvL μ (l.map (·.2)) (t.map (·.2))
def mk2 (k:IntKind) (x:Int × Int):Value:=.agg #[.int k x.1,.int k x.2]
def exC:Ex->Exit
 | .nrm=>.normal
 | .exit i=>.exit i
 | .ret=>.ret
def lsC:LS->LoopState × Option Code
 | .ready=>(.ready,none)
 | .busy=>(.busy,none)
 | .done .ret=>(.done,some .ret)
 | .done (.exit i)=>(.done,some (.exit i))
 | .done .nrm=>(.ready,none)
abbrev Chk:=AC->Code->Nat->Prop
structure wKU (C:Chk) (μ:Mu) (w:World) (c:Cl) (σA:Tr AV) (t:List Pos) (asg body:AC) (s:LS):Prop where
 at_:LoopAt w c.1 c.g.N c.g.σ c.g.t c.g.ac c.g.bc c.g.rb c.g.fn (lsC s).1 (lsC s).2
 env:EnvR μ σA c.g.σ
 ht:t.map Pos.nat=c.g.t.map (· + 1)
 tN:∀ x ∈ c.g.t,x < c.g.N
 asg:C asg c.g.ac c.g.N
 body:C body c.g.bc c.g.N
def AbR (C:Chk) (P:Program) (μ:Mu) (w:World) (c:Cl):AB->Prop
 | .cells T l=>∃ vs,RvL μ l vs/\Blk w c.1 T vs
 | .row T sz l=>∃ vs,RvL μ l vs/\RowAt w (some ⟨c.1,0,none⟩) c.2 T sz vs
 | .map0=>∃ ck,w.heap[c.1]?=some (.map #[] ck)
 | .mapI k l=>∃ es ck t,w.heap[c.1]?=some (.map es ck)/\MpR es (fun n:Int=>kE k n) id t/\MR μ l t
 | .map2 k l=>∃ es ck t,w.heap[c.1]?=some (.map es ck)/\MpR es (mk2 k) id t/\MR μ l t
 | .loop σA t asg body s=>wKU C μ w c σA t asg body s
 | .dead=>True
def wKV:AB->Prop
 | .dead=>False
 | _=>True
variable {C:Chk} {P:Program} {μ μ' μ'':Mu} {w w' w'':World} {h h' h'':AH}
theorem MR.mono {K:Type} {l:List (K × AV)} {t:List (K × Value)} (h:MR μ l t) (hm:μ.Le μ'):MR μ' l t:=⟨h.1,h.2.mono hm⟩
theorem AbR.mono {c:Cl} {B:AB} (h:AbR C P μ w c B) (hm:μ.Le μ'):AbR C P μ' w c B:=by
 cases B with
 | cells T l=>obtain ⟨vs,h1,h2⟩:=h;exact ⟨vs,h1.mono hm,h2⟩
 | row T sz l=>obtain ⟨vs,h1,h2⟩:=h;exact ⟨vs,h1.mono hm,h2⟩
 | map0=>exact h
 | mapI k l=>obtain ⟨es,ck,t,h1,h2,h3⟩:=h;exact ⟨es,ck,t,h1,h2,h3.mono hm⟩
 | map2 k l=>obtain ⟨es,ck,t,h1,h2,h3⟩:=h;exact ⟨es,ck,t,h1,h2,h3.mono hm⟩
 | loop σA t asg body s=>exact ⟨h.at_,h.env.mono hm,h.ht,h.tN,h.asg,h.body⟩
 | dead=>trivial
theorem AbR.keep {c:Cl} {B:AB} {X:Nat->Prop} (h:AbR C P μ w c B) (k:Keep w w' X) (hx:¬ X c.1):AbR C P μ w' c B:=by
 cases B with
 | cells T l=>obtain ⟨vs,h1,h2⟩:=h;exact ⟨vs,h1,h2.keep k hx⟩
 | row T sz l =>
  obtain ⟨vs,h1,h2⟩:=h
  refine ⟨vs,h1,?_⟩
  obtain ⟨cur,h3,h4⟩:=RowAt.cells h2
  exact .inr ⟨c.1,cur,rfl,(k.block _ (wAQ h3) hx).trans h3,h4⟩
 | map0=>obtain ⟨ck,h1⟩:=h;exact ⟨ck,(k.block _ (wAQ h1) hx).trans h1⟩
 | mapI _ l=>obtain ⟨es,ck,t,h1,h2⟩:=h;exact ⟨es,ck,t,(k.block _ (wAQ h1) hx).trans h1,h2⟩
 | map2 _ l=>obtain ⟨es,ck,t,h1,h2⟩:=h;exact ⟨es,ck,t,(k.block _ (wAQ h1) hx).trans h1,h2⟩
 | loop σA t asg body s=>exact ⟨h.at_.keep k hx,h.env,h.ht,h.tN,h.asg,h.body⟩
 | dead=>trivial
def img (μ:Mu) (fl:Nat) (c:Nat):Prop:=∃ p d,μ p=some d/\d.1=c/\fl <= p.nat
structure Ext (μ:Mu) (fl:Nat) (w:World) (μ':Mu) (w':World):Prop where
 mono:μ.Le μ'
 new:∀ p c,μ' p=some c->μ p=some c \/ img μ fl c.1 \/ w.heap.size <= c.1
 keep:Keep w w' (img μ fl)
theorem Ext.refl (μ:Mu) (fl:Nat) (w:World):Ext μ fl w μ w:=⟨Mu.Le.refl μ,fun _ _ h=>.inl h,Keep.refl w _⟩
theorem Ext.img {fl:Nat} {c:Nat} (E:Ext μ fl w μ' w') (hi:img μ' fl c):KX.img μ fl c \/ w.heap.size <= c:=by
 obtain ⟨p,d,h1,rfl,h2⟩:=hi
 rcases E.new p _ h1 with h3 | h3 | h3
 ·exact .inl ⟨p,d,h3,rfl,h2⟩
 ·exact .inl h3
 ·exact .inr h3
theorem Ext.trans {fl:Nat} (E:Ext μ fl w μ' w') (E':Ext μ' fl w' μ'' w''):Ext μ fl w μ'' w'':=by
 refine ⟨E.mono.trans E'.mono,fun p c hp=>?_,E.keep.step E'.keep fun i hi hm=>?_⟩
 ·rcases E'.new p c hp with h1 | h1 | h1
  ·exact E.new p c h1
  ·exact .inr (E.img h1)
  ·exact .inr (.inr (nf E.keep.size h1))
 ·rcases E.img hm with h1 | h1
  ·exact h1
  ·omega
structure Sim (C:Chk) (P:Program) (μ:Mu) (h:AH) (w:World):Prop where
 nx:∀ p,h.nx.nat <= p.nat->μ p=none
 lt:∀ p c,μ p=some c->c.1 < w.heap.size
 inj:∀ p q a b c d,h.m.get p=some a->h.m.get q=some b->wKV a->wKV b->μ p=some c->μ q=some d->c.1=d.1->p=q
 at_:∀ p b,h.m.get p=some b->∃ c,μ p=some c/\AbR C P μ w c b
theorem Sim.keep (S:Sim C P μ h w) (k:Keep w w' Non):Sim C P μ h w' :=
 ⟨S.nx,fun p c hp=>no (S.lt p c hp) k.size,S.inj,fun p b hb=>let ⟨c,h1,h2⟩:=S.at_ p b hb;⟨c,h1,h2.keep k id⟩⟩
theorem Sim.floor (S:Sim C P μ h w) (f:Pos):Sim C P μ ⟨h.m,h.nx,f⟩ w:=⟨S.nx,S.lt,S.inj,S.at_⟩
theorem Sim.non (S:Sim C P μ h w) (E:Ext μ h.nx.nat w μ' w') (fl:Nat):Keep w w' Non/\Ext μ fl w μ' w':=by
 have hn:∀ c,¬ img μ h.nx.nat c:=fun c ⟨p,k,h1,_,h2⟩=>by rw [S.nx p h2] at h1;cases h1
 refine ⟨E.keep.weak fun i _ hi=>hn i hi,E.mono,fun p c hp=>?_,E.keep.weak fun i _ hi=>(hn i hi).elim⟩
 rcases E.new p c hp with h1 | h1 | h1
 ·exact .inl h1
 ·exact (hn _ h1).elim
 ·exact .inr (.inr h1)
theorem wHM {h h':AH} {p:Pos} {B:AB} (hp:h.put p B=some h'):h.fl.nat <= p.nat/\h'=⟨h.m.set p B,h.nx,h.fl⟩:=by
 unfold AH.put at hp
 split at hp
 ·cases hp
 ·rename_i hf
  cases hp
  refine ⟨?_,rfl⟩
  rcases ny p.nat h.fl.nat with hlt | hge
  ·rw [(Pos.ltb_iff p h.fl false).2 (.inl hlt)] at hf;cases hf
  ·exact hge
theorem Sim.put {p:Pos} {B B':AB} {c:Cl} (S:Sim C P μ h w) (hp:h.put p B'=some h') (hB:h.m.get p=some B) (hl:wKV B) (hc:μ p=some c) (K:Keep w w' (·=c.1)) (hB':AbR C P μ w' c B') :
  Sim C P μ h' w'/\Ext μ h.fl.nat w μ w'/\h'.fl=h.fl:=by
 obtain ⟨hf,rfl⟩:=wHM hp
 refine ⟨⟨S.nx,fun p c hp=>no (S.lt p c hp) K.size,?_,?_⟩,⟨Mu.Le.refl μ,fun _ _ h=>.inl h,K.weak fun i _ e=>⟨p,c,hc,e.symm,hf⟩⟩,rfl⟩
 ·intro q r a b d e hq hr la lb hd he hde
  simp only [Tr.get_set] at hq hr
  split at hq <;> split at hr
  ·rename_i h1 h2;rw [h1,h2]
  ·rename_i h1 h2;exact (S.inj q r B b d e (h1 ▸ hB) hr hl lb hd he hde)
  ·rename_i h1 h2;exact (S.inj q r a B d e hq (h2 ▸ hB) la hl hd he hde)
  ·exact S.inj q r a b d e hq hr la lb hd he hde
 ·intro q b hq
  simp only [Tr.get_set] at hq
  split at hq
  ·rename_i h1;subst h1;cases hq;exact ⟨c,hc,hB'⟩
  ·rename_i h1
   obtain ⟨d,h2,h3⟩:=S.at_ q b hq
   refine ⟨d,h2,?_⟩
   by_cases lb:wKV b
   ·exact h3.keep K fun e=>h1 (S.inj q p b B d c hq hB lb hl h2 hc e)
   ·cases b <;> first | trivial | exact (lb trivial).elim
def Mu.add (μ:Mu) (p:Pos) (c:Cl):Mu:=fun q=>if q=p then some c else μ q
theorem Mu.add_le {p:Pos} {c:Cl} (hn:μ p=none):μ.Le (μ.add p c):=by
 intro q d hq
 unfold Mu.add
 by_cases e:q=p
 ·subst e;rw [hn] at hq;cases hq
 ·rw [if_neg e];exact hq
theorem Mu.add_same (μ:Mu) (p:Pos) (c:Cl):μ.add p c p=some c:=by simp [Mu.add]
theorem Sim.push {c:Cl} {B:AB} (S:Sim C P μ h w) (K:Keep w w' Non) (hc:w.heap.size <= c.1) (hlt:c.1 < w'.heap.size) (hB:AbR C P (μ.add h.nx c) w' c B) :
  Sim C P (μ.add h.nx c) (h.push B) w'/\Ext μ h.fl.nat w (μ.add h.nx c) w'/\(h.push B).fl=h.fl/\(μ.add h.nx c) h.nx=some c:=by
 have hn:=S.nx h.nx (nG _)
 have hle:=Mu.add_le (c:=c) hn
 refine ⟨⟨?_,?_,?_,?_⟩,⟨hle,?_,K.weak fun _ _ h=>h.elim⟩,rfl,Mu.add_same _ _ _⟩
 ·intro p hp
  have hp:h.nx.succ.nat <= p.nat:=hp
  rw [Pos.nat_succ] at hp
  unfold Mu.add
  rw [if_neg (fun e=>by subst e;omega)]
  exact S.nx p (by omega)
 ·intro p d hd
  unfold Mu.add at hd
  split at hd
  ·cases hd;exact hlt
  ·exact no (S.lt p d hd) K.size
 ·intro p q a b d e hp hq la lb hd he hde
  simp only [AH.push,Tr.get_set] at hp hq
  unfold Mu.add at hd he
  split at hd <;> split at he
  ·rename_i h1 h2;rw [h1,h2]
  ·cases hd;have:=S.lt _ _ he;omega
  ·cases he;have:=S.lt _ _ hd;omega
  ·rename_i h1 h2
   rw [if_neg h1] at hp
   rw [if_neg h2] at hq
   exact S.inj p q a b d e hp hq la lb hd he hde
 ·intro p b hb
  simp only [AH.push,Tr.get_set] at hb
  split at hb
  ·rename_i h1;subst h1;cases hb;exact ⟨c,Mu.add_same _ _ _,hB⟩
  ·obtain ⟨d,h2,h3⟩:=S.at_ p b hb
   exact ⟨d,hle _ _ h2,(h3.mono hle).keep K id⟩
 ·intro p d hd
  unfold Mu.add at hd
  split at hd
  ·cases hd;exact .inr (.inr hc)
  ·exact .inl hd
theorem Sim.move {p:Pos} {B B':AB} {c d:Cl} (S:Sim C P μ h w) (hp:h.put p .dead=some h') (hB:h.m.get p=some B) (hl:wKV B) (hc:μ p=some c) (K:Keep w w' (·=c.1)) (hd:d.1=c.1 \/ w.heap.size <= d.1) (hlt:d.1 < w'.heap.size)
  (hB':AbR C P (μ.add h.nx d) w' d B'):Sim C P (μ.add h.nx d) (h'.push B') w'/\Ext μ h.fl.nat w (μ.add h.nx d) w'/\(h'.push B').fl=h.fl/\(μ.add h.nx d) h.nx=some d:=by
 obtain ⟨hf,rfl⟩:=wHM hp
 have hn:=S.nx h.nx (nG _)
 have hle:=Mu.add_le (c:=d) hn
 have hpn:p ≠ h.nx:=fun e=>by rw [e,hn] at hc;cases hc
 refine ⟨⟨?_,?_,?_,?_⟩,⟨hle,?_,K.weak fun i _ e=>⟨p,c,hc,e.symm,hf⟩⟩,rfl,Mu.add_same _ _ _⟩
 ·intro q hq
  have hq:h.nx.succ.nat <= q.nat:=hq
  rw [Pos.nat_succ] at hq
  unfold Mu.add
  rw [if_neg (fun e=>by subst e;omega)]
  exact S.nx q (by omega)
 ·intro q e he
  unfold Mu.add at he
  split at he
  ·cases he;exact hlt
  ·exact no (S.lt q e he) K.size
 ·have key:∀ q b e,q ≠ h.nx->((h.m.set p .dead).set h.nx B').get q=some b->wKV b->(μ.add h.nx d) q=some e->e.1 ≠ d.1:=by
   intro q b e hq hb lb he hed
   simp only [Tr.get_set,if_neg hq] at hb
   unfold Mu.add at he
   rw [if_neg hq] at he
   split at hb
   ·cases hb;exact lb
   ·rename_i hqp
    rcases hd with h1 | h1
    ·exact hqp (S.inj q p b B e c hb hB lb hl he hc (hed.trans h1))
    ·have:=S.lt _ _ he;omega
  intro q r a b e f hq hr la lb he hf hef
  by_cases e1:q=h.nx <;> by_cases e2:r=h.nx
  ·rw [e1,e2]
  ·subst e1;rw [Mu.add_same] at he;cases he;exact absurd hef.symm (key r b f e2 hr lb hf)
  ·subst e2;rw [Mu.add_same] at hf;cases hf;exact absurd hef (key q a e e1 hq la he)
  ·simp only [AH.push,Tr.get_set,if_neg e1,if_neg e2] at hq hr
   unfold Mu.add at he hf
   rw [if_neg e1] at he
   rw [if_neg e2] at hf
   split at hq
   ·cases hq;exact la.elim
   ·split at hr
    ·cases hr;exact lb.elim
    ·exact S.inj q r a b e f hq hr la lb he hf hef
 ·intro q b hb
  simp only [AH.push,Tr.get_set] at hb
  split at hb
  ·rename_i h1;subst h1;cases hb;exact ⟨d,Mu.add_same _ _ _,hB'⟩
  ·split at hb
   ·rename_i h1 h2;subst h2;cases hb;exact ⟨c,hle _ _ hc,trivial⟩
   ·rename_i h1 h2
    obtain ⟨e,h3,h4⟩:=S.at_ q b hb
    refine ⟨e,hle _ _ h3,?_⟩
    by_cases lb:wKV b
    ·exact (h4.mono hle).keep K fun e'=>h2 (S.inj q p b B e c hb hB lb hl h3 hc e')
    ·cases b <;> first | trivial | exact (lb trivial).elim
 ·intro q e he
  unfold Mu.add at he
  split at he
  ·cases he
   rcases hd with h1 | h1
   ·exact .inr (.inl ⟨p,c,hc,h1.symm,hf⟩)
   ·exact .inr (.inr h1)
  ·exact .inl he
end
end Go.KX
namespace Go.KX
noncomputable section
open Go.RowKit Go.KL
def aggD:TypeDesc->Bool
 | .struct _ | .array _ _=>true
 | _=>false
def wDa (P:Program) (t:TypeId) (f:TypeDesc->Bool):Bool:=match P.underlying t with
 | some d=>f d
 | none=>false
def szT (P:Program) (t n:Nat):Bool:=match P.info? t with
 | some i=>nB i.size n
 | none=>false
def byT (P:Program) (t n:Nat):Bool:=match P.info? t with
 | some i=>nB i.bytes n
 | none=>false
def zT (P:Program) (t:TypeId) (z:List AV):Bool:=match P.info? t with
 | some i=>match i.zero with
  | some v=>wNE z v.cells.toList
  | none=>false
 | none=>false
section
variable {C:Chk} {P:Program} {μ μ':Mu} {w w':World} {h h':AH} {σ:Env} {σA:Tr AV} {t e:TypeId} {o:Oper}
theorem wAc {f:TypeDesc->Bool} (hc:wDa P t f=true):∃ d,P.underlying t=some d/\f d=true:=by
 unfold wDa at hc
 split at hc
 ·exact ⟨_,by assumption,hc⟩
 ·cases hc
theorem wAh {d:TypeDesc} (hu:P.underlying t=some d) (w:World):(underlying t).run P w=.ok d w:=run_underlying hu w
theorem wCz {n:Nat} (hc:szT P t n=true) (w:World):(sizeOf t).run P w=.ok n w:=by
 unfold szT at hc
 split at hc
 ·rename_i i hi
  rw [<- nA hc]
  simp [sizeOf,typeInfo,hi]
 ·cases hc
theorem wFZ {n:Nat} (hc:szT P t n=true):∃ i,P.info? t=some i/\i.size=n:=by
 unfold szT at hc
 split at hc
 ·rename_i i hi;exact ⟨i,hi,nA hc⟩
 ·cases hc
theorem wFa {n:Nat} (hc:byT P t n=true):∃ i,P.info? t=some i/\i.bytes=n:=by
 unfold byT at hc
 split at hc
 ·rename_i i hi;exact ⟨i,hi,nA hc⟩
 ·cases hc
theorem wEH {z:List AV} (hc:zT P t z=true):∃ i v,P.info? t=some i/\i.zero=some v/\∀ μ,RvL μ z v.cells.toList:=by
 unfold zT at hc
 split at hc
 ·rename_i i hi
  split at hc
  ·rename_i v hv;exact ⟨i,v,hi,hv,fun μ=>wEw μ hc⟩
  ·cases hc
 ·cases hc
theorem wDA {i:TypeInfo} {z:Value} (hi:P.info? t=some i) (hz:i.zero=some z) (w:World):(zeroValue t).run P w=.ok z w:=by
 simp [zeroValue,typeInfo,hi,hz]
theorem wFy {d:TypeDesc} (hu:P.underlying t=some d) (w:World):(isAgg t).run P w=.ok (aggD d) w:=by
 simp only [isAgg,Sem.run_bind,wAh hu,Result.andThen_ok]
 cases d <;> rfl
def wNF (P:Program) (t:TypeId) (b:Bool):Bool:=wDa P t fun d=>aggD d == b
theorem wDk {b:Bool} (hc:wNF P t b=true) (w:World):(isAgg t).run P w=.ok b w:=by
 obtain ⟨d,h1,h2⟩:=wAc hc
 rw [wFy h1,eq_of_beq h2]
def OkP (P:Program) (op:Op) (f:Tr AV->AH->Option (AV × AH)):Prop :=
 ∀ σA h v h',f σA h=some (v,h')->h'=h/\∀ μ σ,EnvR μ σA σ->∃ cv,Rv μ v cv/\∀ (o:Oper) (w:World),o.op=op->Runs P σ w o cv w
def c_mv (x:AOd):Op->Bool
 | .move y | .assign y=>wBm x y
 | _=>false
theorem p_mv {x:AOd} {op:Op} (hc:c_mv x op=true):OkP P op (wPo x):=by
 intro σA h v h' hr
 cases hr
 refine ⟨rfl,fun μ σ hE=>?_⟩
 unfold c_mv at hc
 split at hc
 ·exact ⟨_,wAJ hc hE,fun o w ho=>Runs.mv ho rfl⟩
 ·exact ⟨_,wAJ hc hE,fun o w ho=>Runs.as ho rfl⟩
 ·cases hc
def wLn (c x y:AOd):Op->Bool
 | .pick c' x' y'=>wBm c c' && (wBm x x' && wBm y y')
 | _=>false
theorem wQL {c x y:AOd} {op:Op} (hc:wLn c x y op=true):OkP P op (wFo c x y):=by
 intro σA h v h' hr
 unfold wLn at hc
 split at hc
 ·rename_i c' x' y'
  simp only [hH] at hc
  unfold wFo at hr
  split at hr
  ·rename_i hb;cases hr
   exact ⟨rfl,fun μ σ hE=>⟨_,wAJ hc.2.1 hE,fun o w ho=>Runs.pickT ho (by have:=wAJ hc.1 hE;rw [hb] at this;exact this) rfl⟩⟩
  ·rename_i hb;cases hr
   exact ⟨rfl,fun μ σ hE=>⟨_,wAJ hc.2.2 hE,fun o w ho=>Runs.pickF ho (by have:=wAJ hc.1 hE;rw [hb] at this;exact this) rfl⟩⟩
  ·cases hr
 ·cases hc
def wLo (x:AOd):Op->Bool
 | .nilCheck y=>wBm x y
 | _=>false
theorem wQM {x:AOd} {op:Op} (hc:wLo x op=true):OkP P op (wFp x):=by
 intro σA h v h' hr
 unfold wLo at hc
 split at hc
 ·unfold wFp at hr
  split at hr
  ·rename_i hb;cases hr
   refine ⟨rfl,fun μ σ hE=>?_⟩
   have:=wAJ hc hE;rw [hb] at this
   refine ⟨_,this,fun o w ho=>?_⟩
   obtain ⟨c,h1,h2⟩:=this
   rw [h2];exact Runs.nilp ho h2
  ·rename_i hb;cases hr
   refine ⟨rfl,fun μ σ hE=>?_⟩
   have:=wAJ hc hE;rw [hb] at this
   refine ⟨_,this,fun o w ho=>?_⟩
   obtain ⟨fv,cv,_,_,h2⟩:=this
   rw [h2];exact Runs.nilf ho h2
  ·rename_i hb;cases hr
   refine ⟨rfl,fun μ σ hE=>?_⟩
   have:=wAJ hc hE;rw [hb] at this
   refine ⟨_,this,fun o w ho=>?_⟩
   obtain ⟨c,h1,h2⟩:=this
   rw [h2];exact Runs.nily ho h2
  ·cases hr
 ·cases hc
theorem wHN {k:IntKind} {n:Int} (hk:inK k n=true):k.wrap n=n:=by
 unfold inK at hk
 split at hk <;> (try simp only [nD] at hk) <;> (try simp only [IntKind.wrap_i64,IntKind.wrap_u8,IntKind.wrap_u32,Go.IntKind.wrap_u64,kA,na]) <;> first | omega | cases hk
theorem wBS {x:Option AV} {v:AV} (hr:okV h x=some (v,h')):x=some v/\h'=h:=by
 cases x <;> cases hr;exact ⟨rfl,rfl⟩
theorem wBN {α:Type} {b:Bool} {x:Option α} {v:α} (hr:ifO b x=some v):b=true/\x=some v:=by
 cases b
 ·cases hr
 ·exact ⟨rfl,hr⟩
theorem wGo {f:Int->Int->Int} {x y v:AV} (hr:wIe f x y=some v):∃ k a b,x=.int k a/\y=.int k b/\v=.int k (f a b)/\k.wrap (f a b)=f a b:=by
 unfold wIe at hr
 split at hr
 ·rename_i k a k' b
  split at hr
  ·rename_i hk
   split at hr
   ·rename_i hi;cases hr;exact ⟨k,a,b,rfl,by rw [wBQ hk],rfl,wHN hi⟩
   ·cases hr
  ·cases hr
 ·cases hr
theorem wNG {f:Int->Int->Int} {x y v:AV} (hr:div f x y=some v):∃ k a b,x=.int k a/\y=.int k b/\v=.int k (f a b)/\k.wrap (f a b)=f a b/\b ≠ 0:=by
 unfold div at hr
 split at hr
 ·rename_i k a k' b
  split at hr
  ·rename_i hk
   split at hr
   ·cases hr
   ·rename_i hz
    split at hr
    ·rename_i hi;cases hr
     exact ⟨k,a,b,rfl,by rw [wBQ hk],rfl,wHN hi,fun e=>by rw [wJd.2 e] at hz;cases hz⟩
    ·cases hr
  ·cases hr
 ·cases hr
theorem wLp {f:Int->Int->Bool} {x y v:AV} (hr:wNA f x y=some v):∃ k a b,x=.int k a/\y=.int k b/\v=.bool (f a b):=by
 unfold wNA at hr
 split at hr
 ·rename_i k a k' b
  split at hr
  ·rename_i hk;cases hr;exact ⟨k,a,b,rfl,by rw [wBQ hk],rfl⟩
  ·cases hr
 ·cases hr
def wCI (b:BinOp) (x y:AOd):Op->Bool
 | .binOp b' _ x' y' _=>(b' == b) && (wBm x x' && wBm y y')
 | _=>false
theorem wEa {b:BinOp} {x y:AOd} {op:Op} (hc:wCI b x y op=true):∃ t x' y' t',op=.binOp b t x' y' t'/\wBm x x'=true/\wBm y y'=true:=by
 unfold wCI at hc
 split at hc
 ·rename_i b' t x' y' t'
  simp only [hH,beq_iff_eq] at hc
  obtain ⟨rfl,h1,h2⟩:=hc
  exact ⟨t,x',y',t',rfl,h1,h2⟩
 ·cases hc
theorem wIw {b:BinOp} {f:Int->Int->Int} {x y:AOd} {op:Op} (hc:wCI b x y op=true)
  (hrun:∀ (o:Oper) (σ:Env) (w:World) t x' y' t' k m n,o.op=.binOp b t x' y' t'->ev σ x'=.int k m->ev σ y'=.int k n->Runs P σ w o (.int k (k.wrap (f m n))) w) :
  OkP P op (fun σ h=>okV h (wIe f (evA σ x) (evA σ y))):=by
 intro σA h v h' hr
 obtain ⟨t,x',y',t',rfl,h1,h2⟩:=wEa hc
 obtain ⟨hr2,rfl⟩:=wBS hr
 obtain ⟨k,m,n,e1,e2,rfl,e3⟩:=wGo hr2
 refine ⟨rfl,fun μ σ hE=>⟨_,rfl,fun o w ho=>?_⟩⟩
 have g1:=wAJ h1 hE;rw [e1] at g1
 have g2:=wAJ h2 hE;rw [e2] at g2
 have:=hrun o σ w t x' y' t' k m n ho g1 g2
 rwa [e3] at this
theorem p_add {x y:AOd} {op:Op} (hc:wCI .add x y op=true):OkP P op (wLK x y) :=
 wIw hc fun o σ w t x' y' t' k m n ho h1 h2=>⟨by rw [ho];rfl,by simp [execOp,ho,h1,h2,binOp,eqGuard,Op.intArith]⟩
theorem p_sub {x y:AOd} {op:Op} (hc:wCI .sub x y op=true):OkP P op (wLL x y) :=
 wIw hc fun o σ w t x' y' t' k m n ho h1 h2=>⟨by rw [ho];rfl,by simp [execOp,ho,h1,h2,binOp,eqGuard,Op.intArith];rfl⟩
theorem p_mul {x y:AOd} {op:Op} (hc:wCI .mul x y op=true):OkP P op (wLM x y) :=
 wIw hc fun o σ w t x' y' t' k m n ho h1 h2=>⟨by rw [ho];rfl,by simp [execOp,ho,h1,h2,binOp,eqGuard,Op.intArith]⟩
theorem wQN {b:BinOp} {f:Int->Int->Int} {x y:AOd} {op:Op} (hc:wCI b x y op=true)
  (hrun:∀ (o:Oper) (σ:Env) (w:World) t x' y' t' k m n,o.op=.binOp b t x' y' t'->ev σ x'=.int k m->ev σ y'=.int k n->n ≠ 0->k.wrap (f m n)=f m n->Runs P σ w o (.int k (f m n)) w) :
  OkP P op (fun σ h=>okV h (div f (evA σ x) (evA σ y))):=by
 intro σA h v h' hr
 obtain ⟨t,x',y',t',rfl,h1,h2⟩:=wEa hc
 obtain ⟨hr2,rfl⟩:=wBS hr
 obtain ⟨k,m,n,e1,e2,rfl,e3,e4⟩:=wNG hr2
 refine ⟨rfl,fun μ σ hE=>⟨_,rfl,fun o w ho=>?_⟩⟩
 have g1:=wAJ h1 hE;rw [e1] at g1
 have g2:=wAJ h2 hE;rw [e2] at g2
 exact hrun o σ w t x' y' t' k m n ho g1 g2 e4 e3
theorem p_quo {x y:AOd} {op:Op} (hc:wCI .quo x y op=true):OkP P op (wLN x y) :=
 wQN hc fun o σ w t x' y' t' k m n ho h1 h2 h3 h4=>⟨by rw [ho];rfl,by simp [execOp,ho,h1,h2,binOp,eqGuard,Op.intDiv,h3,h4]⟩
theorem p_rem {x y:AOd} {op:Op} (hc:wCI .rem x y op=true):OkP P op (wLO x y) :=
 wQN hc fun o σ w t x' y' t' k m n ho h1 h2 h3 h4=>⟨by rw [ho];rfl,by simp [execOp,ho,h1,h2,binOp,eqGuard,Op.intDiv,h3]⟩
theorem wKW {b:BinOp} {f:Int->Int->Bool} {x y:AOd} {op:Op} (hc:wCI b x y op=true)
  (hrun:∀ (o:Oper) (σ:Env) (w:World) t x' y' t' k m n,o.op=.binOp b t x' y' t'->ev σ x'=.int k m->ev σ y'=.int k n->Runs P σ w o (.bool (f m n)) w) :
  OkP P op (fun σ h=>okV h (wNA f (evA σ x) (evA σ y))):=by
 intro σA h v h' hr
 obtain ⟨t,x',y',t',rfl,h1,h2⟩:=wEa hc
 obtain ⟨hr2,rfl⟩:=wBS hr
 obtain ⟨k,m,n,e1,e2,rfl⟩:=wLp hr2
 refine ⟨rfl,fun μ σ hE=>⟨_,rfl,fun o w ho=>?_⟩⟩
 have g1:=wAJ h1 hE;rw [e1] at g1
 have g2:=wAJ h2 hE;rw [e2] at g2
 exact hrun o σ w t x' y' t' k m n ho g1 g2
theorem p_lss {x y:AOd} {op:Op} (hc:wCI .lss x y op=true):OkP P op (wLP x y) :=
 wKW hc fun o σ w t x' y' t' k m n ho h1 h2=>(Runs.lss ho h1 h2).to (by rw [wFx])
theorem p_leq {x y:AOd} {op:Op} (hc:wCI .leq x y op=true):OkP P op (wLQ x y) :=
 wKW hc fun o σ w t x' y' t' k m n ho h1 h2=>(Runs.leq ho h1 h2).to (by rw [wLl])
theorem p_gtr {x y:AOd} {op:Op} (hc:wCI .gtr x y op=true):OkP P op (wLR x y) :=
 wKW hc fun o σ w t x' y' t' k m n ho h1 h2=>(Runs.gtr ho h1 h2).to (by rw [wFx])
theorem p_geq {x y:AOd} {op:Op} (hc:wCI .geq x y op=true):OkP P op (wLS x y) :=
 wKW hc fun o σ w t x' y' t' k m n ho h1 h2=>(Runs.geq ho h1 h2).to (by rw [wLl])
theorem p_eql {x y:AOd} {op:Op} (hc:wCI .eql x y op=true):OkP P op (wLT x y) :=
 wKW hc fun o σ w t x' y' t' k m n ho h1 h2=>(Runs.eql ho h1 h2).to (by rw [wDP])
theorem p_neq {x y:AOd} {op:Op} (hc:wCI .neq x y op=true):OkP P op (wLU x y) :=
 wKW hc fun o σ w t x' y' t' k m n ho h1 h2=>(Runs.neq ho h1 h2).to (by rw [wDP];simp)
def wOZ (x:AOd):Op->Bool
 | .unOp .neg _ y=>wBm x y
 | _=>false
theorem p_neg {x:AOd} {op:Op} (hc:wOZ x op=true):OkP P op (wLV x):=by
 intro σA h v h' hr
 unfold wOZ at hc
 split at hc
 ·obtain ⟨hr2,rfl⟩:=wBS hr
  obtain ⟨k,m,n,e1,e2,rfl,e3⟩:=wGo hr2
  rw [e2] at e1
  simp only at e1
  cases e1
  refine ⟨rfl,fun μ σ hE=>⟨_,rfl,fun o w ho=>?_⟩⟩
  have g2:=wAJ hc hE;rw [e2] at g2
  refine ⟨by rw [ho];rfl,?_⟩
  have:ev σ _=.int k n:=g2
  simp only [execOp,ho,this,Op.unary,Op.intArith,Sem.run_bind,Sem.run_pure,Result.andThen_ok]
  rw [show (0:Int) - n=Int.sub 0 n from rfl,e3]
 ·cases hc
def wOa (x:AOd):Op->Bool
 | .unOp .not _ y=>wBm x y
 | _=>false
theorem p_not {x:AOd} {op:Op} (hc:wOa x op=true):OkP P op (wIi x):=by
 intro σA h v h' hr
 unfold wOa at hc
 split at hc
 ·unfold wIi at hr
  split at hr
  ·rename_i hb;cases hr
   refine ⟨rfl,fun μ σ hE=>⟨_,rfl,fun o w ho=>?_⟩⟩
   have g:=wAJ hc hE;rw [hb] at g
   exact Runs.not ho g
  ·cases hr
 ·cases hc
def wLq:TypeDesc->Option IntKind
 | .int k=>some k
 | _=>none
def wOb (k:IntKind) (x:AOd):Op->Bool
 | .convert s t y=>wDa P s (fun d=>(wLq d).isSome) && (wDa P t (fun d=>match wLq d with | some k'=>keq k k' | none=>false) && wBm x y)
 | _=>false
theorem p_cvt {k:IntKind} {x:AOd} {op:Op} (hc:wOb (P:=P) k x op=true):OkP P op (wIj k x):=by
 intro σA h v h' hr
 unfold wOb at hc
 split at hc
 ·simp only [hH] at hc
  obtain ⟨c1,c2,c3⟩:=hc
  unfold wIj at hr
  split at hr
  ·rename_i k0 n hb
   obtain ⟨hi,hr⟩:=wBN hr
   cases hr
   refine ⟨rfl,fun μ σ hE=>⟨_,rfl,fun o w ho=>?_⟩⟩
   have g:=wAJ c3 hE;rw [hb] at g
   obtain ⟨d,d1,d2⟩:=wAc c1
   obtain ⟨e,e1,e2⟩:=wAc c2
   cases d <;> first | (cases d2;done) | skip
   cases e <;> first | (cases e2;done) | skip
   have:=wBQ e2
   subst this
   have g':ev σ _=.int k0 n:=g
   exact ⟨by rw [ho];rfl,by simp [execOp,ho,g',convert,wAh d1,wAh e1,Conv.intToInt,wHN hi]⟩
  ·cases hr
 ·cases hc
def wOc (f:Pos) (fi ca:List AOd):Op->Bool
 | .makeFunc (.func g) fi' ca'=>nB f.nat (g + 1) && (wIC fi fi'.toList && wIC ca ca'.toList)
 | _=>false
theorem p_mkf {f:Pos} {fi ca:List AOd} {op:Op} (hc:wOc f fi ca op=true):OkP P op (wKR f fi ca):=by
 intro σA h v h' hr
 cases hr
 unfold wOc at hc
 split at hc
 ·simp only [hH] at hc
  obtain ⟨c1,c2,c3⟩:=hc
  refine ⟨rfl,fun μ σ hE=>⟨_,⟨_,_,wFY c2 hE,wFY c3 hE,rfl⟩,fun o w ho=>?_⟩⟩
  have e:=nA c1
  refine ⟨by rw [ho];rfl,?_⟩
  simp [execOp,ho,Instr.makeFunc,e,<- ki]
 ·cases hc
def wOd (i:Nat) (x:AOd):Op->Bool
 | .extract y j=>nB i j && wBm x y
 | _=>false
theorem p_ext {i:Nat} {x:AOd} {op:Op} (hc:wOd i x op=true):OkP P op (wIp i x):=by
 intro σA h v h' hr
 unfold wOd at hc
 split at hc
 ·simp only [hH] at hc
  have e:=nA hc.1
  subst e
  unfold wIp at hr
  split at hr
  ·rename_i l hb
   obtain ⟨hr2,rfl⟩:=wBS hr
   refine ⟨rfl,fun μ σ hE=>?_⟩
   have g:=wAJ hc.2 hE;rw [hb] at g
   obtain ⟨vs,g1,g2⟩:=g
   rw [wFL] at hr2
   obtain ⟨cv,g3,g4⟩:=wEF g1 hr2
   exact ⟨cv,g4,fun o w ho=>Runs.ext ho g2 (by simpa using g3)⟩
  ·cases hr
 ·cases hc
end
end
end Go.KX
namespace Go.KX
noncomputable section
open Go.RowKit Go.KL
section
variable {C:Chk} {P:Program} {μ μ':Mu} {w w':World} {h h':AH} {σ:Env} {σA:Tr AV} {t e:TypeId} {o:Oper}
def wOe (P:Program) (ne:Bool) (x y:AOd):Op->Bool
 | .binOp b t x' y' _=>(match ne with | true=>b == .neq | false=>b == .eql) && (wDa P t (fun d=>match d with | .bool=>true | _=>false) && (wBm x x' && wBm y y'))
 | _=>false
theorem wGp (ne b:Bool):(ne != b)=(match ne with | true=>!b | false=>b):=by cases ne <;> cases b <;> rfl
theorem p_eqb {ne:Bool} {x y:AOd} {op:Op} (hc:wOe P ne x y op=true):OkP P op (wIf ne x y):=by
 intro σA h v h' hr
 unfold wOe at hc
 split at hc
 ·simp only [hH] at hc
  obtain ⟨c0,c1,c2,c3⟩:=hc
  unfold wIf at hr
  split at hr
  ·rename_i a b e1 e2
   cases hr
   refine ⟨rfl,fun μ σ hE=>⟨_,rfl,fun o w ho=>?_⟩⟩
   have g1:=wAJ c2 hE;rw [e1] at g1
   have g2:=wAJ c3 hE;rw [e2] at g2
   obtain ⟨d,d1,d2⟩:=wAc c1
   cases d <;> first | (cases d2;done) | skip
   cases ne
   ·have:=eq_of_beq c0;subst this
    exact (Runs.eqB ho g1 g2 (wAh d1)).to (by rw [wGp])
   ·have:=eq_of_beq c0;subst this
    exact (Runs.neB ho g1 g2 (wAh d1)).to (by rw [wGp])
  ·cases hr
 ·cases hc
def nilD (k:Nat) (d:TypeDesc):Bool:=match k,d with
 | 0,.pointer _=>true
 | 1,.slice _=>true
 | 2,.map _ _=>true
 | 3,.func _ _ _=>true
 | _,_=>false
theorem wLr {k:Nat} {d:TypeDesc} {a b:AV} {r:Bool} {x y:Value} (hu:P.underlying t=some d) (hd:nilD k d=true) (hr:wKN k a b=some r) (hx:Rv μ a x) (hy:Rv μ b y) (w:World):(Op.equal t x y).run P w=.ok r w:=by
 unfold Op.equal Op.maxDepth
 rw [show (10000:Nat)=9999 + 1 from rfl,Op.equalIn]
 unfold wKN at hr
 split at hr <;> cases hr <;> simp only [Rv] at hx hy <;> (cases d <;> first | (cases hd;done) | skip) <;>
  (try obtain ⟨_,_,_,_,_,rfl⟩:=hx) <;> (try obtain ⟨_,_,_,_,rfl⟩:=hx) <;> (try obtain ⟨_,_,_,rfl⟩:=hx) <;> (try obtain ⟨_,_,rfl⟩:=hx) <;> (try subst hx) <;>
  (try obtain ⟨_,_,_,_,_,rfl⟩:=hy) <;> (try obtain ⟨_,_,_,_,rfl⟩:=hy) <;> (try obtain ⟨_,_,_,rfl⟩:=hy) <;> (try obtain ⟨_,_,rfl⟩:=hy) <;> (try subst hy) <;>
  simp only [Sem.run_bind,wAh hu,Result.andThen_ok,Sem.run_pure] <;> rfl
theorem wIx {k:Nat} {a b:AV} {r:Bool} {x y:Value} (hr:wKN k a b=some r) (hx:Rv μ a x) (hy:Rv μ b y) (op:BinOp) (p q:Operand) (w:World):(eqGuard op t p q x y).run P w=.ok () w:=by
 unfold wKN at hr
 split at hr <;> cases hr <;> simp only [Rv] at hx hy <;>
  (try obtain ⟨_,_,_,_,_,rfl⟩:=hx) <;> (try obtain ⟨_,_,_,_,rfl⟩:=hx) <;> (try obtain ⟨_,_,_,rfl⟩:=hx) <;> (try obtain ⟨_,_,rfl⟩:=hx) <;> (try subst hx) <;>
  (try obtain ⟨_,_,_,_,_,rfl⟩:=hy) <;> (try obtain ⟨_,_,_,_,rfl⟩:=hy) <;> (try obtain ⟨_,_,_,rfl⟩:=hy) <;> (try obtain ⟨_,_,rfl⟩:=hy) <;> (try subst hy) <;>
  simp only [eqGuard] <;> (cases op <;> rfl)
def wOf (P:Program) (k:Nat) (ne:Bool) (x y:AOd):Op->Bool
 | .binOp b t x' y' _=>(match ne with | true=>b == .neq | false=>b == .eql) && (wDa P t (nilD k) && (wBm x x' && wBm y y'))
 | _=>false
theorem p_eqn {k:Nat} {ne:Bool} {x y:AOd} {op:Op} (hc:wOf P k ne x y op=true):OkP P op (wIg k ne x y):=by
 intro σA h v h' hr
 unfold wOf at hc
 split at hc
 ·rename_i b t x' y' t'
  simp only [hH] at hc
  obtain ⟨c0,c1,c2,c3⟩:=hc
  unfold wIg at hr
  split at hr
  ·rename_i r e1
   cases hr
   refine ⟨rfl,fun μ σ hE=>⟨_,rfl,fun o w ho=>?_⟩⟩
   have g1:=wAJ c2 hE
   have g2:=wAJ c3 hE
   obtain ⟨d,d1,d2⟩:=wAc c1
   have g3:=wLr d1 d2 e1 g1 g2
   have g4:=fun op=>wIx (P:=P) (t:=t) e1 g1 g2 op x' y'
   refine ⟨by rw [ho];rfl,?_⟩
   generalize hX:ev σ x'=X at g1 g3 g4
   generalize hY:ev σ y'=Y at g2 g3 g4
   have nint:(∀ k n,X ≠ .int k n)/\(∀ k n,X ≠ .float k n)/\(∀ k n m,X ≠ .complex k n m)/\(∀ s,X ≠ .string s):=by
    unfold wKN at e1
    split at e1 <;> cases e1 <;> rename_i e2 e3 <;> rw [e2] at g1 <;> simp only [Rv] at g1 <;>
     (try obtain ⟨_,_,_,_,_,rfl⟩:=g1) <;> (try obtain ⟨_,_,_,_,rfl⟩:=g1) <;> (try obtain ⟨_,_,_,rfl⟩:=g1) <;> (try obtain ⟨_,_,rfl⟩:=g1) <;> (try subst g1) <;>
     exact ⟨by simp,by simp,by simp,by simp⟩
   obtain ⟨n1,n2,n3,n4⟩:=nint
   cases ne
   ·have:=eq_of_beq c0;subst this
    simp only [execOp,ho,Sem.run_bind,hX,hY,g4 .eql w,Result.andThen_ok]
    have:(binOp .eql t X Y).run P w=.ok (.bool r) w:=by
     cases X <;> first | exact absurd rfl (n1 _ _) | exact absurd rfl (n2 _ _) | exact absurd rfl (n3 _ _ _) | exact absurd rfl (n4 _) | (simp only [binOp,Sem.run_bind,g3 w,Result.andThen_ok];rfl)
    rw [this]
    simp [wGp]
   ·have:=eq_of_beq c0;subst this
    simp only [execOp,ho,Sem.run_bind,hX,hY,g4 .neq w,Result.andThen_ok]
    have:(binOp .neq t X Y).run P w=.ok (.bool (!r)) w:=by
     cases X <;> first | exact absurd rfl (n1 _ _) | exact absurd rfl (n2 _ _) | exact absurd rfl (n3 _ _ _) | exact absurd rfl (n4 _) | (simp only [binOp,Sem.run_bind,g3 w,Result.andThen_ok];rfl)
    rw [this]
    simp [wGp]
  ·cases hr
 ·cases hc
mutual
def Sh.depth:Sh->Nat
 | .int=>1
 | .bool=>1
 | .str fs=>wJe fs + 1
def wJe:List (Nat × Nat × Sh)->Nat
 | []=>0
 | (_,_,s) :: fs=>Nat.max s.depth (wJe fs)
end
mutual
def wIy (P:Program):Sh->TypeId->Bool
 | .int,t=>wDa P t fun d=>(wLq d).isSome
 | .bool,t=>wDa P t fun d=>match d with | .bool=>true | _=>false
 | .str fs,t=>(!P.stoodInHeld t) && wDa P t fun d=>match d with | .struct gs=>wKX P fs gs.toList | _=>false
def wKX (P:Program):List (Nat × Nat × Sh)->List Field->Bool
 | [],[]=>true
 | (off, sz, s) :: fs, g :: gs => (g.name != "_") && (nB g.offset off && (szT P g.type sz && (wIy P s g.type && wKX P fs gs)))
 | _,_=>false
end
theorem wLs {s:Sh} (hc:wIy P s t=true) (w:World):(isAgg t).run P w=.ok (match s with | .str _=>true | _=>false) w:=by
 cases s with
 | int =>
  obtain ⟨d,h1,h2⟩:=wAc hc
  rw [wFy h1];cases d <;> first | rfl | cases h2
 | bool =>
  obtain ⟨d,h1,h2⟩:=wAc hc
  rw [wFy h1];cases d <;> first | rfl | cases h2
 | str fs =>
  simp only [wIy,hH] at hc
  obtain ⟨d,h1,h2⟩:=wAc hc.2
  rw [wFy h1];cases d <;> first | rfl | cases h2
theorem wID {s:Sh} {l:List AV} {vs:List Value} {off sz:Nat} {a:AV} (hc:wIy P s t=true) (hz:szT P t sz=true) (hp:wNB s l off sz=some a) (hl:RvL μ l vs):∃ v,Rv μ a v/\∀ w,(part t vs.toArray off).run P w=.ok v w:=by
 have hag:=wLs hc
 unfold wNB at hp
 split at hp
 ·split at hp
  ·rename_i r hs
   cases hp
   obtain ⟨h1,h2⟩:=wEG hs hl
   exact ⟨_,⟨_,h1,rfl⟩,fun w=>wHF hag (wCz hz) rfl⟩
  ·cases hp
 ·rename_i hne
  rw [wFL] at hp
  obtain ⟨v,h1,h2⟩:=wEF hl hp
  refine ⟨v,h2,fun w=>wFf (fun w=>?_) h1⟩
  rw [hag w]
  cases s <;> first | rfl | exact absurd rfl (hne _)
mutual
theorem wJf:∀ (s:Sh) (t:TypeId) (d:Nat) (a b:AV) (x y:Value) (r:Bool),wIy P s t=true->s.depth <= d->wNC s a b=some r->Rv μ a x->Rv μ b y->∀ w,(Op.equalIn d t x y).run P w=.ok r w
 | .int,t,d,a,b,x,y,r,hc,hd,hr,hx,hy,w=>by
  obtain ⟨d,rfl⟩:∃ e,d=e + 1:=⟨d - 1,by simp only [Sh.depth] at hd;omega⟩
  unfold wNC at hr
  split at hr <;> first | (cases hr;done) | skip
  all_goals (try (rename_i h0;cases h0))
  split at hr <;> cases hr
  rename_i hk
  obtain ⟨dd,d1,d2⟩:=wAc hc
  cases dd <;> first | (cases d2;done) | skip
  simp only [Rv] at hx hy
  subst hx hy
  have:=wBQ hk;subst this
  simp [Op.equalIn,wAh d1,wDP,wIW]
 | .bool,t,d,a,b,x,y,r,hc,hd,hr,hx,hy,w=>by
  obtain ⟨d,rfl⟩:∃ e,d=e + 1:=⟨d - 1,by simp only [Sh.depth] at hd;omega⟩
  unfold wNC at hr
  split at hr <;> first | (cases hr;done) | skip
  all_goals (try (rename_i h0;cases h0))
  cases hr
  obtain ⟨dd,d1,d2⟩:=wAc hc
  cases dd <;> first | (cases d2;done) | skip
  simp only [Rv] at hx hy
  subst hx hy
  simp [Op.equalIn,wAh d1]
 | .str fs,t,d,a,b,x,y,r,hc,hd,hr,hx,hy,w=>by
  simp only [Sh.depth] at hd
  obtain ⟨d,rfl⟩:∃ e,d=e + 1:=⟨d - 1,by omega⟩
  unfold wNC at hr
  split at hr <;> first | (cases hr;done) | skip
  all_goals (try (rename_i h0;cases h0))
  simp only [wIy,hH,nh] at hc
  obtain ⟨dd,d1,d2⟩:=wAc hc.2
  cases dd <;> first | (cases d2;done) | skip
  rename_i gs
  obtain ⟨xs,h1,rfl⟩:=hx
  obtain ⟨ys,h2,rfl⟩:=hy
  have hf:P.fieldsOf t=gs:=by unfold Program.fieldsOf;rw [d1]
  rw [run_equalIn_agg w d t _ _ (by rw [hf];exact d1) hc.1,hf]
  exact wJg fs gs.toList d _ _ xs ys r d2 (by omega) hr h1 h2 w
theorem wJg:∀ (fs:List (Nat × Nat × Sh)) (gs:List Field) (d:Nat) (l k:List AV) (xs ys:List Value) (r:Bool),wKX P fs gs=true->wJe fs <= d->wQE fs l k=some r->RvL μ l xs->RvL μ k ys ->
  ∀ w,(Op.eqFields d xs.toArray ys.toArray gs).run P w=.ok r w
 | [],[],d,l,k,xs,ys,r,hc,hd,hr,hx,hy,w=>by
  simp only [wQE] at hr;cases hr;rfl
 | (off,sz,s) :: fs,g :: gs,d,l,k,xs,ys,r,hc,hd,hr,hx,hy,w=>by
  simp only [wKX,hH] at hc
  obtain ⟨c1,c2,c3,c4,c5⟩:=hc
  have e:=nA c2
  subst e
  simp only [wQE] at hr
  split at hr
  ·rename_i a b ha hb
   obtain ⟨u,u1,u2⟩:=wID c4 c3 ha hx
   obtain ⟨v,v1,v2⟩:=wID c4 c3 hb hy
   have hne : g.name ≠ "_" := by simpa using c1
   have hd1:s.depth <= d:=nf (Nat.le_max_left _ _) hd
   have hd2:wJe fs <= d:=nf (Nat.le_max_right _ _) hd
   cases hq:wNC s a b with
   | none=>rw [hq] at hr;cases hr
   | some q =>
    have hE:=wJf s g.type d a b u v q c4 hd1 hq u1 v1
    rw [hq] at hr
    cases q with
    | true =>
     simp only at hr
     have hF:=wJg fs gs d l k xs ys r c5 hd2 hr hx hy
     simp [Op.eqFields,hne,u2,v2,hE,hF,Result.andThen]
    | false =>
     simp only [ke] at hr
     subst hr
     simp [Op.eqFields,hne,u2,v2,hE,Result.andThen]
  ·cases hr
 | [],_ :: _,d,l,k,xs,ys,r,hc,hd,hr,hx,hy,w=>by simp [wKX] at hc
 | _ :: _,[],d,l,k,xs,ys,r,hc,hd,hr,hx,hy,w=>by simp [wKX] at hc
end
theorem wNH {fs:List (Nat × Nat × Sh)} {r:Bool}:∀ {a b:AV},wNC (.str fs) a b=some r->∃ l k,a=.agg l/\b=.agg k:=by
 intro a b h
 cases a <;> cases b <;> first | exact ⟨_,_,rfl,rfl⟩ | (simp [wNC] at h;done)
def wOg (P:Program) (ne:Bool) (s:Sh) (x y:AOd):Op->Bool
 | .binOp b t x' y' _=>(match ne with | true=>b == .neq | false=>b == .eql) && (kM s.depth 10000 && (wIy P s t && ((match s with | .str _=>true | _=>false) && ((!P.eqGuardType P.depth t) && (wBm x x' && wBm y y')))))
 | _=>false
theorem p_eqs {ne:Bool} {s:Sh} {x y:AOd} {op:Op} (hc:wOg P ne s x y op=true):OkP P op (wIh ne s x y):=by
 intro σA h v h' hr
 unfold wOg at hc
 split at hc
 ·rename_i b t x' y' t'
  simp only [hH,nh] at hc
  obtain ⟨c0,c1,c2,c3,c4,c5,c6⟩:=hc
  unfold wIh at hr
  split at hr
  ·rename_i r e1
   cases hr
   refine ⟨rfl,fun μ σ hE=>⟨_,rfl,fun o w ho=>?_⟩⟩
   have g1:=wAJ c5 hE
   have g2:=wAJ c6 hE
   have g3:∀ w,(Op.equal t (ev σ x') (ev σ y')).run P w=.ok r w:=wJf s t 10000 _ _ _ _ r c2 (nL c1) e1 g1 g2
   cases s <;> first | (cases c3;done) | skip
   obtain ⟨l,k,h1,h2⟩:=wNH e1
   rw [h1] at g1;rw [h2] at g2
   obtain ⟨xs,_,g1⟩:=g1
   obtain ⟨ys,_,g2⟩:=g2
   rw [g1,g2] at g3
   refine ⟨by rw [ho];rfl,?_⟩
   cases ne
   ·have:=eq_of_beq c0;subst this
    simp [execOp,ho,g1,g2,binOp,eqGuard,c4,g3,wGp]
   ·have:=eq_of_beq c0;subst this
    simp [execOp,ho,g1,g2,binOp,eqGuard,c4,g3,wGp]
  ·cases hr
 ·cases hc
end
end
end Go.KX
namespace Go.KX
noncomputable section
open Go.RowKit Go.KL
section
variable {C:Chk} {P:Program} {μ μ':Mu} {w w':World} {h h':AH} {σ:Env} {σA:Tr AV} {t e:TypeId} {o:Oper}
def wOh (P:Program) (off:Nat) (x:AOd):Op->Bool
 | .fieldAddr t y i=>wDa P t (fun d=>match d with
   | .struct fs=>match fs[i]? with
    | some f=>nB f.offset off && (match P.info? f.type with | some j=>nP 0 j.size | none=>false)
    | none=>false
   | _=>false) && wBm x y
 | _=>false
theorem p_fad {off:Nat} {x:AOd} {op:Op} (hc:wOh P off x op=true):OkP P op (wIl off x):=by
 intro σA h v h' hr
 unfold wOh at hc
 split at hc
 ·rename_i t y i
  simp only [hH] at hc
  obtain ⟨c1,c2⟩:=hc
  unfold wIl at hr
  split at hr
  ·rename_i b oo hb
   cases hr
   refine ⟨rfl,fun μ σ hE=>?_⟩
   have g:=wAJ c2 hE;rw [hb] at g
   obtain ⟨c,g1,g2⟩:=g
   refine ⟨_,⟨c,g1,rfl⟩,fun o w ho=>?_⟩
   obtain ⟨d,d1,d2⟩:=wAc c1
   split at d2
   ·rename_i fs
    split at d2
    ·rename_i f hf
     simp only [hH] at d2
     have e:=nA d2.1
     subst e
     have d3:=d2.2
     split at d3
     ·rename_i j hj
      have hpos:0 < j.size:=by simpa [nD] using d3
      obtain ⟨n,hn⟩:∃ n,j.size=n + 1:=⟨j.size - 1,by omega⟩
      exact Runs.fa (n:=n) ho g2 (wAh d1) hf (fun w=>by rw [<- hn];simp [sizeOf,typeInfo,hj])
     ·cases d3
    ·cases d2
   ·cases d2
  ·cases hr
 ·cases hc
def wOi (P:Program) (off:Nat) (x:AOd):Op->Bool
 | .field t y i=>wDa P t (fun d=>match d with
   | .struct fs=>match fs[i]? with
    | some f=>nB f.offset off && wNF P f.type false
    | none=>false
   | _=>false) && wBm x y
 | _=>false
def wLt (P:Program) (off n:Nat) (x:AOd):Op->Bool
 | .field t y i=>wDa P t (fun d=>match d with
   | .struct fs=>match fs[i]? with
    | some f=>nB f.offset off && (wNF P f.type true && szT P f.type n)
    | none=>false
   | _=>false) && wBm x y
 | _=>false
theorem p_fld {off:Nat} {x:AOd} {op:Op} (hc:wOi P off x op=true):OkP P op (wIm off x):=by
 intro σA h v h' hr
 unfold wOi at hc
 split at hc
 ·rename_i t y i
  simp only [hH] at hc
  obtain ⟨c1,c2⟩:=hc
  unfold wIm at hr
  split at hr
  ·rename_i l hb
   obtain ⟨hr2,rfl⟩:=wBS hr
   refine ⟨rfl,fun μ σ hE=>?_⟩
   have g:=wAJ c2 hE;rw [hb] at g
   obtain ⟨vs,g1,g2⟩:=g
   rw [wFL] at hr2
   obtain ⟨cv,g3,g4⟩:=wEF g1 hr2
   refine ⟨cv,g4,fun o w ho=>?_⟩
   obtain ⟨d,d1,d2⟩:=wAc c1
   split at d2
   ·split at d2
    ·rename_i f hf
     simp only [hH] at d2
     have e:=nA d2.1
     subst e
     exact Runs.fld ho g2 (wAh d1) hf (wFf (wDk d2.2) g3)
    ·cases d2
   ·cases d2
  ·cases hr
 ·cases hc
theorem wCt {x:Option (List AV)} {v:AV} (hr:wGm x=some v):∃ l,x=some l/\v=.agg l:=by
 cases x <;> cases hr;exact ⟨_,rfl,rfl⟩
theorem wQO {off n:Nat} {x:AOd} {op:Op} (hc:wLt P off n x op=true):OkP P op (wFs off n x):=by
 intro σA h v h' hr
 unfold wLt at hc
 split at hc
 ·rename_i t y i
  simp only [hH] at hc
  obtain ⟨c1,c2⟩:=hc
  unfold wFs at hr
  split at hr
  ·rename_i l hb
   obtain ⟨hr2,rfl⟩:=wBS hr
   obtain ⟨r,hr3,rfl⟩:=wCt hr2
   refine ⟨rfl,fun μ σ hE=>?_⟩
   have g:=wAJ c2 hE;rw [hb] at g
   obtain ⟨vs,g1,g2⟩:=g
   obtain ⟨g3,g4⟩:=wEG hr3 g1
   refine ⟨_,⟨_,g3,rfl⟩,fun o w ho=>?_⟩
   obtain ⟨d,d1,d2⟩:=wAc c1
   split at d2
   ·split at d2
    ·rename_i f hf
     simp only [hH] at d2
     have e:=nA d2.1
     subst e
     exact Runs.fld ho g2 (wAh d1) hf (wHF (wDk d2.2.1) (wCz d2.2.2) rfl)
    ·cases d2
   ·cases d2
  ·cases hr
 ·cases hc
theorem wBk {a:AV} {n:Nat} (hr:wFm a=some n):a=.int .i64 n:=by
 unfold wFm at hr
 split at hr
 ·cases hr;rfl
 ·cases hr
def wOj (P:Program) (sz:Nat) (x y:AOd):Op->Bool
 | .indexAddr t x' y'=>wDa P t (fun d=>match d with
   | .slice e=>szT P e sz
   | _=>false) && (wBm x x' && wBm y y')
 | _=>false
theorem p_iad {sz:Nat} {x y:AOd} {op:Op} (hc:wOj P sz x y op=true):OkP P op (wIn sz x y):=by
 intro σA h v h' hr
 unfold wOj at hc
 split at hc
 ·rename_i t x' y'
  simp only [hH] at hc
  obtain ⟨c1,c2,c3⟩:=hc
  obtain ⟨d,d1,d2⟩:=wAc c1
  split at d2
  ·rename_i e
   unfold wIn at hr
   split at hr
   ·rename_i b off n c i hb hi
    obtain ⟨hlt,hr⟩:=wBN hr
    cases hr
    have hlt:i < n:=by simpa [nD] using hlt
    have hi:=wBk hi
    refine ⟨rfl,fun μ σ hE=>?_⟩
    have g:=wAJ c2 hE;rw [hb] at g
    have k:=wAJ c3 hE;rw [hi] at k
    obtain ⟨m,g1,g2,g3⟩:=g
    refine ⟨_,⟨m,g1,rfl⟩,fun o w ho=>?_⟩
    have:=Runs.ia (P:=P) (o:=o) (w:=w) (i:=(i:Int)) ho g3 k (wAh d1) (wCz d2) (by omega) (by omega)
    simpa using this
   ·rename_i b eo co n i hb hi
    obtain ⟨hlt,hr⟩:=wBN hr
    cases hr
    have hlt:i < n:=by simpa [nD] using hlt
    have hi:=wBk hi
    refine ⟨rfl,fun μ σ hE=>?_⟩
    have g:=wAJ c2 hE;rw [hb] at g
    have k:=wAJ c3 hE;rw [hi] at k
    obtain ⟨m,g1,g2,g3⟩:=g
    refine ⟨_,⟨m,g1,rfl⟩,fun o w ho=>?_⟩
    have:=Runs.ia (P:=P) (o:=o) (w:=w) (i:=(i:Int)) ho g3 k (wAh d1) (wCz d2) (by omega) (by omega)
    simpa using this
   ·cases hr
  ·cases d2
 ·cases hc
def wLu (P:Program) (sz n:Nat) (x y:AOd):Op->Bool
 | .indexAddr t x' y'=>wDa P t (fun d=>match d with
   | .array m e=>nB m n && szT P e sz
   | _=>false) && (wBm x x' && wBm y y')
 | _=>false
theorem wQP {sz n:Nat} {x y:AOd} {op:Op} (hc:wLu P sz n x y op=true):OkP P op (wFt sz n x y):=by
 intro σA h v h' hr
 unfold wLu at hc
 split at hc
 ·rename_i t x' y'
  simp only [hH] at hc
  obtain ⟨c1,c2,c3⟩:=hc
  obtain ⟨d,d1,d2⟩:=wAc c1
  split at d2
  ·rename_i m e
   simp only [hH] at d2
   have em:=nA d2.1
   subst em
   unfold wFt at hr
   split at hr
   ·rename_i b off i hb hi
    obtain ⟨hlt,hr⟩:=wBN hr
    cases hr
    have hlt:i < m:=by simpa [nD] using hlt
    have hi:=wBk hi
    refine ⟨rfl,fun μ σ hE=>?_⟩
    have g:=wAJ c2 hE;rw [hb] at g
    have k:=wAJ c3 hE;rw [hi] at k
    obtain ⟨q,g1,g3⟩:=g
    refine ⟨_,⟨q,g1,rfl⟩,fun o w ho=>?_⟩
    have:=Runs.iaA (P:=P) (o:=o) (w:=w) (i:=(i:Int)) ho g3 k (wAh d1) (wCz d2.2) (by omega) (by omega)
    simpa using this
   ·cases hr
  ·cases d2
 ·cases hc
def c_ix (P:Program) (n:Nat) (x y:AOd):Op->Bool
 | .index t x' y'=>wDa P t (fun d=>match d with
   | .array m e=>nB m n && (szT P e 1 && wNF P e false)
   | _=>false) && (wBm x x' && wBm y y')
 | _=>false
theorem p_ix {n:Nat} {x y:AOd} {op:Op} (hc:c_ix P n x y op=true):OkP P op (wOV n x y):=by
 intro σA h v h' hr
 unfold c_ix at hc
 split at hc
 ·rename_i t x' y'
  simp only [hH] at hc
  obtain ⟨c1,c2,c3⟩:=hc
  obtain ⟨d,d1,d2⟩:=wAc c1
  split at d2
  ·rename_i m e
   simp only [hH] at d2
   have em:=nA d2.1
   subst em
   unfold wOV at hr
   split at hr
   ·rename_i l i hb hi
    obtain ⟨hlt,hr⟩:=wBN hr
    obtain ⟨hr2,rfl⟩:=wBS hr
    have hlt:i < m:=by simpa [nD] using hlt
    have hi:=wBk hi
    refine ⟨rfl,fun μ σ hE=>?_⟩
    have g:=wAJ c2 hE;rw [hb] at g
    have k:=wAJ c3 hE;rw [hi] at k
    obtain ⟨vs,g1,g2⟩:=g
    rw [wFL] at hr2
    obtain ⟨cv,g3,g4⟩:=wEF g1 hr2
    refine ⟨cv,g4,fun o w ho=>?_⟩
    exact Runs.ixA (P:=P) (o:=o) (w:=w) (i:=(i:Int)) ho g2 k (wAh d1) (wCz d2.2.1) (by omega) (by omega) (wFf (wDk d2.2.2) (by simpa using g3))
   ·cases hr
  ·cases d2
 ·cases hc
def wOk (P:Program) (sz n:Nat) (x y:AOd):Op->Bool
 | .index t x' y'=>wDa P t (fun d=>match d with
   | .array m e=>nB m n && (szT P e sz && wNF P e true)
   | _=>false) && (wBm x x' && wBm y y')
 | _=>false
theorem p_ixA {sz n:Nat} {x y:AOd} {op:Op} (hc:wOk P sz n x y op=true):OkP P op (wIo sz n x y):=by
 intro σA h v h' hr
 unfold wOk at hc
 split at hc
 ·rename_i t x' y'
  simp only [hH] at hc
  obtain ⟨c1,c2,c3⟩:=hc
  obtain ⟨d,d1,d2⟩:=wAc c1
  split at d2
  ·rename_i m e
   simp only [hH] at d2
   have em:=nA d2.1
   subst em
   unfold wIo at hr
   split at hr
   ·rename_i l i hb hi
    obtain ⟨hlt,hr⟩:=wBN hr
    obtain ⟨hr2,rfl⟩:=wBS hr
    obtain ⟨r,hr3,rfl⟩:=wCt hr2
    have hlt:i < m:=by simpa [nD] using hlt
    have hi:=wBk hi
    refine ⟨rfl,fun μ σ hE=>?_⟩
    have g:=wAJ c2 hE;rw [hb] at g
    have k:=wAJ c3 hE;rw [hi] at k
    obtain ⟨vs,g1,g2⟩:=g
    obtain ⟨g3,g4⟩:=wEG hr3 g1
    refine ⟨_,⟨_,g3,rfl⟩,fun o w ho=>?_⟩
    exact Runs.ixA (P:=P) (o:=o) (w:=w) (i:=(i:Int)) ho g2 k (wAh d1) (wCz d2.2.1) (by omega) (by omega) (wHF (wDk d2.2.2) (wCz d2.2.1) (by simp))
   ·cases hr
  ·cases d2
 ·cases hc
def wNy:Option AOd->Option Operand->Bool
 | none,none=>true
 | some x,some y=>wBm x y
 | _,_=>false
theorem wLv {x:Option AOd} {y:Option Operand} {r:Option Nat} (hr:bnd σA x=some r) (hc:wNy x y=true) (hE:EnvR μ σA σ):(r=none/\y=none) \/ ∃ n z,r=some n/\y=some z/\ev σ z=.int .i64 n:=by
 cases x with
 | none =>
  cases y with
  | none=>cases hr;exact .inl ⟨rfl,rfl⟩
  | some _=>cases hc
 | some x =>
  cases y with
  | none=>cases hc
  | some y =>
   simp only [bnd] at hr
   split at hr
   ·rename_i n hn
    cases hr
    have:=wAJ (show wBm x y=true from hc) hE
    rw [wBk hn] at this
    exact .inr ⟨n,y,rfl,rfl,this⟩
   ·cases hr
def vI (n:Nat):Value:=.int .i64 (n:Int)
theorem wFz {P:Program} {n y:Nat} {code:BoundsCode} (hle:n <= y) (w:World):(Instr.sliceBound (vI n) y code).run P w=.ok n w:=by
 have h1:(n:Int) <= y:=by omega
 simp [Instr.sliceBound,vI,asIntOf,h1]
theorem wDq {P:Program} {s:Bool} {len cap:Nat} {lo hi mx:Option Nat} {l hh m:Nat} (hm:m=mx.getD cap) (hh':hh=hi.getD len) (hl:l=lo.getD 0) (h1:l <= hh) (h2:hh <= m) (h3:m <= cap) (hmh:mx.isSome=true->hi.isSome=true) (w:World) :
  (Instr.sliceBounds s len cap (lo.map vI) (hi.map vI) (mx.map vI)).run P w=.ok (l,hh,m) w:=by
 subst hm hh' hl
 unfold Instr.sliceBounds
 cases mx <;> cases hi <;> cases lo <;> simp only [kj,kk] at h1 h2 h3 <;> (try (simp at hmh;done)) <;> simp [wFz h1,wFz h2,wFz h3]
theorem wGA {x:Option AOd} {y:Option Operand} {r:Option Nat} (hr:bnd σA x=some r) (hc:wNy x y=true) (hE:EnvR μ σA σ):y.map (ev σ)=r.map vI:=by
 rcases wLv hr hc hE with ⟨rfl,rfl⟩ | ⟨n,z,rfl,rfl,h1⟩
 ·rfl
 ·simp [h1,vI]
theorem wEI (b off n:Nat):(Addr.add ⟨b,off,none⟩ n)=⟨b,off + n,none⟩:=wDL b off n
theorem wLw {P:Program} {sz:Nat} {a v:AV} {x:Value} {lo hi mx:Option Nat} (hr0:wQF sz a (orD lo 0) hi mx=some v) (hx:Rv μ a x) (hmh:mx.isSome=true->hi.isSome=true) :
  ∃ A len cap cv l hh m,x=.slice A len cap/\Rv μ v cv/\(∀ s w,(Instr.sliceBounds s len cap (lo.map vI) (hi.map vI) (mx.map vI)).run P w=.ok (l,hh,m) w) /\
   cv=.slice (if m=l then A else A.map (·.add (l * sz))) (hh - l) (m - l):=by
 obtain ⟨l,hl,hr⟩:∃ l,lo.getD 0=l/\wQF sz a l hi mx=some v:=⟨_,rfl,by rw [<- wLJ];exact hr0⟩
 clear hr0
 unfold wQF at hr
 split at hr
 ·obtain ⟨hb,hr⟩:=wBN hr
  cases hr
  simp only [hH] at hb
  obtain ⟨⟨b1,b2⟩,b3⟩:=hb
  have l0:=nA b1
  have hx:x=.slice none 0 0:=hx
  subst hx
  have h2:hi.getD 0=0:=by cases hi with | none=>rfl | some n=>exact nA b2
  have h3:mx.getD 0=0:=by cases mx with | none=>rfl | some n=>exact nA b3
  refine ⟨none,0,0,_,0,0,0,rfl,(rfl:Rv μ .snil _),fun s w=>wDq h3.symm h2.symm (by rw [hl,l0]) (nG _) (nG _) (nG _) hmh w,by simp⟩
 ·rename_i b off n c
  obtain ⟨d,g1,g2,rfl⟩:=hx
  simp only [wLJ] at hr
  obtain ⟨hb,hr⟩:=wBN hr
  cases hr
  simp only [hH,nM] at hb
  obtain ⟨⟨b1,b2⟩,b3⟩:=hb
  refine ⟨_,n,c,_,l,hi.getD n,mx.getD c,rfl,⟨d,g1,by omega,rfl⟩,fun s w=>wDq rfl rfl hl.symm b1 b2 b3 hmh w,?_⟩
  by_cases e:mx.getD c=l
  ·simp [e]
  ·have:nB (mx.getD c) l=false:=by
    cases hq:nB (mx.getD c) l with
    | false=>rfl
    | true=>exact absurd (nA hq) e
   simp [e,this,wEI]
 ·rename_i b eo co n
  obtain ⟨d,g1,g2,rfl⟩:=hx
  simp only [wLJ] at hr
  split at hr
  ·obtain ⟨hb,hr⟩:=wBN hr
   simp only [hH,nM] at hb
   obtain ⟨b1,b2⟩:=hb
   have fin:∀ cv,cv=Value.slice (if d.2 - eo=l then some ⟨d.1,co,none⟩ else (some (⟨d.1,co,none⟩:Addr)).map (·.add (l * sz))) (hi.getD n - l) (d.2 - eo - l)->Rv μ v cv ->
     ∃ A len cap cv l hh m,Value.slice (some ⟨d.1,co,none⟩) n (d.2 - eo)=.slice A len cap/\Rv μ v cv/\(∀ s w,(Instr.sliceBounds s len cap (lo.map vI) (hi.map vI) ((none:Option Nat).map vI)).run P w=.ok (l,hh,m) w) /\
      cv=.slice (if m=l then A else A.map (·.add (l * sz))) (hh - l) (m - l):=fun cv e hv =>
    ⟨_,n,d.2 - eo,cv,l,hi.getD n,d.2 - eo,rfl,hv,fun s w=>wDq rfl rfl hl.symm b1 (by simp only [kj];omega) (nG _) hmh w,e⟩
   split at hr
   ·cases hr
    refine fin _ rfl ⟨d,g1,by omega,?_⟩
    simp [Addr.add]
   ·rename_i l0
    split at hr
    ·rename_i hlt
     cases hr
     have hlt:l < n:=by simpa [nD] using hlt
     refine fin _ rfl ⟨d,g1,by omega,?_⟩
     rw [if_neg (by omega)]
     simp [wEI,Nat.sub_sub]
    ·rename_i hlt
     cases hr
     have hlt:¬ l < n:=by
      intro hq
      have:nP l n=true:=by rw [nD];exact hq
      rw [this] at hlt;cases hlt
     have e1:hi.getD n - l=0:=by omega
     refine fin _ rfl ?_
     rw [e1]
     by_cases e2:d.2 - eo=l
     ·rw [if_pos e2];exact ⟨d,g1,co,by congr 1;omega⟩
     ·rw [if_neg e2];exact ⟨d,g1,co + l * sz,by simp only [kl,wEI];congr 1;omega⟩
  ·rename_i m
   obtain ⟨hb,hr⟩:=wBN hr
   cases hr
   simp only [hH,nM] at hb
   obtain ⟨⟨b1,b2⟩,b3⟩:=hb
   refine ⟨_,n,d.2 - eo,_,l,hi.getD n,m,rfl,⟨d,g1,by omega,rfl⟩,fun s w=>wDq (mx:=some m) rfl rfl hl.symm b1 b2 (by simp only [kk];omega) hmh w,?_⟩
   by_cases e:m=l
   ·simp [e]
   ·have:nB m l=false:=by
     cases hq:nB m l with
     | false=>rfl
     | true=>exact absurd (nA hq) e
    simp [e,this,wEI]
 ·cases hr
def wOl (P:Program) (sz:Nat) (x:AOd) (lo hi mx:Option AOd):Op->Bool
 | .slice t y l m n=>wDa P t (fun d=>match d with
   | .slice e=>szT P e sz
   | _=>false) && (wBm x y && (wNy lo l && (wNy hi m && (wNy mx n && (!mx.isSome || hi.isSome)))))
 | _=>false
theorem p_slc {sz:Nat} {x:AOd} {lo hi mx:Option AOd} {op:Op} (hc:wOl P sz x lo hi mx op=true):OkP P op (wIk sz x lo hi mx):=by
 intro σA h v h' hr
 unfold wOl at hc
 split at hc
 ·rename_i t y l m n
  simp only [hH] at hc
  obtain ⟨c1,c2,c3,c4,c5,c6⟩:=hc
  obtain ⟨d,d1,d2⟩:=wAc c1
  split at d2
  ·rename_i e
   unfold wIk at hr
   split at hr
   ·rename_i rl rh rm h1 h2 h3
    obtain ⟨hr2,rfl⟩:=wBS hr
    refine ⟨rfl,fun μ σ hE=>?_⟩
    have hmh:rm.isSome=true->rh.isSome=true:=by
     intro hs
     rcases wLv h3 c5 hE with ⟨rfl,_⟩ | ⟨_,z,rfl,rfl,_⟩
     ·cases hs
     ·cases mx with
      | none=>simp [bnd] at h3
      | some _ =>
       cases hi with
       | none=>simp at c6
       | some _ =>
        rcases wLv h2 c4 hE with ⟨rfl,e0⟩ | ⟨_,_,rfl,_⟩
        ·subst e0;simp [wNy] at c4
        ·rfl
    obtain ⟨A,len,cap,cv,ll,hh,mm,e1,e2,e3,e4⟩:=wLw (P:=P) hr2 (wAJ c2 hE) hmh
    refine ⟨cv,e2,fun o w ho=>⟨by rw [ho];rfl,?_⟩⟩
    have b1:=wGA h1 c3 hE
    have b2:=wGA h2 c4 hE
    have b3:=wGA h3 c5 hE
    simp [execOp,ho,Instr.sliceAt,Instr.slice,wAh d1,e1,b1,b2,b3,e3,wCz d2,e4]
   ·cases hr
  ·cases d2
 ·cases hc
def wLx (P:Program) (sz n:Nat) (x:AOd) (lo hi:Option AOd):Op->Bool
 | .slice t y l m none=>wDa P t (fun d=>match d with
   | .array k e=>nB k n && szT P e sz
   | _=>false) && (wBm x y && (wNy lo l && wNy hi m))
 | _=>false
theorem wQQ {sz n:Nat} {x:AOd} {lo hi:Option AOd} {op:Op} (hc:wLx P sz n x lo hi op=true):OkP P op (wFr sz n x lo hi):=by
 intro σA h v h' hr
 unfold wLx at hc
 split at hc
 ·rename_i t y l m
  simp only [hH] at hc
  obtain ⟨c1,c2,c3,c4⟩:=hc
  obtain ⟨d,d1,d2⟩:=wAc c1
  split at d2
  ·rename_i k e
   simp only [hH] at d2
   have ek:=nA d2.1
   subst ek
   unfold wFr at hr
   split at hr
   ·rename_i rl rh b off h1 h2 hb
    obtain ⟨hr2,rfl⟩:=wBS hr
    refine ⟨rfl,fun μ σ hE=>?_⟩
    have g:=wAJ c2 hE;rw [hb] at g
    obtain ⟨c,g1,g2⟩:=g
    obtain ⟨A,len,cap,cv,ll,hh,mm,e1,e2,e3,e4⟩:=wLw (P:=P) (μ:=μ) (x:=.slice (some ⟨c.1,off,none⟩) k k) hr2 ⟨c,g1,nG _,rfl⟩ (by intro hs;cases hs)
    cases e1
    refine ⟨cv,e2,fun o w ho=>⟨by rw [ho];rfl,?_⟩⟩
    have b1:=wGA h1 c3 hE
    have b2:=wGA h2 c4 hE
    have e3':=e3 false
    simp only [Option.map_none] at e3'
    simp [execOp,ho,Instr.sliceAt,wAh d1,g2,Instr.sureAddr,b1,b2,e3',wCz d2.2,e4]
    split <;> simp
   ·cases hr
  ·cases d2
 ·cases hc
end
end
end Go.KX
namespace Go.KX
noncomputable section
open Go.RowKit Go.KL
section
variable {C:Chk} {P:Program} {μ μ':Mu} {w w':World} {h h':AH} {σ:Env} {σA:Tr AV} {t e:TypeId} {o:Oper}
def wIE (place:Nat->Option (Nat × Nat)):List (Nat × Nat × AOd)->List (Nat × Operand)->Bool
 | [],[]=>true
 | (off,n,x) :: ps,(i,y) :: qs=>(match place i with | some (o,s)=>nB o off && nB s n | none=>false) && (wBm x y && wIE place ps qs)
 | _,_=>false
theorem wGB {place:Nat->Option (Nat × Nat)} (hE:EnvR μ σA σ):∀ {ps:List (Nat × Nat × AOd)} {qs:List (Nat × Operand)} {cs r:List AV} {CS:List Value},wHI σA cs ps=some r->wIE place ps qs=true->RvL μ cs CS ->
  ∃ R,lay place CS (qs.map fun (p:Nat × Operand)=>(p.1,ev σ p.2))=some R/\RvL μ r R/\R.length=CS.length
 | [],[],cs,r,CS,hr,_,hl=>by
  simp only [wHI] at hr;cases hr;exact ⟨CS,rfl,hl,rfl⟩
 | (off,n,x) :: ps,(i,y) :: qs,cs,r,CS,hr,hc,hl=>by
  simp only [wIE,hH] at hc
  obtain ⟨c1,c2,c3⟩:=hc
  split at c1
  ·rename_i o s hp
   simp only [hH] at c1
   have e1:=nA c1.1
   have e2:=nA c1.2
   subst e1 e2
   simp only [wHI] at hr
   split at hr
   ·rename_i hn
    have hn:=nA hn
    split at hr
    ·rename_i cs' ho
     obtain ⟨vs,v1,v2⟩:=wFX (wAJ c2 hE)
     obtain ⟨g1,g2⟩:=wHL ho hl v1
     have hlen:vs.length=s:=by rw [wCV v1,<- wDj,hn]
     obtain ⟨R,r1,r2,r3⟩:=wGB hE hr c3 g2
     refine ⟨R,?_,r2,by rw [r3,wCE]⟩
     rw [nJ,lay,hp]
     simp only [v2,kH,hlen,beq_self_eq_true,Bool.true_and]
     rw [if_pos (by rw [nM];omega)]
     exact r1
    ·cases hr
   ·cases hr
  ·cases c1
 | [],_ :: _,cs,r,CS,hr,hc,hl=>by simp [wIE] at hc
 | _ :: _,[],cs,r,CS,hr,hc,hl=>by simp [wIE] at hc
def plL (P:Program):List Field->Option (List (Nat × Nat))
 | []=>some []
 | f :: fs=>match P.info? f.type,plL P fs with
  | some i,some l=>some ((f.offset,i.size) :: l)
  | _,_=>none
theorem wQR:∀ {fs:List Field} {pl:List (Nat × Nat)},plL P fs=some pl->wNs P fs.toArray pl:=by
 intro fs pl hp w
 rw [List.mapM_toArray]
 have key:∀ (fs:List Field) (pl:List (Nat × Nat)),plL P fs=some pl->((fs.mapM fun f=>do pure (f.offset,<- sizeOf f.type):Sem (List (Nat × Nat)))).run P w=.ok pl w:=by
  intro fs
  induction fs with
  | nil=>intro pl hp;cases hp;simp
  | cons f fs ih =>
   intro pl hp
   unfold plL at hp
   split at hp
   ·rename_i i l h1 h2
    cases hp
    have hs:(sizeOf f.type).run P w=.ok i.size w:=by simp [sizeOf,typeInfo,h1]
    simp only [List.mapM_cons,Sem.run_bind,hs,Result.andThen_ok,Sem.run_pure,ih l h2]
   ·cases hp
 have:=key fs pl hp
 simp only [Sem.run_map,this,Result.andThen_ok]
def wOm (P:Program) (z:List AV) (ps:List (Nat × Nat × AOd)):Op->Bool
 | .build t qs=>zT P t z && wDa P t (fun d=>match d with
   | .struct fs=>match plL P fs.toList with
    | some pl=>wIE (fun i=>pl[i]?) ps qs.toList
    | none=>false
   | .array _ e=>match P.info? e with
    | some j=>wIE (fun i=>some (i * j.size,j.size)) ps qs.toList
    | none=>false
   | _=>false)
 | _=>false
theorem p_bld {z:List AV} {ps:List (Nat × Nat × AOd)} {op:Op} (hc:wOm P z ps op=true):OkP P op (wLW z ps):=by
 intro σA h v h' hr
 unfold wOm at hc
 split at hc
 ·rename_i t qs
  simp only [hH] at hc
  obtain ⟨c1,c2⟩:=hc
  obtain ⟨hr2,rfl⟩:=wBS hr
  obtain ⟨r,hr3,rfl⟩:=wCt hr2
  obtain ⟨i,zv,z1,z2,z3⟩:=wEH c1
  obtain ⟨d,d1,d2⟩:=wAc c2
  refine ⟨rfl,fun μ σ hE=>?_⟩
  split at d2
  ·rename_i fs
   split at d2
   ·rename_i pl hpl
    obtain ⟨R,r1,r2,_⟩:=wGB hE hr3 d2 (z3 μ)
    refine ⟨_,⟨R,r2,rfl⟩,fun o w ho=>?_⟩
    exact Runs.build (P:=P) (ps:=qs.toList) (z:=zv.cells.toList) ho rfl (wDA z1 z2) ⟨fs,wAh d1,wQR hpl⟩ (by simp) r1
   ·cases d2
  ·rename_i n e
   split at d2
   ·rename_i j hj
    obtain ⟨R,r1,r2,_⟩:=wGB hE hr3 d2 (z3 μ)
    refine ⟨_,⟨R,r2,rfl⟩,fun o w ho=>?_⟩
    exact Runs.buildA (P:=P) (ps:=qs.toList) (z:=zv.cells.toList) ho rfl (wDA z1 z2) (wAh d1) (fun w=>by simp [sizeOf,typeInfo,hj]) (by simp) r1
   ·cases d2
  ·cases d2
 ·cases hc
def wKY (P:Program) (b:Builtin) (x:AOd):Op->Bool
 | .call c=>match c.callee with
  | .builtin b'=>(b' == b) && (match c.args.toList,c.argTypes.toList with
   | [y],[t]=>wDa P t (fun d=>match d with | .slice _=>true | _=>false) && wBm x y
   | _,_=>false)
  | _=>false
 | _=>false
theorem wJh {b:Builtin} {x:AOd} {op:Op} (hc:wKY P b x op=true):∃ y t e,op=.call { callee:=.builtin b,args:=#[y],argTypes:=#[t] }/\P.underlying t=some (.slice e)/\wBm x y=true:=by
 unfold wKY at hc
 split at hc
 ·rename_i c
  obtain ⟨ce,args,tys⟩:=c
  simp only at hc
  split at hc
  ·rename_i b'
   simp only [hH,beq_iff_eq] at hc
   obtain ⟨rfl,h2⟩:=hc
   split at h2
   ·rename_i y t h3 h4
    simp only [hH] at h2
    obtain ⟨d,d1,d2⟩:=wAc h2.1
    cases d <;> first | (cases d2;done) | skip
    refine ⟨y,t,_,?_,d1,h2.2⟩
    congr 2
    ·exact nI (by simpa using h3)
    ·exact nI (by simpa using h4)
   ·cases h2
  ·cases hc
 ·cases hc
theorem p_len {x:AOd} {op:Op} (hc:wKY P .len x op=true):OkP P op (wIq x):=by
 intro σA h v h' hr
 obtain ⟨y,t,e,rfl,d1,c2⟩:=wJh hc
 unfold wIq at hr
 split at hr <;> cases hr <;> rename_i hb
 ·refine ⟨rfl,fun μ σ hE=>⟨_,rfl,fun o w ho=>?_⟩⟩
  have g:=wAJ c2 hE;rw [hb] at g
  exact Runs.len ho g (wAh d1)
 ·refine ⟨rfl,fun μ σ hE=>⟨_,rfl,fun o w ho=>?_⟩⟩
  have g:=wAJ c2 hE;rw [hb] at g
  obtain ⟨c,_,_,g⟩:=g
  exact Runs.len ho g (wAh d1)
 ·refine ⟨rfl,fun μ σ hE=>⟨_,rfl,fun o w ho=>?_⟩⟩
  have g:=wAJ c2 hE;rw [hb] at g
  obtain ⟨c,_,_,g⟩:=g
  exact Runs.len ho g (wAh d1)
 ·refine ⟨rfl,fun μ σ hE=>⟨_,rfl,fun o w ho=>?_⟩⟩
  have g:=wAJ c2 hE;rw [hb] at g
  obtain ⟨c,_,q,g⟩:=g
  exact Runs.len ho g (wAh d1)
theorem Runs.cap {t e:TypeId} {x:Operand} {a:Option Addr} {n c:Nat} (ho:o.op=.call { callee:=.builtin .cap,args:=#[x],argTypes:=#[t] }) (hx:ev σ x=.slice a n c)
  (ht:∀ w,(underlying t).run P w=.ok (.slice e) w):Runs P σ w o (.int .i64 c) w :=
 ⟨by rw [ho];rfl,by simp [execOp,ho,resolve,invoke,builtin,Builtin.cap_,hx,ht,goInt]⟩
theorem p_cap {x:AOd} {op:Op} (hc:wKY P .cap x op=true):OkP P op (wIr x):=by
 intro σA h v h' hr
 obtain ⟨y,t,e,rfl,d1,c2⟩:=wJh hc
 unfold wIr at hr
 split at hr <;> cases hr <;> rename_i hb
 ·refine ⟨rfl,fun μ σ hE=>⟨_,rfl,fun o w ho=>?_⟩⟩
  have g:=wAJ c2 hE;rw [hb] at g
  exact Runs.cap ho g (wAh d1)
 ·refine ⟨rfl,fun μ σ hE=>⟨_,rfl,fun o w ho=>?_⟩⟩
  have g:=wAJ c2 hE;rw [hb] at g
  obtain ⟨c,_,_,g⟩:=g
  exact Runs.cap ho g (wAh d1)
def wPq (b:Builtin) (x y:AOd):Op->Bool
 | .call c=>match c.callee with
  | .builtin b'=>(b' == b) && (match c.args.toList with
   | [x',y']=>wBm x x' && wBm y y'
   | _=>false)
  | _=>false
 | _=>false
theorem wLy {b:Builtin} {x y:AOd} {op:Op} (hc:wPq b x y op=true):∃ x' y' tys,op=.call { callee:=.builtin b,args:=#[x',y'],argTypes:=tys }/\wBm x x'=true/\wBm y y'=true:=by
 unfold wPq at hc
 split at hc
 ·rename_i c
  obtain ⟨ce,args,tys⟩:=c
  simp only at hc
  split at hc
  ·rename_i b'
   simp only [hH,beq_iff_eq] at hc
   obtain ⟨rfl,h2⟩:=hc
   split at h2
   ·rename_i x' y' h3
    simp only [hH] at h2
    refine ⟨x',y',tys,?_,h2.1,h2.2⟩
    congr 2
    exact nI (by simpa using h3)
   ·cases h2
  ·cases hc
 ·cases hc
theorem p_min {x y:AOd} {op:Op} (hc:wPq .min x y op=true):OkP P op (wLX x y):=by
 intro σA h v h' hr
 obtain ⟨x',y',tys,rfl,c1,c2⟩:=wLy hc
 obtain ⟨hr2,rfl⟩:=wBS hr
 split at hr2
 ·rename_i a b e1 e2
  cases hr2
  refine ⟨rfl,fun μ σ hE=>⟨_,rfl,fun o w ho=>?_⟩⟩
  have g1:=wAJ c1 hE;rw [e1] at g1
  have g2:=wAJ c2 hE;rw [e2] at g2
  refine (Runs.min ho g1 g2).to ?_
  have:(match zlt b a with | true=>b | false=>a)=Min.min a b:=by
   rw [wFx,Int.min_def]
   by_cases hq:b < a
   ·simp [hq,Int.not_le.2 hq]
   ·simp [hq,Int.not_lt.1 hq]
  exact congrArg (kE .i64) this.symm
 ·cases hr2
theorem p_max {x y:AOd} {op:Op} (hc:wPq .max x y op=true):OkP P op (wLY x y):=by
 intro σA h v h' hr
 obtain ⟨x',y',tys,rfl,c1,c2⟩:=wLy hc
 obtain ⟨hr2,rfl⟩:=wBS hr
 split at hr2
 ·rename_i a b e1 e2
  cases hr2
  refine ⟨rfl,fun μ σ hE=>⟨_,rfl,fun o w ho=>?_⟩⟩
  have g1:=wAJ c1 hE;rw [e1] at g1
  have g2:=wAJ c2 hE;rw [e2] at g2
  refine (Runs.max ho g1 g2).to ?_
  have:(match zlt a b with | true=>b | false=>a)=Max.max a b:=by
   rw [wFx,Int.max_def]
   by_cases hq:a < b
   ·simp [hq,Int.le_of_lt hq]
   ·by_cases hq2:a <= b
    ·have:a=b:=by omega
     simp [this]
    ·simp [hq,hq2]
  exact congrArg (kE .i64) this.symm
 ·cases hr2
def OkL (C:Chk) (P:Program) (op:Op) (f:Tr AV->AH->Option (AV × AH)):Prop :=
 ∀ σA h v h',f σA h=some (v,h')->h'=h/\∀ μ σ w,EnvR μ σA σ->Sim C P μ h w->∃ cv,Rv μ v cv/\∀ (o:Oper),o.op=op->wEp P σ w o cv
theorem wDr {b:Pos} {l:List AV} (hr:wCs h b=some l) (S:Sim C P μ h w):∃ c vs,μ b=some c/\RvL μ l vs/\∀ w',Keep w w' Non->∀ j v,vs[j]?=some v->w'.cell? ⟨c.1,j,none⟩=some v:=by
 unfold wCs at hr
 split at hr
 ·rename_i B hB
  obtain ⟨c,h1,h2⟩:=S.at_ b B hB
  cases B <;> simp only [wJZ] at hr <;> first | (cases hr;done) | cases hr
  ·obtain ⟨vs,h3,h4⟩:=h2
   exact ⟨c,vs,h1,h3,fun w' K j v hv=>(h4.non K).cell hv⟩
  ·obtain ⟨vs,h3,h4⟩:=h2
   refine ⟨c,vs,h1,h3,fun w' K j v hv=>?_⟩
   obtain ⟨cur,g1,g2,g3,g4,g5⟩:=RowAt.cells h4
   have g1':=(K.block _ (wAQ g1) id).trans g1
   have:cur.toList[j]?=some v:=by
    rw [<- g5,kD] at hv
    split at hv
    ·exact hv
    ·cases hv
   simp only [World.cell?,g1']
   simpa using this
 ·cases hr
def wQS (P:Program) (x:AOd):Op->Bool
 | .load t y=>wNF P t false && wBm x y
 | _=>false
theorem l_ld {x:AOd} {op:Op} (hc:wQS P x op=true):OkL C P op (wMt x):=by
 intro σA h v h' hr
 unfold wQS at hc
 split at hc
 ·simp only [hH] at hc
  unfold wMt at hr
  split at hr
  ·rename_i b off hb
   split at hr
   ·rename_i l hl
    obtain ⟨hr2,rfl⟩:=wBS hr
    refine ⟨rfl,fun μ σ w hE S=>?_⟩
    obtain ⟨c,vs,h1,h2,h3⟩:=wDr hl S
    have g:=wAJ hc.2 hE;rw [hb] at g
    obtain ⟨c',g1,g2⟩:=g
    rw [h1] at g1;cases g1
    rw [wFL] at hr2
    obtain ⟨cv,g3,g4⟩:=wEF h2 hr2
    exact ⟨cv,g4,fun o ho w' K=>Runs.ld ho g2 (wDk hc.1) (h3 w' K _ _ g3)⟩
   ·cases hr
  ·cases hr
 ·cases hc
def wLz (P:Program) (n:Nat) (x:AOd):Op->Bool
 | .load t y=>(wNF P t true && szT P t n) && wBm x y
 | _=>false
theorem l_ldA {n:Nat} {x:AOd} {op:Op} (hc:wLz P n x op=true):OkL C P op (wGf n x):=by
 intro σA h v h' hr
 unfold wLz at hc
 split at hc
 ·simp only [hH] at hc
  unfold wGf at hr
  split at hr
  ·rename_i b off hb
   split at hr
   ·rename_i l hl
    obtain ⟨hr2,rfl⟩:=wBS hr
    obtain ⟨r,hr3,rfl⟩:=wCt hr2
    refine ⟨rfl,fun μ σ w hE S=>?_⟩
    obtain ⟨c,vs,h1,h2,h3⟩:=wDr hl S
    have g:=wAJ hc.2 hE;rw [hb] at g
    obtain ⟨c',g1,g2⟩:=g
    rw [h1] at g1;cases g1
    obtain ⟨g3,g4⟩:=wEG hr3 h2
    refine ⟨_,⟨_,g3,rfl⟩,fun o ho w' K=>Runs.ldA ho g2 (wDk hc.1.1) (wCz hc.1.2) (by simp;omega) fun j u hu=>?_⟩
    exact h3 w' K _ _ (wDg rfl j u hu)
   ·cases hr
  ·cases hr
 ·cases hc
def OkE (C:Chk) (P:Program) (op:Op) (f:Tr AV->AH->Option (AV × AH)):Prop :=
 ∀ σA h v h',f σA h=some (v,h')->∀ μ σ w,EnvR μ σA σ->Sim C P μ h w->∀ (o:Oper),o.op=op->∃ μ' w' cv,Ext μ h.fl.nat w μ' w'/\Sim C P μ' h' w'/\Rv μ' v cv/\h'.fl=h.fl/\Runs P σ w o cv w'
def OkU (C:Chk) (P:Program) (op:Op) (f:Tr AV->AH->Option (AV × AH)):Prop :=
 ∀ σA h v h',f σA h=some (v,h')->∀ μ σ w,EnvR μ σA σ->Sim C P μ h w->∀ (o:Oper),o.op=op->∃ μ' w',Ext μ h.fl.nat w μ' w'/\Sim C P μ' h' w'/\v=u/\h'.fl=h.fl/\Does P σ w o w'
theorem OkP.toL {op:Op} {f:Tr AV->AH->Option (AV × AH)} (hp:OkP P op f):OkL C P op f:=by
 intro σA h v h' hr
 obtain ⟨h1,h2⟩:=hp σA h v h' hr
 exact ⟨h1,fun μ σ w hE _=>let ⟨cv,g1,g2⟩:=h2 μ σ hE;⟨cv,g1,fun o ho w' _=>g2 o w' ho⟩⟩
theorem OkL.toE {op:Op} {f:Tr AV->AH->Option (AV × AH)} (hp:OkL C P op f):OkE C P op f:=by
 intro σA h v h' hr μ σ w hE S o ho
 obtain ⟨rfl,h2⟩:=hp σA h v h' hr
 obtain ⟨cv,g1,g2⟩:=h2 μ σ w hE S
 exact ⟨μ,w,cv,Ext.refl μ _ w,S,g1,rfl,g2 o ho w (Keep.refl w _)⟩
theorem wEb {T:TypeId} {z:List AV} {cs:List Value} (S:Sim C P μ h w) (hz:RvL μ z cs):∃ μ',Ext μ h.fl.nat w μ' (w.alloc (.cells cs.toArray T))/\Sim C P μ' (h.push (.cells T z)) (w.alloc (.cells cs.toArray T))/\(h.push (.cells T z)).fl=h.fl/\μ' h.nx=some ⟨w.heap.size,0,g0⟩:=by
 have hle:=Mu.add_le (c:=⟨w.heap.size,0,g0⟩) (S.nx h.nx (nG _))
 obtain ⟨h1,h2,h3,h4⟩:=S.push (w':=w.alloc (.cells cs.toArray T)) (c:=⟨w.heap.size,0,g0⟩) (B:=.cells T z) (wAn w _) (nG _) (by rw [wGj];exact Nat.lt_succ_self _) ⟨cs,hz.mono hle,wDH w cs T⟩
 exact ⟨_,h2,h1,h3,h4⟩
def wMA (P:Program) (T:Nat) (z:List AV):Op->Bool
 | .alloc t=>nB T t && zT P t z
 | _=>false
theorem e_new {T:Nat} {z:List AV} {op:Op} (hc:wMA P T z op=true):OkE C P op (wOT T z):=by
 intro σA h v h' hr μ σ w hE S o ho
 cases hr
 unfold wMA at hc
 split at hc
 ·simp only [hH] at hc
  have e:=nA hc.1
  subst e
  obtain ⟨i,zv,z1,z2,z3⟩:=wEH hc.2
  obtain ⟨μ',h1,h2,h3,h4⟩:=wEb (T:=T) S (z3 μ)
  refine ⟨μ',_,_,h1,h2,⟨_,h4,rfl⟩,h3,by rw [ho];rfl,?_⟩
  simp [execOp,ho,Instr.alloc,wDA z1 z2,newVar,newRow,newObj,Sem.run]
 ·cases hc
def wMB (T:Nat) (x:AOd):Op->Bool
 | .box t y=>nB T t && wBm x y
 | _=>false
theorem e_box {T:Nat} {x:AOd} {op:Op} (hc:wMB T x op=true):OkE C P op (wKQ T x):=by
 intro σA h v h' hr μ σ w hE S o ho
 cases hr
 unfold wMB at hc
 split at hc
 ·simp only [hH] at hc
  have e:=nA hc.1
  subst e
  obtain ⟨vs,v1,v2⟩:=wFX (wAJ hc.2 hE)
  obtain ⟨μ',h1,h2,h3,h4⟩:=wEb (T:=T) S v1
  refine ⟨μ',_,_,h1,h2,⟨_,h4,rfl⟩,h3,by rw [ho];rfl,?_⟩
  simp [execOp,ho,Instr.box,newVar,newRow,newObj,v2,Sem.run]
 ·cases hc
theorem wOn (S:Sim C P μ h w):∃ μ',Ext μ h.fl.nat w μ' (w.alloc (.map #[] 0))/\Sim C P μ' (h.push .map0) (w.alloc (.map #[] 0))/\(h.push .map0).fl=h.fl/\μ' h.nx=some ⟨w.heap.size,0,g0⟩:=by
 obtain ⟨h1,h2,h3,h4⟩:=S.push (w':=w.alloc (.map #[] 0)) (c:=⟨w.heap.size,0,g0⟩) (B:=.map0) (wAn w _) (nG _) (by rw [wGj];exact Nat.lt_succ_self _) ⟨0,heap_alloc_new w _⟩
 exact ⟨_,h2,h1,h3,h4⟩
def wMC:Op->Bool
 | .makeMap _ none=>true
 | _=>false
theorem e_mkm {op:Op} (hc:wMC op=true):OkE C P op wOU:=by
 intro σA h v h' hr μ σ w hE S o ho
 cases hr
 unfold wMC at hc
 split at hc
 ·obtain ⟨μ',h1,h2,h3,h4⟩:=wOn S
  refine ⟨μ',_,_,h1,h2,⟨_,h4,rfl⟩,h3,by rw [ho];rfl,?_⟩
  simp [execOp,ho,Instr.makeMap,newObj,Sem.run,Result.andThen]
 ·cases hc
theorem wEJ {zc:Array Value} {n:Nat}:∀ c,((nb (c * zc.size)).map (zc[· % zc.size]!)).toList=(nS c zc.toList).flatten \/ False:=by
 intro c
 left
 induction c with
 | zero=>simp
 | succ c ih =>
  rw [ki,Array.toList_range] at ih ⊢
  rw [Nat.succ_mul,List.range_add,List.map_append,ih,List.replicate_succ',List.flatten_append]
  congr 1
  simp only [List.map_map,List.flatten_singleton]
  apply List.ext_getElem
  ·simp
  ·intro i h1 h2
   simp at h1
   simp [Nat.add_mul_mod_self_right,Nat.mod_eq_of_lt h1,Nat.add_comm (c * zc.size) i,h1]
def wMD (P:Program) (T sz by_:Nat) (z:List AV) (x y:AOd):Op->Bool
 | .makeSlice t x' y'=>wDa P t (fun d=>match d with | .slice e=>nB e T | _=>false) && (szT P T sz && (byT P T by_ && (zT P T z && (nB (len z) sz && (wBm x x' && wBm y y')))))
 | _=>false
theorem e_mks {T sz by_:Nat} {z:List AV} {x y:AOd} {op:Op} (hc:wMD P T sz by_ z x y op=true):OkE C P op (wFq T sz by_ z x y):=by
 intro σA h v h' hr μ σ w hE S o ho
 unfold wMD at hc
 split at hc
 ·rename_i t x' y'
  simp only [hH] at hc
  obtain ⟨c1,c2,c3,c4,c5,c6,c7⟩:=hc
  obtain ⟨d,d1,d2⟩:=wAc c1
  split at d2 <;> first | (cases d2;done) | skip
  have e:=nA d2
  subst e
  rename_i e
  obtain ⟨i,i1,i2⟩:=wFZ c2
  obtain ⟨i',j1,j2⟩:=wFa c3
  obtain ⟨i'',zv,k1,k2,k3⟩:=wEH c4
  rw [i1] at j1 k1;cases j1;cases k1
  have hz:=nA c5
  unfold wFq at hr
  split at hr
  ·rename_i l c hl hcc
   obtain ⟨hb,hr⟩:=wBN hr
   cases hr
   simp only [hH,nM] at hb
   obtain ⟨⟨⟨b1,b2⟩,b3⟩,b4⟩:=hb
   have hx:=wAJ c6 hE;rw [wBk hl] at hx
   have hy:=wAJ c7 hE;rw [wBk hcc] at hy
   have hx:ev σ x'=.int .i64 (l:Int):=hx
   have hy:ev σ y'=.int .i64 (c:Int):=hy
   have zlen:zv.cells.size=sz:=by rw [<- hz,wDj,<- wCV (k3 μ)];simp
   have hrun:=run_makeSlice (P:=P) w t e i zv d1 i1 k2 .i64 .i64 (l:Int) (c:Int) (by omega) (by omega) (by rw [i2,nq];exact b2) (by rw [j2];have hb:=Int.ofNat_le.2 b3;rw [Int.natCast_mul] at hb;exact hb) (by omega)
   simp only [nq,i2] at hrun
   have hcells:(madeCells zv.cells (c * sz))=((nS c zv.cells.toList).flatten).toArray:=by
    apply nI
    have:=wEJ (zc:=zv.cells) (n:=0) c
    simp only [or_false] at this
    rw [zlen] at this
    show ((nb (c * sz)).map (zv.cells[· % zv.cells.size]!)).toList=_
    rw [zlen,this]
   rw [hcells] at hrun
   obtain ⟨μ',h1,h2,h3,h4⟩:=wEb (T:=e) S (wFw (k3 μ) c)
   refine ⟨μ',_,_,h1,h2,⟨_,h4,b1,rfl⟩,h3,by rw [ho];rfl,?_⟩
   simp [execOp,ho,hx,hy,hrun,Result.andThen]
  ·cases hr
 ·cases hc
def wIF (P:Program) (T n:Nat) (z:List AV) (ps:List (Nat × Nat × AOd)):Op->Bool
 | .buildSlice t m qs=>nB m n && (wDa P t (fun d=>match d with | .slice e=>nB e T | _=>false) && (match P.info? T with
   | some i=>kM (n * i.size) 16777216 && (wIE (fun k=>some (k * i.size,i.size)) ps qs.toList && (match i.zero with
    | some v=>wNE z ((kL (n * i.size)).map fun k=>v.cells[k % v.cells.size]!)
    | none=>false))
   | none=>false))
 | _=>false
theorem wQT {T n:Nat} {z:List AV} {ps:List (Nat × Nat × AOd)} {op:Op} (hc:wIF P T n z ps op=true):OkE C P op (wDh T n z ps):=by
 intro σA h v h' hr μ σ w hE S o ho
 unfold wIF at hc
 split at hc
 ·rename_i t m qs
  simp only [hH] at hc
  obtain ⟨c1,c2,c3⟩:=hc
  have e:=nA c1
  subst e
  obtain ⟨d,d1,d2⟩:=wAc c2
  split at d2 <;> first | (cases d2;done) | skip
  have e:=nA d2
  subst e
  rename_i e
  split at c3
  ·rename_i i hi
   simp only [hH,nM] at c3
   obtain ⟨c3,c4,c5⟩:=c3
   split at c5
   ·rename_i zv hz
    unfold wDh at hr
    split at hr
    ·rename_i r hr3
     cases hr
     obtain ⟨R,r1,r2,r3⟩:=wGB hE hr3 c4 (wEw μ c5)
     have hf:=wCq _ _ _ _ r1
     obtain ⟨μ',h1,h2,h3,h4⟩:=wEb (T:=e) S r2
     refine ⟨μ',_,_,h1,h2,⟨_,h4,nG _,rfl⟩,h3,by rw [ho];rfl,?_⟩
     have hs:∀ w,(sizeOf e).run P w=.ok i.size w:=fun w=>by simp [sizeOf,typeInfo,hi]
     have hn':¬ m * i.size > 2 ^ 24:=by omega
     have hq:(qs.map fun (p:Nat × Operand)=>(p.1,ev σ p.2)).toList=qs.toList.map fun (p:Nat × Operand)=>(p.1,ev σ p.2):=by simp
     by_cases h0:m * i.size=0
     ·rw [h0] at hf
      simp only [List.range_zero,kP] at hf
      have hr0:(nb 0).map (fun x=>(#[]:Array Value)[x % (#[]:Array Value).size]!)=#[]:=by rw [show (nb 0)=#[] from rfl,Array.map_empty]
      have hn0:¬ (0:Nat) > 2 ^ 24:=by decide
      simp only [execOp,ho,Instr.buildSlice,Sem.run_bind,wAh d1,hs,Result.andThen_ok,h0,if_neg hn0,if_true,Sem.run_pure,hq,hr0,hf]
      simp [newRow,newObj,Sem.run,Result.andThen]
     ·have hzs:(nb (m * i.size)).map (zv.cells[· % zv.cells.size]!)=((kL (m * i.size)).map fun k=>zv.cells[k % zv.cells.size]!).toArray:=by rw [<- kc,List.map_toArray]
      simp only [execOp,ho,Instr.buildSlice,Sem.run_bind,wAh d1,hs,wDA hi hz,Result.andThen_ok,if_neg hn',if_neg h0,Sem.run_pure,hq,hzs,hf]
      simp [newRow,newObj,Sem.run,Result.andThen]
    ·cases hr
   ·cases c5
  ·cases c3
 ·cases hc
end
end
end Go.KX
namespace Go.KX
noncomputable section
open Go.RowKit Go.KL
section
variable {C:Chk} {P:Program} {μ μ':Mu} {w w':World} {h h':AH} {σ:Env} {σA:Tr AV} {t e:TypeId} {o:Oper}
theorem wEc {b:Pos} {off:Nat} {vs:List AV} {VS:List Value} {c:Cl} (hr:setAt h b off vs=some h') (S:Sim C P μ h w) (hv:RvL μ vs VS) (h1:∀ v ∈ VS,one v=true) (hc:μ b=some c) :
  ∃ w',(storeCells ⟨c.1,off,none⟩ VS).run P w=.ok () w'/\Sim C P μ h' w'/\Ext μ h.fl.nat w μ w'/\h'.fl=h.fl:=by
 unfold setAt at hr
 split at hr
 ·rename_i T l hB
  split at hr
  ·rename_i l' hl
   obtain ⟨c',g1,vs0,g2,g3⟩:=S.at_ b _ hB
   rw [hc] at g1;cases g1
   obtain ⟨k1,k2⟩:=wHL hl g2 hv
   obtain ⟨w',q1,q2,q3,q4⟩:=wCZ (P:=P) off VS 0 vs0 w g3 k1 h1
   obtain ⟨s1,s2,s3⟩:=S.put hr hB trivial hc q3 (B':=.cells T l') ⟨_,k2,q2⟩
   exact ⟨w',q1,s1,s2,s3⟩
  ·cases hr
 ·rename_i T sz l hB
  split at hr
  ·rename_i l' hl
   obtain ⟨c',g1,vs0,g2,g3⟩:=S.at_ b _ hB
   rw [hc] at g1;cases g1
   obtain ⟨k1,k2⟩:=wHL hl g2 hv
   obtain ⟨cur,r1,r2,r3,r4,r5⟩:=RowAt.cells g3
   have hB':Blk w c.1 T cur.toList:=by unfold Blk;rw [r1]
   have hcl:vs0.length <= cur.toList.length:=by rw [<- r5];simp;omega
   obtain ⟨w',q1,q2,q3,q4⟩:=wCZ (P:=P) off VS 0 cur.toList w hB' (by omega) h1
   obtain ⟨s1,s2,s3⟩:=S.put hr hB trivial hc q3 (B':=.row T sz l') ⟨_,k2,.inr ⟨c.1,(wES cur.toList (off + 0) VS).toArray,rfl,q2,by rw [wCE];exact r2,r3,by simp [wCE,r4],by
    rw [wCE,Nat.add_zero]
    show (wES cur.toList off VS).take vs0.length=_
    rw [wHq _ _ _ _ k1,r5]⟩⟩
   exact ⟨w',q1,s1,s2,s3⟩
  ·cases hr
 ·cases hr
def c_st (P:Program) (n:Nat) (x y:AOd):Op->Bool
 | .store t x' y'=>szT P t n && (wBm x x' && wBm y y')
 | _=>false
theorem u_st {n:Nat} {x y:AOd} {op:Op} (hc:c_st P n x y op=true):OkU C P op (wNt n x y):=by
 intro σA h v h' hr μ σ w hE S o ho
 unfold c_st at hc
 split at hc
 ·rename_i t x' y'
  simp only [hH] at hc
  obtain ⟨c1,c2,c3⟩:=hc
  unfold wNt at hr
  split at hr
  ·rename_i b off hb
   split at hr
   ·rename_i hk
    simp only [hH] at hk
    split at hr
    ·rename_i h1 hs
     cases hr
     have g:=wAJ c2 hE;rw [hb] at g
     obtain ⟨c,g1,g2⟩:=g
     obtain ⟨VS,v1,v2⟩:=wFX (wAJ c3 hE)
     obtain ⟨w',q1,q2,q3,q4⟩:=wEc hs S v1 (wDO v1 hk.2) g1
     have hn:=nA hk.1
     have hlen:VS.length=n:=by rw [wCV v1,<- wDj,hn]
     refine ⟨μ,w',q3,q2,rfl,q4,by rw [ho];rfl,?_⟩
     simp [execOp,ho,Instr.storeAt,g2,Instr.sureAddr,storeVar,v2,wCz c1,hlen,q1]
    ·cases hr
   ·cases hr
  ·cases hr
 ·cases hc
theorem wHO {sz m:Nat} {a:AV} {l:List AV} {y:Value} (hr:slice h sz a=some (m,l)) (S:Sim C P μ h w) (hy:Rv μ a y) :
  ∃ A c VS,y=.slice A m c/\RvL μ l VS/\VS.length=m * sz/\(m=0 \/ ∃ ad,A=some ad/\∀ j u,VS[j]?=some u->w.cell? (ad.add j)=some u):=by
 have key:∀ (b:Pos) (off m:Nat) (c:Cl) (l0 r:List AV),μ b=some c->wCs h b=some l0->sub l0 off (m * sz)=some r->∃ VS,RvL μ r VS/\VS.length=m * sz/\∀ j u,VS[j]?=some u->w.cell? ((⟨c.1,off,none⟩:Addr).add j)=some u:=by
  intro b off m c l0 r hc hl hs
  obtain ⟨c',vs,h1,h2,h3⟩:=wDr hl S
  rw [hc] at h1;cases h1
  obtain ⟨g1,g2⟩:=wEG hs h2
  exact ⟨_,g1,by simp;omega,fun j u hu=>by rw [wEI];exact h3 w (Keep.refl w _) _ _ (wDg rfl j u hu)⟩
 unfold slice at hr
 split at hr
 ·cases hr
  have hy:y=.slice none 0 0:=hy
  exact ⟨none,0,[],hy,rfl,by simp,.inl rfl⟩
 ·cases hr
  obtain ⟨d,_,q,rfl⟩:=hy
  exact ⟨_,_,[],rfl,rfl,by simp,.inl rfl⟩
 ·split at hr
  ·rename_i l0 hl
   split at hr
   ·rename_i r hs
    cases hr
    obtain ⟨d,h1,_,rfl⟩:=hy
    obtain ⟨VS,v1,v2,v3⟩:=key _ _ _ _ _ _ h1 hl hs
    exact ⟨_,_,VS,rfl,v1,v2,.inr ⟨_,rfl,v3⟩⟩
   ·cases hr
  ·cases hr
 ·split at hr
  ·rename_i l0 hl
   split at hr
   ·rename_i r hs
    cases hr
    obtain ⟨d,h1,_,rfl⟩:=hy
    obtain ⟨VS,v1,v2,v3⟩:=key _ _ _ _ _ _ h1 hl hs
    exact ⟨_,_,VS,rfl,v1,v2,.inr ⟨_,rfl,v3⟩⟩
   ·cases hr
  ·cases hr
 ·cases hr
theorem wGC {A A2:Option Addr} {n c c2 ty:Nat} {inf:TypeInfo} (ht:P.underlying t=some (.slice e)) (hi:P.info? e=some inf) (hnc:n <= c):(Builtin.append_ #[t,t] ty #[.slice A n c,.slice A2 0 c2]).run P w=.ok (.slice A n c) w:=by
 have hs:∀ w,(sizeOf e).run P w=.ok inf.size w:=fun w=>by simp [sizeOf,typeInfo,hi]
 cases A <;> cases A2 <;> simp [Builtin.append_,wAh ht,hs,Builtin.lenOf,Builtin.firstCells,hnc,storeCells,loadCells,loadCellsFrom]
theorem wME {T sz c:Nat} {l:List AV} {cs:List Value} {cur:Array Value} (S:Sim C P μ h w) (K:Keep w w' Non) (hl:RvL μ l cs) (hn:w'.heap[w.heap.size]?=some (.cells cur T (0,0))) (h1:cs.length <= c * sz) (h2:c <= maxLen) (h3:cur.size=c * sz) (h4:cur.toList.take cs.length=cs) :
  ∃ μ',Ext μ h.fl.nat w μ' w'/\Sim C P μ' (h.push (.row T sz l)) w'/\(h.push (.row T sz l)).fl=h.fl/\μ' h.nx=some ⟨w.heap.size,c,g0⟩:=by
 have hle:=Mu.add_le (c:=⟨w.heap.size,c,g0⟩) (S.nx h.nx (nG _))
 obtain ⟨q1,q2,q3,q4⟩:=S.push (w':=w') (c:=⟨w.heap.size,c,g0⟩) (B:=.row T sz l) K (nG _) (wAQ hn) ⟨cs,hl.mono hle,.inr ⟨_,cur,rfl,hn,h1,h2,h3,h4⟩⟩
 exact ⟨_,q2,q1,q3,q4⟩
def wNI (P:Program) (T sz by_:Nat) (x y:AOd):Op->Bool
 | .call c=>match c.callee with
  | .builtin b=>(b == .append) && (match c.args.toList,c.argTypes.toList with
   | [x',y'],[t,t']=>nB t t' && (wDa P t (fun d=>match d with | .slice e=>nB e T | _=>false) && (wBm x x' && (wBm y y' && (szT P T sz && (byT P T by_ && (match P.info? T with
    | some i=>match i.zero with | some v=>nB v.cells.size sz && (nP 0 sz && nP 0 by_) | none=>false
    | none=>false))))))
   | _,_=>false)
  | _=>false
 | _=>false
theorem wNJ {T sz by_:Nat} {x y:AOd} {op:Op} (hc:wNI P T sz by_ x y op=true) :
  ∃ x' y' t i z,op=.call { callee:=.builtin .append,args:=#[x',y'],argTypes:=#[t,t] }/\P.underlying t=some (.slice T)/\wBm x x'=true/\wBm y y'=true/\P.info? T=some i/\i.zero=some z/\i.size=sz/\i.bytes=by_/\z.cells.size=sz/\0 < sz/\0 < by_:=by
 unfold wNI at hc
 split at hc
 ·rename_i c
  obtain ⟨ce,args,tys⟩:=c
  simp only at hc
  split at hc
  ·rename_i b
   simp only [hH,beq_iff_eq] at hc
   obtain ⟨rfl,h2⟩:=hc
   split at h2
   ·rename_i x' y' t t' h3 h4
    simp only [hH] at h2
    obtain ⟨a1,a2,a3,a4,a5,a6,a7⟩:=h2
    have e:=nA a1
    subst e
    obtain ⟨d,d1,d2⟩:=wAc a2
    split at d2 <;> first | (cases d2;done) | skip
    have e:=nA d2
    subst e
    obtain ⟨i,i1,i2⟩:=wFZ a5
    obtain ⟨j,j1,j2⟩:=wFa a6
    rw [i1] at j1;cases j1
    rw [i1] at a7
    simp only at a7
    split at a7
    ·rename_i z hz
     simp only [hH,nD] at a7
     refine ⟨x',y',t,i,z,?_,d1,a3,a4,i1,hz,i2,j2,nA a7.1,a7.2.1,a7.2.2⟩
     congr 2
     ·exact nI (by simpa using h3)
     ·exact nI (by simpa using h4)
    ·cases a7
   ·cases h2
  ·cases hc
 ·cases hc
theorem wQU (v:Value) (h1:one v=true):v.oneCell'=true:=by cases v <;> first | rfl | cases h1
theorem e_app {T sz by_:Nat} {x y:AOd} {op:Op} (hc:wNI P T sz by_ x y op=true):OkE C P op (wHu T sz by_ x y):=by
 intro σA h v h' hr μ σ w hE S o ho
 obtain ⟨x',y',t,i,z,rfl,ht,c1,c2,hi,hz,i2,j2,hzs,hsz,hby⟩:=wNJ hc
 unfold wHu at hr
 split at hr
 ·rename_i m news hs
  obtain ⟨hones,hr'⟩:=wBN hr
  clear hr;have hr:=hr';clear hr'
  obtain ⟨A2,cc2,NS,e2,n1,n2,n3⟩:=wHO hs S (wAJ c2 hE)
  have hx:=wAJ c1 hE
  have h1:∀ u ∈ NS,u.oneCell'=true:=fun u hu=>wQU u (wDO n1 hones u hu)
  have fin:∀ {μ':Mu} {w':World} {cv:Value},Ext μ h.fl.nat w μ' w'->Sim C P μ' h' w'->Rv μ' v cv->h'.fl=h.fl->(Builtin.append_ #[t,t] o.type #[ev σ x',ev σ y']).run P w=.ok cv w' ->
    ∃ μ' w' cv,Ext μ h.fl.nat w μ' w'/\Sim C P μ' h' w'/\Rv μ' v cv/\h'.fl=h.fl/\Runs P σ w o cv w':=fun a b c d f =>
   ⟨_,_,_,a,b,c,d,by rw [ho];rfl,by simp [execOp,ho,resolve,invoke,builtin,f]⟩
  unfold app at hr
  split at hr
  ·have zero:∀ {A:Option Addr} {n c:Nat},ev σ x'=.slice A n c->n <= c->Rv μ v (.slice A n c)->h'=h->∃ μ' w' cv,Ext μ h.fl.nat w μ' w'/\Sim C P μ' h' w'/\Rv μ' v cv/\h'.fl=h.fl/\Runs P σ w o cv w':=by
    intro A n c hA hnc hv hh
    subst hh
    exact fin (Ext.refl μ _ w) S hv rfl (by rw [hA,e2];exact wGC ht hi hnc)
   split at hr <;> cases hr <;> rename_i hb <;> rw [hb] at hx
   ·have g:ev σ x'=.slice none 0 0:=hx
    exact zero g (nG _) rfl rfl
   ·obtain ⟨d,g1,g2,g3⟩:=hx
    exact zero g3 g2 ⟨d,g1,g2,rfl⟩ rfl
   ·obtain ⟨d,g1,g2,g3⟩:=hx
    exact zero g3 (by omega) ⟨d,g1,g2,rfl⟩ rfl
  ·rename_i m
   obtain ⟨ad,rfl,hcell⟩:∃ ad,A2=some ad/\∀ j u,NS[j]?=some u->w.cell? (ad.add j)=some u:=by
    rcases n3 with h0 | h0
    ·cases h0
    ·exact h0
   have maxb:(140737488355328:Nat) <= maxLen:=by decide
   have lenb:∀ n:Nat,n * by_ <= 140737488355328->n <= 140737488355328:=fun n hn=>nf (np _ hby) hn
   split at hr
   ·rename_i hb
    rw [hb] at hx
    have hx:ev σ x'=.slice none 0 0:=hx
    obtain ⟨hble,hr'⟩:=wBN hr
    clear hr;have hr:=hr';clear hr'
    cases hr
    have hble:=nL hble
    obtain ⟨A',c',w',r1,r2,r3,r4⟩:=wCa (P:=P) (w:=w) (A:=none) (c:=0) (n:=0) (cs:=[]) (ty:=o.type) (c2:=cc2) ht hi hz i2 hzs hsz (.inl ⟨rfl,rfl,rfl⟩) (by simp) n2 (.inr ⟨ad,rfl,hcell⟩) h1 (by rw [j2,kO];exact hble) (by omega)
    rcases r2 with ⟨_,_,q⟩ | ⟨b,cur,rfl,q1,q2,q3,q4,q5⟩
    ·exfalso
     have:([] ++ NS).length=0:=by rw [q];rfl
     rw [nV,n2] at this
     have:=kg (Nat.succ_pos m) hsz
     omega
    ·have hb:w.heap.size <= b:=by
      rcases r4 b rfl with q | q
      ·cases q
      ·exact q
     have K:Keep w w' Non:=r3.weak fun i _ q=>by cases q
     rw [nV] at q2 q5
     have hle:=Mu.add_le (c:=⟨b,c',g0⟩) (S.nx h.nx (nG _))
     obtain ⟨s1,s2,s3,s4⟩:=S.push (w':=w') (c:=⟨b,c',g0⟩) (B:=.row T sz news) K hb (wAQ q1) ⟨NS,n1.mono hle,.inr ⟨_,cur,rfl,q1,q2,q3,q4,q5⟩⟩
     refine fin s2 s1 ⟨_,s4,?_,?_⟩ s3 (by rw [hx,e2];exact r1)
     ·rw [n2] at q2
      have:=nW q2 hsz
      simpa using this
     ·simp
   ·rename_i b off n c hb
    rw [hb] at hx
    obtain ⟨d,g1,g2,g3⟩:=hx
    split at hr
    ·rename_i hle
     have hle:=nL hle
     split at hr
     ·rename_i h1' hset
      cases hr
      obtain ⟨w',q1,q2,q3,q4⟩:=wEc hset S n1 (wDO n1 hones) g1
      refine fin q3 q2 ⟨d,g1,hle,rfl⟩ q4 ?_
      rw [g3,e2]
      have hf:=run_firstCells_some (P:=P) w i.size (m + 1) ad (m + 1) cc2 NS (by rw [i2];exact n2) hcell
      rw [i2] at hf
      simp [Builtin.append_,wAh ht,sizeOf,typeInfo,hi,Builtin.lenOf,hle,hf,wEI,i2,q1]
     ·cases hr
    ·rename_i hlt
     obtain ⟨hble,hr'⟩:=wBN hr
     clear hr;have hr:=hr';clear hr'
     have hble:=nL hble
     split at hr
     ·rename_i nn olds hold
      cases hr
      have hgt:c < n + (m + 1):=by
       rcases ny c (n + (m + 1)) with q | q
       ·exact q
       ·have q':kM (n + (m + 1)) c=true:=by rw [nM];exact q
        rw [q'] at hlt;cases hlt
      obtain ⟨A1,cc1,OS,k1,k2,k3,k4⟩:=wHO hold S (show Rv μ (.sl b off n c) _ from ⟨d,g1,g2,rfl⟩)
      cases k1
      have hlen:=lenb _ hble
      have olds':∀ j v,OS[j]?=some v->w.cell? ((⟨d.1,off,none⟩:Addr).add j)=some v:=by
       rcases k4 with q | ⟨ad',q1,q2⟩
       ·intro j v hv
        have hnil:OS=[]:=nR (by rw [k3,q];simp)
        rw [hnil] at hv
        simp at hv
       ·cases q1;exact q2
      have hr:=run_append_grow (P:=P) w t o.type T i z ht hi hz ⟨d.1,off,none⟩ n c OS (by rw [i2];exact k3) olds' ad (m + 1) cc2 NS (by rw [i2];exact n2) hcell hgt (by omega) (growslice_fits hgt (by rw [j2];exact hble))
      have hge:=grownCap_ge w (n + (m + 1)) c T
      have hcm:grownCap w (n + (m + 1)) c T <= maxLen:=grownCap_le_maxLen w (n + (m + 1)) c T (by omega)
      have hlen2:(OS ++ NS).length=(n + (m + 1)) * sz:=by rw [ng,k3,n2,kB]
      obtain ⟨μ',s1,s2,s3,s4⟩:=wME (T:=T) (sz:=sz) (c:=grownCap w (n + (m + 1)) c T) (w':=w.drew.alloc (.cells (OS.toArray ++ NS.toArray ++ Builtin.zeroCells z.cells (grownCap w (n + (m + 1)) c T - (n + (m + 1)))) T)) (cur:=OS.toArray ++ NS.toArray ++ Builtin.zeroCells z.cells (grownCap w (n + (m + 1)) c T - (n + (m + 1)))) S
       ((Keep.drew w).non (wAn w.drew _)) (wDN k2 n1) (heap_alloc_new w.drew _) (by rw [hlen2];exact nw _ hge) hcm
       (by
        simp only [kf,kH,size_zeroCells,hzs,k3,n2,<- kB]
        congr 1
        omega)
       (by simp only [kY,nr];rw [<- nr];exact List.take_left)
      refine fin s1 s2 ⟨_,s4,?_,?_⟩ s3 (by rw [g3,e2];exact hr)
      ·simpa using hge
      ·simp
     ·cases hr
   ·rename_i b eo co n hb
    rw [hb] at hx
    obtain ⟨d,g1,g2,g3⟩:=hx
    split at hr
    ·rename_i T' sz' l hB
     split at hr
     ·rename_i hin
      simp only [hH] at hin
      obtain ⟨p1,p2,p3,p4⟩:=hin
      have p1:=nL p1
      have p2:=nA p2
      have p3:=nA p3
      have p4:=nA p4
      subst p2 p3 p4
      split at hr
      ·rename_i h1' hset
       cases hr
       obtain ⟨d',k1,OS,k2,k3⟩:=S.at_ b _ hB
       rw [g1] at k1;cases k1
       obtain ⟨cur,r1,r2,_⟩:=RowAt.cells k3
       have hle:n + (m + 1) <= d.2:=by
        rw [wDj,<- wCV k2] at p1
        exact nW (nf p1 r2) hsz
       obtain ⟨w',q1,q2,q3,q4⟩:=wEc hset S n1 (wDO n1 hones) g1
       refine fin q3 q2 ⟨d,g1,by omega,rfl⟩ q4 ?_
       rw [g3,e2]
       have hf:=run_firstCells_some (P:=P) w i.size (m + 1) ad (m + 1) cc2 NS (by rw [i2];exact n2) hcell
       rw [i2] at hf
       simp [Builtin.append_,wAh ht,sizeOf,typeInfo,hi,Builtin.lenOf,hle,hf,wEI,i2,q1]
      ·cases hr
     obtain ⟨hcond,hr'⟩:=wBN hr
     clear hr;have hr:=hr';clear hr'
     simp only [hH] at hcond
     obtain ⟨⟨⟨⟨⟨q1,q2⟩,q3⟩,q4⟩,q5⟩,q6⟩:=hcond
     have q1:=nA q1
     have q2:=nA q2
     have q3:=nA q3
     have q4:=nA q4
     have q5:=nA q5
     have hble:=nL q6
     subst q1 q2 q3 q4
     split at hr
     ·rename_i h1' hput
      cases hr
      obtain ⟨d',k1,OS,k2,k3⟩:=S.at_ b _ hB
      rw [g1] at k1;cases k1
      have hol:OS.length=n * sz:=by rw [wCV k2,<- wDj,<- q5]
      obtain ⟨A',c',w',r1,r2,r3,r4⟩:=wCa (P:=P) (w:=w) (A:=some ⟨d.1,0,none⟩) (c:=d.2) (n:=n) (cs:=OS) (ty:=o.type) (c2:=cc2) ht hi hz i2 hzs hsz k3 hol n2 (.inr ⟨ad,rfl,hcell⟩) h1 (by rw [j2];exact hble) (by omega)
      rcases r2 with ⟨_,_,q⟩ | ⟨b',cur,rfl,p1,p2,p3,p4,p5⟩
      ·exfalso
       have:(OS ++ NS).length=0:=by rw [q];rfl
       rw [ng,n2] at this
       have:=kg (Nat.succ_pos m) hsz
       omega
      ·have hb':b'=d.1 \/ w.heap.size <= b':=by
        rcases r4 b' rfl with q | q
        ·cases q;exact .inl rfl
        ·exact .inr q
       have K:Keep w w' (·=d.1):=r3.weak fun i _ q=>by cases q;rfl
       have hle:=Mu.add_le (c:=⟨b',c',g0⟩) (S.nx h.nx (nG _))
       have hnx:h.nx=h.nx:=rfl
       obtain ⟨s1,s2,s3,s4⟩:=S.move (w':=w') (d:=⟨b',c',g0⟩) (B':=.row T sz (l ++ news)) hput hB trivial g1 K hb' (wAQ p1) ⟨OS ++ NS,(wDN k2 n1).mono hle,.inr ⟨_,cur,rfl,p1,p2,p3,p4,p5⟩⟩
       refine fin s2 s1 ⟨_,s4,?_,?_⟩ s3 (by rw [g3,e2];simpa using r1)
       ·rw [ng,hol,n2,<- kB] at p2
        have:=nW p2 hsz
        simpa using this
       ·simp
     ·cases hr
    ·cases hr
   ·cases hr
 ·cases hr
def wOo (P:Program) (sz:Nat) (x y:AOd):Op->Bool
 | .call c=>match c.callee with
  | .builtin b=>(b == .copy) && (match c.args.toList,c.argTypes.toList with
   | [x',y'],t :: _=>wDa P t (fun d=>match d with | .slice e=>szT P e sz | _=>false) && (wBm x x' && wBm y y')
   | _,_=>false)
  | _=>false
 | _=>false
theorem e_cpy {sz:Nat} {x y:AOd} {op:Op} (hc:wOo P sz x y op=true):OkE C P op (wHv sz x y):=by
 intro σA h v h' hr μ σ w hE S o ho
 unfold wOo at hc
 split at hc
 ·rename_i c
  obtain ⟨ce,args,tys⟩:=c
  simp only at hc
  split at hc
  ·rename_i b
   simp only [hH,beq_iff_eq] at hc
   obtain ⟨rfl,h2⟩:=hc
   split at h2
   ·rename_i x' y' t ts h3 h4
    simp only [hH] at h2
    obtain ⟨a1,a2,a3⟩:=h2
    obtain ⟨d,d1,d2⟩:=wAc a1
    split at d2 <;> first | (cases d2;done) | skip
    rename_i e
    have ea:args=#[x',y']:=nI (by simpa using h3)
    have et:tys[0]?=some t:=by rw [<- kV,h4];rfl
    unfold wHv at hr
    split at hr
    ·rename_i b off n cc m news hx hs
     split at hr
     ·rename_i vs hsub
      obtain ⟨hones,hr'⟩:=wBN hr
      clear hr;have hr:=hr';clear hr'
      split at hr
      ·rename_i h1' hset
       cases hr
       have g:=wAJ a2 hE;rw [hx] at g
       obtain ⟨c0,g1,_,g3⟩:=g
       obtain ⟨A2,cc2,NS,e2,n1,n2,n3⟩:=wHO hs S (wAJ a3 hE)
       generalize hk:(if kM m n=true then m else n)=k at hsub ⊢
       have hmin:Nat.min m n=k:=by
        rw [<- hk]
        by_cases q:m <= n
        ·rw [if_pos (by rw [nM];exact q)];exact Nat.min_eq_left q
        ·rw [if_neg (by rw [nM];exact q)];exact Nat.min_eq_right (by omega)
       obtain ⟨k1,k2⟩:=wEG hsub n1
       rw [List.drop_zero] at k1
       obtain ⟨w',q1,q2,q3,q4⟩:=wEc hset S k1 (wDO k1 hones) g1
       refine ⟨μ,w',_,q3,q2,rfl,q4,by rw [ho];rfl,?_⟩
       have hf:∀ (w1:World),w1=w->(Builtin.firstCells sz k (.slice A2 m cc2)).run P w1=.ok (NS.take (k * sz)).toArray w1:=by
        intro w1 hw1
        subst hw1
        cases A2 with
        | none =>
         have hm:m=0:=by
          rcases n3 with q | ⟨_,q,_⟩
          ·exact q
          ·cases q
         have hN:NS=[]:=nR (by rw [n2,hm];simp)
         subst hN
         simp [Builtin.firstCells]
        | some ad =>
         have hcell:∀ j u,(NS.take (k * sz))[j]?=some u->w1.cell? (ad.add j)=some u:=by
          intro j u hu
          rw [kD] at hu
          split at hu
          ·rcases n3 with q | ⟨ad',q,q'⟩
           ·have hN:NS=[]:=nR (by rw [n2,q];simp)
            subst hN;simp at hu
           ·cases q;exact q' j u hu
          ·cases hu
         exact run_firstCells_some (P:=P) w1 sz k ad m cc2 (NS.take (k * sz)) (by rw [List.length_take];omega) hcell
       have hs2:=wCz d2
       simp [execOp,ho,ea,et,resolve,invoke,builtin,Builtin.copy_,wAh d1,g3,e2,Builtin.lenOf,hmin,hs2,hf w rfl,q1,goInt,Result.andThen]
      ·cases hr
     ·cases hr
    ·cases hr
   ·cases h2
  ·cases hc
 ·cases hc
def wOp (P:Program) (z:List AV) (x:AOd):Op->Bool
 | .call c=>match c.callee with
  | .builtin b=>(b == .clear) && (match c.args.toList,c.argTypes.toList with
   | [x'],[t]=>wDa P t (fun d=>match d with | .slice e=>zT P e z | _=>false) && wBm x x'
   | _,_=>false)
  | _=>false
 | _=>false
theorem wDE {zc:Array Value} (c:Nat):(Builtin.zeroCells zc c).toList=(nS c zc.toList).flatten:=by
 have:=wEJ (zc:=zc) (n:=0) c
 simp only [or_false] at this
 exact this
def wOq (P:Program) (T sz by_:Nat) (z:List AV) (x y:AOd):Op->Bool
 | .call c=>match c.callee with
  | .builtin b=>(b == .append) && (match c.args.toList,c.argTypes.toList with
   | [x',y'],[t,t']=>wDa P t (fun d=>match d with | .slice e=>nB e T | _=>false) && (wDa P t' (fun d=>match d with | .int _=>true | _=>false) && (wBm x x' && (wBm y y' && (szT P T sz && (byT P T by_ && (zT P T z && (nB (len z) sz && (nP 0 sz && nP 0 by_))))))))
   | _,_=>false)
  | _=>false
 | _=>false
theorem e_apz {T sz by_:Nat} {z:List AV} {x y:AOd} {op:Op} (hc:wOq P T sz by_ z x y op=true):OkE C P op (wHz T sz by_ z x y):=by
 intro σA h v h' hr μ σ w hE S o ho
 unfold wOq at hc
 split at hc <;> first | (cases hc;done) | skip
 rename_i c
 obtain ⟨ce,args,tys⟩:=c
 simp only at hc
 split at hc <;> first | (cases hc;done) | skip
 rename_i b
 simp only [hH,beq_iff_eq] at hc
 obtain ⟨rfl,h2⟩:=hc
 split at h2 <;> first | (cases h2;done) | skip
 rename_i x' y' t t' h3 h4
 simp only [hH] at h2
 obtain ⟨a1,a2,a3,a4,a5,a6,a7,a8,a9,a10⟩:=h2
 have hargs:args=#[x',y']:=nI (by simpa using h3)
 have htys:tys=#[t,t']:=nI (by simpa using h4)
 subst hargs htys
 obtain ⟨d,d1,d2⟩:=wAc a1
 split at d2 <;> first | (cases d2;done) | skip
 have e:=nA d2
 subst e
 rename_i e
 obtain ⟨dn,n1,n2⟩:=wAc a2
 split at n2 <;> first | (cases n2;done) | skip
 rename_i kn
 obtain ⟨i,i1,i2⟩:=wFZ a5
 obtain ⟨i',j1,j2⟩:=wFa a6
 obtain ⟨i'',zv,k1,k2,k3⟩:=wEH a7
 rw [i1] at j1 k1;cases j1;cases k1
 have hz:=nA a8
 have hsz:0 < sz:=by simpa [nD] using a9
 have hx:=wAJ a3 hE
 have hy:=wAJ a4 hE
 have fin:∀ {μ':Mu} {w':World} {cv:Value},Ext μ h.fl.nat w μ' w'->Sim C P μ' h' w'->Rv μ' v cv->h'.fl=h.fl->(Builtin.append_ #[t,t'] o.type #[ev σ x',ev σ y']).run P w=.ok cv w' ->
   ∃ μ' w' cv,Ext μ h.fl.nat w μ' w'/\Sim C P μ' h' w'/\Rv μ' v cv/\h'.fl=h.fl/\Runs P σ w o cv w':=fun a b c d f =>
  ⟨_,_,_,a,b,c,d,by rw [ho];rfl,by simp [execOp,ho,resolve,invoke,builtin,f]⟩
 have zlen:zv.cells.size=sz:=by rw [<- hz,wDj,<- wCV (k3 μ)];simp
 unfold wHz at hr
 split at hr
 ·rename_i nn hxs hn
  rw [hxs] at hx
  rw [wBk hn] at hy
  have hx:ev σ x'=.slice none 0 0:=hx
  have hy:ev σ y'=.int .i64 (nn:Int):=hy
  cases nn with
  | zero =>
   cases hr
   refine fin (Ext.refl μ _ w) S rfl rfl ?_
   rw [hx,hy]
   simp [Builtin.append_,run_underlying d1,run_underlying n1,sizeOf,typeInfo,i1,asInt,asIntOf,IntKind.wrap_i64]
  | succ m =>
   obtain ⟨hble,hr⟩:=wBN hr
   have hble:=nL hble
   cases hr
   have hby:0 < by_:=by simpa [nD] using a10
   have hnb:m + 1 <= 140737488355328:=nf (np _ hby) hble
   have hrun:=Go.Lib.run_append_nil_zeros (P:=P) w t t' o.type e i zv .i64 kn d1 n1 i1 k2 (m + 1) (by omega) (by rw [i2];exact hsz) (by omega) (by rw [j2];omega)
   have hge:=grownCap_ge w (m + 1) 0 e
   have maxb:(140737488355328:Nat) <= maxLen:=by decide
   have hcm:grownCap w (m + 1) 0 e <= maxLen:=grownCap_le_maxLen w (m + 1) 0 e (by omega)
   have hcs:((nS (m + 1) zv.cells.toList).flatten).length=(m + 1) * sz:=by rw [<- wDE];simp [size_zeroCells,zlen]
   obtain ⟨μ',s1,s2,s3,s4⟩:=wME (T:=e) (sz:=sz) (c:=grownCap w (m + 1) 0 e) (w':=w.drew.alloc (.cells (Builtin.zeroCells zv.cells (m + 1) ++ Builtin.zeroCells zv.cells (grownCap w (m + 1) 0 e - (m + 1))) e)) (cur:=Builtin.zeroCells zv.cells (m + 1) ++ Builtin.zeroCells zv.cells (grownCap w (m + 1) 0 e - (m + 1))) S
    ((Keep.drew w).non (wAn w.drew _)) (wFw (k3 μ) (m + 1)) (heap_alloc_new w.drew _) (by rw [hcs];exact nw _ hge) hcm
    (by
     simp only [kf,size_zeroCells,zlen,<- kB]
     congr 1
     omega)
    (by
     rw [kY,wDE]
     exact List.take_left)
   refine fin s1 s2 ⟨_,s4,?_,?_⟩ s3 (by rw [hx,hy];exact hrun)
   ·simpa using hge
   ·simp
 ·cases hr
theorem e_clr {z:List AV} {x:AOd} {op:Op} (hc:wOp P z x op=true):OkE C P op (wHw z x):=by
 intro σA h v h' hr μ σ w hE S o ho
 unfold wOp at hc
 split at hc
 ·rename_i c
  obtain ⟨ce,args,tys⟩:=c
  simp only at hc
  split at hc
  ·rename_i b
   simp only [hH,beq_iff_eq] at hc
   obtain ⟨rfl,h2⟩:=hc
   split at h2
   ·rename_i x' t h3 h4
    simp only [hH] at h2
    obtain ⟨a1,a2⟩:=h2
    obtain ⟨d,d1,d2⟩:=wAc a1
    split at d2 <;> first | (cases d2;done) | skip
    rename_i e
    have ea:args=#[x']:=nI (by simpa using h3)
    have et:tys=#[t]:=nI (by simpa using h4)
    subst ea et
    have hx:=wAJ a2 hE
    obtain ⟨i,zv,z1,z2,z3⟩:=wEH d2
    have zero:∀ {A:Option Addr} {c:Nat},ev σ x'=.slice A 0 c->v=u->h'=h->∃ μ' w' cv,Ext μ h.fl.nat w μ' w'/\Sim C P μ' h' w'/\Rv μ' v cv/\h'.fl=h.fl/\Runs P σ w o cv w':=by
     intro A c hA hv hh
     subst hv hh
     refine ⟨μ,w,undef,Ext.refl μ _ w,S,wLk μ,rfl,by rw [ho];rfl,?_⟩
     cases A <;> simp [execOp,ho,resolve,invoke,builtin,Builtin.clear_,hA,wAh d1,undef]
    have full:∀ {b:Pos} {c:Cl} {off n cap:Nat},μ b=some c->ev σ x'=.slice (some ⟨c.1,off,none⟩) n cap->clr h z b off n=some (v,h')->∃ μ' w' cv,Ext μ h.fl.nat w μ' w'/\Sim C P μ' h' w'/\Rv μ' v cv/\h'.fl=h.fl/\Runs P σ w o cv w':=by
     intro b c off n cap hb hA hr
     unfold clr at hr
     split at hr
     ·cases hr;exact zero hA rfl rfl
     ·rename_i n
      obtain ⟨hones,hr'⟩:=wBN hr
      split at hr'
      ·rename_i h1' hset
       cases hr'
       have k1:=wFw (z3 μ) (n + 1)
       have k2:∀ v ∈ (nS (n + 1) zv.cells.toList).flatten,one v=true:=by
        intro v hv
        simp only [List.mem_flatten,List.mem_replicate] at hv
        obtain ⟨l,⟨_,rfl⟩,hv⟩:=hv
        exact wDO (z3 μ) hones v hv
       obtain ⟨w',q1,q2,q3,q4⟩:=wEc hset S k1 k2 hb
       refine ⟨μ,w',undef,q3,q2,wLk μ,q4,by rw [ho];rfl,?_⟩
       rw [<- wDE] at q1
       simp [execOp,ho,resolve,invoke,builtin,Builtin.clear_,hA,wAh d1,wDA z1 z2,q1,undef,Result.andThen]
      ·cases hr'
    unfold wHw at hr
    split at hr
    ·rename_i hb;rw [hb] at hx;obtain ⟨c,g1,_,g3⟩:=hx;exact full g1 g3 hr
    ·rename_i hb;rw [hb] at hx;obtain ⟨c,g1,_,g3⟩:=hx;exact full g1 g3 hr
    ·rename_i hb;rw [hb] at hx;cases hr;obtain ⟨c,g1,q,g3⟩:=hx;exact zero g3 rfl rfl
    ·rename_i hb;rw [hb] at hx;cases hr;have hx:ev σ x'=.slice none 0 0:=hx;exact zero hx rfl rfl
    ·cases hr
   ·cases h2
  ·cases hc
 ·cases hc
end
end
end Go.KX
namespace Go.KX
noncomputable section
open Go.RowKit Go.KL
section
variable {C:Chk} {P:Program} {μ μ':Mu} {w w':World} {h h':AH} {σ:Env} {σA:Tr AV} {t e:TypeId} {o:Oper} {K:Type} [DecidableEq K]
def wMw (P:Program) (two:Bool) (k:IntKind) (kt:TypeId):Bool:=match two with
 | false=>wDa P kt fun d=>match wLq d with | some k'=>keq k k' | none=>false
 | true=>(!P.stoodInHeld kt) && wDa P kt fun d=>match d with
  | .struct fs=>match fs.toList with
   | [f, g] => nB f.type g.type && (nB f.offset 0 && (nB g.offset 1 && ((f.name != "_") && ((g.name != "_") && wDa P f.type fun d => match wLq d with | some k' => keq k k' | none => false))))
   | _=>false
  | _=>false
theorem keyI {k:IntKind} {kt:TypeId} (hc:wMw P false k kt=true):KeyR P kt (fun n:Int=>kE k n):=by
 obtain ⟨d,d1,d2⟩:=wAc hc
 cases d <;> first | (cases d2;done) | skip
 have:=wBQ d2
 subst this
 exact KeyR.ofInt d1
theorem wKZ {k:IntKind} {kt:TypeId} (hc:wMw P true k kt=true):KeyR P kt (mk2 k):=by
 simp only [wMw,hH,nh] at hc
 obtain ⟨c0,c1⟩:=hc
 obtain ⟨d,d1,d2⟩:=wAc c1
 split at d2
 ·rename_i fs
  split at d2
  ·rename_i f g hfs
   simp only [hH] at d2
   obtain ⟨a1,a2,a3,a4,a5,a6⟩:=d2
   obtain ⟨di,i1,i2⟩:=wAc a6
   cases di <;> first | (cases i2;done) | skip
   have ek:=wBQ i2
   subst ek
   have efs:fs=#[f,g]:=nI (by simpa using hfs)
   subst efs
   have T:Two P kt f.type f g k:=⟨d1,rfl,nA a2,by simpa using a4,(nA a1).symm,nA a3,by simpa using a5,i1,fun w=>wFy i1 w,c0⟩
   exact T.keyR (mk2 k) (·.1) (·.2) (fun _=>rfl) fun x y h1 h2=>Prod.ext h1 h2
  ·cases d2
 ·cases d2
theorem mrI {l:List (Int × AV)} {tt:List (Int × Value)} (hm:MR μ l tt) (n:Int):(wKP l n=none/\wKL tt n=none) \/ ∃ a v,wKP l n=some a/\wKL tt n=some v/\Rv μ a v:=by
 induction l generalizing tt with
 | nil=>cases tt with
  | nil=>exact .inl ⟨rfl,rfl⟩
  | cons q tt=>have:=hm.1;simp at this
 | cons p l ih =>
  cases tt with
  | nil=>have:=hm.1;simp at this
  | cons q tt =>
   obtain ⟨a,x⟩:=p
   obtain ⟨b,v⟩:=q
   obtain ⟨h1,h2⟩:=hm
   simp only [nJ,nE] at h1
   obtain ⟨v',ws,g1,g2,g3⟩:=h2
   simp only [nJ,nE] at g3
   obtain ⟨rfl,rfl⟩:=g3
   obtain ⟨rfl,h1⟩:=h1
   simp only [wKP,wKL]
   by_cases e:n=a
   ·right;exact ⟨x,v,by simp [wDP,e],by simp [e],g1⟩
   ·have:=ih (tt:=tt) ⟨h1,g2⟩
    simpa [wDP,e] using this
theorem wOr {l:List (Int × AV)} {tt:List (Int × Value)} (hm:MR μ l tt) (n:Int) {a:AV} {v:Value} (hv:Rv μ a v):MR μ (wLG l n a) (mput tt n v):=by
 induction l generalizing tt with
 | nil=>cases tt with
  | nil=>exact ⟨rfl,wBM hv wFv⟩
  | cons q tt=>have:=hm.1;simp at this
 | cons p l ih =>
  cases tt with
  | nil=>have:=hm.1;simp at this
  | cons q tt =>
   obtain ⟨b,x⟩:=p
   obtain ⟨b',v0⟩:=q
   obtain ⟨h1,h2⟩:=hm
   simp only [nJ,nE] at h1
   obtain ⟨v',ws,g1,g2,g3⟩:=h2
   simp only [nJ,nE] at g3
   obtain ⟨rfl,rfl⟩:=g3
   obtain ⟨rfl,h1⟩:=h1
   simp only [wLG,mput,wDP]
   by_cases e:n=b
   ·simp only [e,decide_true,if_true]
    exact ⟨by simp [h1],wBM hv g2⟩
   ·have:=ih (tt:=tt) ⟨h1,g2⟩
    simp only [e,decide_false,if_false]
    exact ⟨by simp [this.1],wBM g1 this.2⟩
theorem wOs {l:List (Int × AV)} {tt:List (Int × Value)} (hm:MR μ l tt) (n:Int):MR μ (wLI l n) (mdel tt n):=by
 induction l generalizing tt with
 | nil=>cases tt with
  | nil=>exact ⟨rfl,rfl⟩
  | cons q tt=>have:=hm.1;simp at this
 | cons p l ih =>
  cases tt with
  | nil=>have:=hm.1;simp at this
  | cons q tt =>
   obtain ⟨b,x⟩:=p
   obtain ⟨b',v0⟩:=q
   obtain ⟨h1,h2⟩:=hm
   simp only [nJ,nE] at h1
   obtain ⟨v',ws,g1,g2,g3⟩:=h2
   simp only [nJ,nE] at g3
   obtain ⟨rfl,rfl⟩:=g3
   obtain ⟨rfl,h1⟩:=h1
   simp only [wLI,mdel,wDP]
   by_cases e:n=b
   ·simp only [e,decide_true,if_true]
    exact ⟨h1,g2⟩
   ·have:=ih (tt:=tt) ⟨h1,g2⟩
    simp only [e,decide_false,if_false]
    exact ⟨by simp [this.1],wBM g1 this.2⟩
theorem z2 (x y a b:Int):(zeq x a && zeq y b)=decide ((x,y)=(a,b)):=by
 rw [wDP,wDP]
 by_cases h1:x=a <;> by_cases h2:y=b <;> simp [h1,h2]
theorem mr2 {l:List ((Int × Int) × AV)} {tt:List ((Int × Int) × Value)} (hm:MR μ l tt) (x y:Int):(wKO l x y=none/\wKL tt (x,y)=none) \/ ∃ a v,wKO l x y=some a/\wKL tt (x,y)=some v/\Rv μ a v:=by
 induction l generalizing tt with
 | nil=>cases tt with
  | nil=>exact .inl ⟨rfl,rfl⟩
  | cons q tt=>have:=hm.1;simp at this
 | cons p l ih =>
  cases tt with
  | nil=>have:=hm.1;simp at this
  | cons q tt =>
   obtain ⟨⟨a,b⟩,x0⟩:=p
   obtain ⟨b',v⟩:=q
   obtain ⟨h1,h2⟩:=hm
   simp only [nJ,nE] at h1
   obtain ⟨v',ws,g1,g2,g3⟩:=h2
   simp only [nJ,nE] at g3
   obtain ⟨rfl,rfl⟩:=g3
   obtain ⟨rfl,h1⟩:=h1
   simp only [wKO,wKL,z2]
   by_cases e:(x,y)=(a,b)
   ·right;exact ⟨x0,v,by simp only [e,decide_true],by simp only [e,if_true],g1⟩
   ·have:=ih (tt:=tt) ⟨h1,g2⟩
    simp only [e,decide_false,if_false]
    exact this
theorem wOt {l:List ((Int × Int) × AV)} {tt:List ((Int × Int) × Value)} (hm:MR μ l tt) (x y:Int) {a:AV} {v:Value} (hv:Rv μ a v):MR μ (wLF l x y a) (mput tt (x,y) v):=by
 induction l generalizing tt with
 | nil=>cases tt with
  | nil=>exact ⟨rfl,wBM hv wFv⟩
  | cons q tt=>have:=hm.1;simp at this
 | cons p l ih =>
  cases tt with
  | nil=>have:=hm.1;simp at this
  | cons q tt =>
   obtain ⟨⟨b1,b2⟩,x0⟩:=p
   obtain ⟨b',v0⟩:=q
   obtain ⟨h1,h2⟩:=hm
   simp only [nJ,nE] at h1
   obtain ⟨v',ws,g1,g2,g3⟩:=h2
   simp only [nJ,nE] at g3
   obtain ⟨rfl,rfl⟩:=g3
   obtain ⟨rfl,h1⟩:=h1
   simp only [wLF,mput,z2]
   by_cases e:(x,y)=(b1,b2)
   ·simp only [e,decide_true,if_true]
    exact ⟨by simp [h1],wBM hv g2⟩
   ·have:=ih (tt:=tt) ⟨h1,g2⟩
    simp only [e,decide_false,if_false]
    exact ⟨by simp [this.1],wBM g1 this.2⟩
theorem wOu {l:List ((Int × Int) × AV)} {tt:List ((Int × Int) × Value)} (hm:MR μ l tt) (x y:Int):MR μ (wLH l x y) (mdel tt (x,y)):=by
 induction l generalizing tt with
 | nil=>cases tt with
  | nil=>exact ⟨rfl,rfl⟩
  | cons q tt=>have:=hm.1;simp at this
 | cons p l ih =>
  cases tt with
  | nil=>have:=hm.1;simp at this
  | cons q tt =>
   obtain ⟨⟨b1,b2⟩,x0⟩:=p
   obtain ⟨b',v0⟩:=q
   obtain ⟨h1,h2⟩:=hm
   simp only [nJ,nE] at h1
   obtain ⟨v',ws,g1,g2,g3⟩:=h2
   simp only [nJ,nE] at g3
   obtain ⟨rfl,rfl⟩:=g3
   obtain ⟨rfl,h1⟩:=h1
   simp only [wLH,mdel,z2]
   by_cases e:(x,y)=(b1,b2)
   ·simp only [e,decide_true,if_true]
    exact ⟨h1,g2⟩
   ·have:=ih (tt:=tt) ⟨h1,g2⟩
    simp only [e,decide_false,if_false]
    exact ⟨by simp [this.1],wBM g1 this.2⟩
theorem wQV {mt kt et:TypeId} {m ck:Nat} {es:Array MapEntry} {mk:K->Value} {tt:List (K × Value)} {a:K} {z:Value} {ok:Bool} (hm:w.heap[m]?=some (.map es ck)) (hu:P.underlying mt=some (.map kt et)) (R:KeyR P kt mk) (hz:∀ w,(zeroValue et).run P w=.ok z w) (hh:MpR es mk id tt) :
  (Instr.lookup mt (.map (some m)) (mk a) ok).run P w=.ok (if ok then .tuple #[wHp tt a z,.bool (wOP tt a)] else wHp tt a z) w:=by
 have hf:=R.find id es.toList tt a w hh
 have hg:=wIZ tt a 0
 unfold wHp wOP
 simp [Instr.lookup,run_underlying hu,MapKept.run_getObj_map hm,R.chk,hf,Result.andThen,<- hg]
 cases e:wCf tt a 0 <;> simp [hz,Result.andThen]
theorem wOv {mt kt et:TypeId} {m ck:Nat} {es:Array MapEntry} {mk:K->Value} {tt:List (K × Value)} {a:K} {v:Value} (hm:w.heap[m]?=some (.map es ck)) (hu:P.underlying mt=some (.map kt et)) (R:KeyR P kt mk) (hh:MpR es mk id tt) :
  ∃ es' ck',MpR es' mk id (mput tt a v)/\(Instr.mapUpdate mt (.map (some m)) (mk a) v).run P w=.ok () (w.putObj m (.map es' ck')):=by
 have hf:=R.find id es.toList tt a w hh
 cases e:wCf tt a 0 with
 | none =>
  obtain ⟨e1,_⟩:=wEB e v
  refine ⟨es.push { key:=mk a,val:=v,born:=ck },ck + 1,?_,?_⟩
  ·unfold MpR at hh ⊢;rw [e1];simp [hh]
  ·simp [Instr.mapUpdate,run_underlying hu,MapKept.run_getObj_map hm,R.chk,hf,e,Result.andThen,MapKept.run_setObj_map _ hm]
   rfl
 | some p =>
  obtain ⟨q,u⟩:=p
  obtain ⟨_,h2,h3,_⟩:=wEC e v
  rw [Nat.sub_zero] at h2 h3
  have hq:q < tt.length:=(nK.1 h2).1
  have hl:es.size=tt.length:=by have:=congrArg kC hh;simpa using this
  have hkq:((es[q]?).map (·.key)).getD (mk a)=mk a:=by
   have h4:(es.toList.map (fun e=>(e.key,e.val)))[q]?=some (mk a,u):=by rw [hh,nu,h2];rfl
   rw [nu] at h4
   cases h5:es.toList[q]? with
   | none=>rw [h5] at h4;cases h4
   | some e =>
    rw [h5] at h4
    simp only [kl,ke,Prod.mk.injEq] at h4
    have h6:es[q]?=some e:=by simpa using h5
    rw [h6];simp [h4.1]
  refine ⟨es.modify q fun e=>{ e with key:=mk a,val:=v },ck,?_,?_⟩
  ·unfold MpR at hh ⊢
   rw [h3]
   apply List.ext_getElem?
   intro n
   have hn:=congrArg (·[n]?) hh
   simp only [nu] at hn ⊢
   rw [List.getElem?_set]
   simp only [Array.toList_modify,List.getElem?_modify]
   by_cases hqn:q=n
   ·subst hqn
    have h5:es.toList[q]?=some (es.toList[q]'(by simpa [hl] using hq)):=nH _
    simp [h5,hq]
   ·simp only [hqn,if_false]
    simpa [hqn] using hn
  ·simp [Instr.mapUpdate,run_underlying hu,MapKept.run_getObj_map hm,R.chk,hf,e,Result.andThen,MapKept.run_setObj_map _ hm,Instr.keyThatStays,hkq,R.same]
   rfl
theorem wOw {mt kt et ty:TypeId} {tys:Array TypeId} {m ck:Nat} {es:Array MapEntry} {mk:K->Value} {tt:List (K × Value)} {a:K} (hty:tys[0]?=some mt) (hm:w.heap[m]?=some (.map es ck)) (hu:P.underlying mt=some (.map kt et)) (R:KeyR P kt mk) (hh:MpR es mk id tt) :
  ∃ es' ck',MpR es' mk id (mdel tt a)/\(Builtin.delete_ tys ty #[.map (some m),mk a]).run P w=.ok (.tuple #[]) (w.putObj m (.map es' ck')):=by
 have hf:=R.find id es.toList tt a w hh
 cases e:wCf tt a 0 with
 | none =>
  obtain ⟨_,e1⟩:=wEB e (.bool true)
  refine ⟨es,ck,by rw [e1];exact hh,?_⟩
  simp [Builtin.delete_,hty,run_underlying hu,MapKept.run_getObj_map hm,R.chk,hf,e,Result.andThen,MapKept.run_setObj_map _ hm]
  rfl
 | some p =>
  obtain ⟨q,u⟩:=p
  obtain ⟨_,h2,_,h3⟩:=wEC e (.bool true)
  rw [Nat.sub_zero] at h2 h3
  refine ⟨es.eraseIdxIfInBounds q,ck,?_,?_⟩
  ·unfold MpR at hh ⊢
   rw [h3,<- wDM,<- hh,wDM]
   simp
  ·simp [Builtin.delete_,hty,run_underlying hu,MapKept.run_getObj_map hm,R.chk,hf,e,Result.andThen,MapKept.run_setObj_map _ hm]
   rfl
def wOx (C:Chk) (P:Program) (μ:Mu) (w:World) (c:Cl) (two:Bool) (k:IntKind) (kt:TypeId) (B:AB) (y:AV) (Y:Value):Prop :=
  ∃ (K:Type) (_:DecidableEq K) (mk:K->Value) (a:K) (es:Array MapEntry) (ck:Nat) (tt:List (K × Value)),Y=mk a/\w.heap[c.1]?=some (.map es ck)/\KeyR P kt mk/\MpR es mk id tt /\
   (∀ q,wFn two k B y=some q->(q=none/\wKL tt a=none) \/ ∃ x v,q=some x/\wKL tt a=some v/\Rv μ x v) /\
   (∀ x v B',wMr two k B y x=some B'->Rv μ x v->wKV B'/\∀ w' es' ck',w'.heap[c.1]?=some (.map es' ck')->MpR es' mk id (mput tt a v)->AbR C P μ w' c B') /\
   (∀ B',wMs two k B y=some B'->wKV B'/\∀ w' es' ck',w'.heap[c.1]?=some (.map es' ck')->MpR es' mk id (mdel tt a)->AbR C P μ w' c B')
theorem wMF {two:Bool} {k:IntKind} {kt:TypeId} {B:AB} {y:AV} {Y:Value} {c:Cl} (hk:wMw P two k kt=true) (hB:AbR C P μ w c B) (hY:Rv μ y Y) (hr:(wFn two k B y).isSome=true \/ (∃ v,(wMr two k B y v).isSome=true) \/ (wMs two k B y).isSome=true) :
  wOx C P μ w c two k kt B y Y/\wKV B:=by
 have caseI:two=false->∀ (n:Int) (es:Array MapEntry) (ck:Nat) (tt:List (Int × Value)) (l:List (Int × AV)),y=.int k n->w.heap[c.1]?=some (.map es ck)->MpR es (fun n:Int=>kE k n) id tt->MR μ l tt ->
   (∀ q,wFn two k B y=some q->q=wKP l n)->(∀ x B',wMr two k B y x=some B'->B'=.mapI k (wLG l n x))->(∀ B',wMs two k B y=some B'->B'=.mapI k (wLI l n) \/ (B'=.map0/\l=[]))->wOx C P μ w c two k kt B y Y:=by
  intro h2 n es ck tt l hy hm hp hM q1 q2 q3
  subst h2 hy
  have hY:Y=.int k n:=hY
  refine ⟨Int,inferInstance,fun n=>kE k n,n,es,ck,tt,hY,hm,keyI hk,hp,?_,?_,?_⟩
  ·intro q hq
   rw [q1 q hq]
   exact mrI hM n
  ·intro x v B' hB' hv
   have:=q2 x B' hB'
   subst this
   exact ⟨trivial,fun w' es' ck' g1 g2=>⟨es',ck',_,g1,g2,wOr hM n hv⟩⟩
  ·intro B' hB'
   rcases q3 B' hB' with rfl | ⟨rfl,rfl⟩
   ·exact ⟨trivial,fun w' es' ck' g1 g2=>⟨es',ck',_,g1,g2,wOs hM n⟩⟩
   ·refine ⟨trivial,fun w' es' ck' g1 g2=>⟨ck',?_⟩⟩
    cases tt with
    | cons p tt=>have:=hM.1;simp at this
    | nil =>
     have:es'=#[]:=by
      unfold MpR at g2
      simp only [mdel,kP,kZ] at g2
      exact nI (by simpa using g2)
     rw [this] at g1;exact g1
 have case2:two=true->∀ (n m:Int) (es:Array MapEntry) (ck:Nat) (tt:List ((Int × Int) × Value)) (l:List ((Int × Int) × AV)),y=.agg [.int k n,.int k m]->w.heap[c.1]?=some (.map es ck)->MpR es (mk2 k) id tt->MR μ l tt ->
   (∀ q,wFn two k B y=some q->q=wKO l n m)->(∀ x B',wMr two k B y x=some B'->B'=.map2 k (wLF l n m x))->(∀ B',wMs two k B y=some B'->B'=.map2 k (wLH l n m) \/ (B'=.map0/\l=[]))->wOx C P μ w c two k kt B y Y:=by
  intro h2 n m es ck tt l hy hm hp hM q1 q2 q3
  subst h2 hy
  have hY:Y=mk2 k (n,m):=by
   obtain ⟨vs,g1,rfl⟩:=hY
   obtain ⟨v1,ws,g2,g3,rfl⟩:=g1
   obtain ⟨v2,ws2,g4,g5,rfl⟩:=g3
   cases g5
   have g2:v1=.int k n:=g2
   have g4:v2=.int k m:=g4
   subst g2 g4
   rfl
  refine ⟨Int × Int,inferInstance,mk2 k,(n,m),es,ck,tt,hY,hm,wKZ hk,hp,?_,?_,?_⟩
  ·intro q hq
   rw [q1 q hq]
   exact mr2 hM n m
  ·intro x v B' hB' hv
   have:=q2 x B' hB'
   subst this
   exact ⟨trivial,fun w' es' ck' g1 g2=>⟨es',ck',_,g1,g2,wOt hM n m hv⟩⟩
  ·intro B' hB'
   rcases q3 B' hB' with rfl | ⟨rfl,rfl⟩
   ·exact ⟨trivial,fun w' es' ck' g1 g2=>⟨es',ck',_,g1,g2,wOu hM n m⟩⟩
   ·refine ⟨trivial,fun w' es' ck' g1 g2=>⟨ck',?_⟩⟩
    cases tt with
    | cons p tt=>have:=hM.1;simp at this
    | nil =>
     have:es'=#[]:=by
      unfold MpR at g2
      simp only [mdel,kP,kZ] at g2
      exact nI (by simpa using g2)
     rw [this] at g1;exact g1
 have shape:(∃ n,two=false/\y=.int k n/\(B=.map0 \/ ∃ l,B=.mapI k l)) \/ (∃ n m,two=true/\y=.agg [.int k n,.int k m]/\(B=.map0 \/ ∃ l,B=.map2 k l)):=by
  have fI:∀ {k':IntKind} {b:Bool} {α:Type} {x:Option α},(ifO b x).isSome=true->b=true:=fun {k' b α x} hq=>by cases b <;> first | rfl | cases hq
  rcases hr with hr | ⟨v,hr⟩ | hr
  ·unfold wFn at hr
   split at hr <;> first | (cases hr;done) | skip
   ·have:=wBQ (fI (k':=k) hr);subst this;exact .inl ⟨_,rfl,rfl,.inl rfl⟩
   ·have:=fI (k':=k) hr;simp only [hH] at this
    have e1:=wBQ this.1;have e2:=wBQ this.2;subst e1 e2;exact .inr ⟨_,_,rfl,rfl,.inl rfl⟩
   ·have:=fI (k':=k) hr;simp only [hH] at this
    have e1:=wBQ this.1;have e2:=wBQ this.2;subst e1 e2;exact .inl ⟨_,rfl,rfl,.inr ⟨_,rfl⟩⟩
   ·have:=fI (k':=k) hr;simp only [hH] at this
    have e1:=wBQ this.1;have e2:=wBQ this.2.1;have e3:=wBQ this.2.2;subst e1 e2 e3;exact .inr ⟨_,_,rfl,rfl,.inr ⟨_,rfl⟩⟩
  ·unfold wMr at hr
   split at hr <;> first | (cases hr;done) | skip
   ·have:=wBQ (fI (k':=k) hr);subst this;exact .inl ⟨_,rfl,rfl,.inl rfl⟩
   ·have:=fI (k':=k) hr;simp only [hH] at this
    have e1:=wBQ this.1;have e2:=wBQ this.2;subst e1 e2;exact .inr ⟨_,_,rfl,rfl,.inl rfl⟩
   ·have:=fI (k':=k) hr;simp only [hH] at this
    have e1:=wBQ this.1;have e2:=wBQ this.2;subst e1 e2;exact .inl ⟨_,rfl,rfl,.inr ⟨_,rfl⟩⟩
   ·have:=fI (k':=k) hr;simp only [hH] at this
    have e1:=wBQ this.1;have e2:=wBQ this.2.1;have e3:=wBQ this.2.2;subst e1 e2 e3;exact .inr ⟨_,_,rfl,rfl,.inr ⟨_,rfl⟩⟩
  ·unfold wMs at hr
   split at hr <;> first | (cases hr;done) | skip
   ·have:=wBQ (fI (k':=k) hr);subst this;exact .inl ⟨_,rfl,rfl,.inl rfl⟩
   ·have:=fI (k':=k) hr;simp only [hH] at this
    have e1:=wBQ this.1;have e2:=wBQ this.2;subst e1 e2;exact .inr ⟨_,_,rfl,rfl,.inl rfl⟩
   ·have:=fI (k':=k) hr;simp only [hH] at this
    have e1:=wBQ this.1;have e2:=wBQ this.2;subst e1 e2;exact .inl ⟨_,rfl,rfl,.inr ⟨_,rfl⟩⟩
   ·have:=fI (k':=k) hr;simp only [hH] at this
    have e1:=wBQ this.1;have e2:=wBQ this.2.1;have e3:=wBQ this.2.2;subst e1 e2 e3;exact .inr ⟨_,_,rfl,rfl,.inr ⟨_,rfl⟩⟩
 have iS:∀ {b:Bool} {α:Type} {x:Option α} {v:α},ifO b x=some v->x=some v:=fun hq=>(wBN hq).2
 rcases shape with ⟨n,rfl,rfl,rfl | ⟨l,rfl⟩⟩ | ⟨n,m,rfl,rfl,rfl | ⟨l,rfl⟩⟩
 ·obtain ⟨ck,hm⟩:=hB
  refine ⟨?_,trivial⟩
  exact caseI rfl n #[] ck [] [] rfl hm rfl ⟨rfl,rfl⟩ (fun q hq=>by simp only [wFn] at hq;cases iS hq;rfl) (fun x B' hq=>by simp only [wMr] at hq;cases iS hq;rfl) (fun B' hq=>by simp only [wMs] at hq;cases iS hq;exact .inr ⟨rfl,rfl⟩)
 ·obtain ⟨es,ck,tt,hm,hp,hM⟩:=hB
  refine ⟨?_,trivial⟩
  exact caseI rfl n es ck tt l rfl hm hp hM (fun q hq=>by simp only [wFn] at hq;cases iS hq;rfl) (fun x B' hq=>by simp only [wMr] at hq;cases iS hq;rfl) (fun B' hq=>by simp only [wMs] at hq;cases iS hq;exact .inl rfl)
 ·obtain ⟨ck,hm⟩:=hB
  refine ⟨?_,trivial⟩
  exact case2 rfl n m #[] ck [] [] rfl hm rfl ⟨rfl,rfl⟩ (fun q hq=>by simp only [wFn] at hq;cases iS hq;rfl) (fun x B' hq=>by simp only [wMr] at hq;cases iS hq;rfl) (fun B' hq=>by simp only [wMs] at hq;cases iS hq;exact .inr ⟨rfl,rfl⟩)
 ·obtain ⟨es,ck,tt,hm,hp,hM⟩:=hB
  refine ⟨?_,trivial⟩
  exact case2 rfl n m es ck tt l rfl hm hp hM (fun q hq=>by simp only [wFn] at hq;cases iS hq;rfl) (fun x B' hq=>by simp only [wMr] at hq;cases iS hq;rfl) (fun B' hq=>by simp only [wMs] at hq;cases iS hq;exact .inl rfl)
def wQW (P:Program) (two:Bool) (k:IntKind) (ok:Bool) (z:AV) (x y:AOd):Op->Bool
 | .lookup t x' y' ok'=>wDa P t (fun d=>match d with
   | .map kt et=>wMw P two k kt && (match P.info? et with
    | some i=>match i.zero with | some v=>okc z v | none=>false
    | none=>false)
   | _=>false) && ((ok == ok') && (wBm x x' && wBm y y'))
 | _=>false
def lkV (ok:Bool) (z:AV) (q:Option AV):AV:=match ok with
 | true=>.tup [q.getD z,.bool q.isSome]
 | false=>q.getD z
theorem l_lk {two:Bool} {k:IntKind} {ok:Bool} {z:AV} {x y:AOd} {op:Op} (hc:wQW P two k ok z x y op=true):OkL C P op (wMu two k ok z x y):=by
 intro σA h v h' hr
 unfold wQW at hc
 split at hc
 ·rename_i t x' y' ok'
  simp only [hH,beq_iff_eq] at hc
  obtain ⟨c1,rfl,c2,c3⟩:=hc
  obtain ⟨d,d1,d2⟩:=wAc c1
  split at d2 <;> first | (cases d2;done) | skip
  rename_i kt et
  simp only [hH] at d2
  obtain ⟨k1,k2⟩:=d2
  split at k2 <;> first | (cases k2;done) | skip
  rename_i i hi
  split at k2 <;> first | (cases k2;done) | skip
  rename_i zv hz
  unfold wMu at hr
  split at hr <;> first | (cases hr;done) | skip
  rename_i b hx
  split at hr <;> first | (cases hr;done) | skip
  rename_i B hB
  have key:∀ q,wFn two k B (evA σA y)=some q->h'=h->v=lkV ok z q->h'=h/\∀ μ σ w,EnvR μ σA σ->Sim C P μ h w->∃ cv,Rv μ v cv/\∀ (o:Oper),o.op=.lookup t x' y' ok->wEp P σ w o cv:=by
   intro q hq hh hv
   subst hh hv
   refine ⟨rfl,fun μ σ w hE S=>?_⟩
   have g:=wAJ c2 hE;rw [hx] at g
   obtain ⟨c,g1,g2⟩:=g
   obtain ⟨c',g3,g4⟩:=S.at_ b B hB
   rw [g1] at g3;cases g3
   obtain ⟨⟨K,_,mk,a,es,ck,tt,e1,e2,e3,e4,e5,_,_⟩,hl⟩:=wMF k1 g4 (wAJ c3 hE) (.inl (by rw [hq];rfl))
   have hrun:∀ w',Keep w w' Non->∀ (o:Oper),o.op=.lookup t x' y' ok->Runs P σ w' o (if ok then .tuple #[wHp tt a zv,.bool (wOP tt a)] else wHp tt a zv) w':=by
    intro w' K o ho
    have hm:=(K.block _ (wAQ e2) id).trans e2
    have:=wQV (P:=P) (ok:=ok) hm d1 e3 (wDA hi hz) e4 (a:=a)
    exact ⟨by rw [ho];rfl,by simp [execOp,ho,g2,e1,this,Result.andThen]⟩
   refine ⟨_,?_,fun o ho w' K=>hrun w' K o ho⟩
   have hval:Rv μ (q.getD z) (wHp tt a zv)/\q.isSome=wOP tt a:=by
    rcases e5 q hq with ⟨rfl,q2⟩ | ⟨x,v,rfl,q2,q3⟩
    ·unfold wHp wOP;rw [q2];exact ⟨wLm μ k2,rfl⟩
    ·unfold wHp wOP;rw [q2];exact ⟨q3,rfl⟩
   cases ok
   ·exact hval.1
   ·exact ⟨_,wBM hval.1 (wBM (v:=.bool (wOP tt a)) (by rw [<- hval.2];rfl) wFv),rfl⟩
  split at hr
  ·rename_i q hq
   cases hr
   exact key _ hq rfl (by cases ok <;> rfl)
  ·rename_i hq
   cases hr
   exact key _ hq rfl (by cases ok <;> rfl)
  ·cases hr
 ·cases hc
def wJi (P:Program) (two:Bool) (k:IntKind) (x y z:AOd):Op->Bool
 | .mapUpdate t x' y' z' | .insert t x' y' z'=>wDa P t (fun d=>match d with
   | .map kt et=>wMw P two k kt
   | _=>false) && (wBm x x' && (wBm y y' && wBm z z'))
 | _=>false
theorem wMG {two:Bool} {k:IntKind} {x y z:AOd} {op:Op} (hc:wJi P two k x y z op=true):∃ t kt et x' y' z',(op=.mapUpdate t x' y' z' \/ op=.insert t x' y' z')/\P.underlying t=some (.map kt et)/\wMw P two k kt=true/\wBm x x'=true/\wBm y y'=true/\wBm z z'=true:=by
 have key:∀ {t:TypeId} {x' y' z':Operand},(wDa P t (fun d=>match d with | .map kt et=>wMw P two k kt | _=>false) && (wBm x x' && (wBm y y' && wBm z z')))=true->∃ kt et,P.underlying t=some (.map kt et)/\wMw P two k kt=true/\wBm x x'=true/\wBm y y'=true/\wBm z z'=true:=by
  intro t x' y' z' hq
  simp only [hH] at hq
  obtain ⟨d,d1,d2⟩:=wAc hq.1
  split at d2 <;> first | (cases d2;done) | skip
  exact ⟨_,_,d1,d2,hq.2⟩
 unfold wJi at hc
 split at hc
 ·obtain ⟨kt,et,g⟩:=key hc;exact ⟨_,kt,et,_,_,_,.inl rfl,g⟩
 ·obtain ⟨kt,et,g⟩:=key hc;exact ⟨_,kt,et,_,_,_,.inr rfl,g⟩
 ·cases hc
theorem wQX {two:Bool} {k:IntKind} {x y z:AOd} {op:Op} (hc:wJi P two k x y z op=true):OkU C P op (wFI two k x y z):=by
 intro σA h v h' hr μ σ w hE S o ho
 obtain ⟨t,kt,et,x',y',z',hop,d1,k1,c1,c2,c3⟩:=wMG hc
 unfold wFI at hr
 split at hr <;> first | (cases hr;done) | skip
 rename_i b hx
 split at hr <;> first | (cases hr;done) | skip
 rename_i B hB
 split at hr <;> first | (cases hr;done) | skip
 rename_i B' hp
 split at hr <;> first | (cases hr;done) | skip
 rename_i h1' hput
 cases hr
 have g:=wAJ c1 hE;rw [hx] at g
 obtain ⟨c,g1,g2⟩:=g
 obtain ⟨c',g3,g4⟩:=S.at_ b B hB
 rw [g1] at g3;cases g3
 obtain ⟨⟨K,_,mk,a,es,ck,tt,e1,e2,e3,e4,_,e6,_⟩,hl⟩:=wMF k1 g4 (wAJ c2 hE) (.inr (.inl ⟨_,by rw [hp];rfl⟩))
 obtain ⟨es',ck',r1,r2⟩:=wOv (P:=P) (v:=ev σ z') e2 d1 e3 e4 (a:=a)
 obtain ⟨l1,l2⟩:=e6 _ (ev σ z') B' hp (wAJ c3 hE)
 obtain ⟨s1,s2,s3⟩:=S.put hput hB hl g1 (wBd w c.1 (.map es' ck')) (l2 _ es' ck' (wEE _ (wAQ e2)) r1)
 refine ⟨μ,_,s2,s1,rfl,s3,by rw [ho];rcases hop with e | e <;> (rw [e];rfl),?_⟩
 rcases hop with e | e <;> rw [e] at ho <;> simp [execOp,ho,g2,e1,r2,Result.andThen]
def wMH (P:Program) (two:Bool) (k:IntKind) (x y:AOd):Op->Bool
 | .call c=>match c.callee with
  | .builtin b=>(b == .delete) && (match c.args.toList,c.argTypes.toList with
   | [x',y'],t :: _=>wDa P t (fun d=>match d with | .map kt _=>wMw P two k kt | _=>false) && (wBm x x' && wBm y y')
   | _,_=>false)
  | _=>false
 | _=>false
theorem wQY {two:Bool} {k:IntKind} {x y:AOd} {op:Op} (hc:wMH P two k x y op=true):OkE C P op (wFJ two k x y):=by
 intro σA h v h' hr μ σ w hE S o ho
 unfold wMH at hc
 split at hc <;> first | (cases hc;done) | skip
 rename_i c
 obtain ⟨ce,args,tys⟩:=c
 simp only at hc
 split at hc <;> first | (cases hc;done) | skip
 rename_i b
 simp only [hH,beq_iff_eq] at hc
 obtain ⟨rfl,h2⟩:=hc
 split at h2 <;> first | (cases h2;done) | skip
 rename_i x' y' t ts h3 h4
 simp only [hH] at h2
 obtain ⟨a1,a2,a3⟩:=h2
 obtain ⟨d,d1,d2⟩:=wAc a1
 split at d2 <;> first | (cases d2;done) | skip
 rename_i kt et
 have ea:args=#[x',y']:=nI (by simpa using h3)
 have et':tys[0]?=some t:=by rw [<- kV,h4];rfl
 unfold wFJ at hr
 split at hr <;> first | (cases hr;done) | skip
 rename_i b hx
 split at hr <;> first | (cases hr;done) | skip
 rename_i B hB
 split at hr <;> first | (cases hr;done) | skip
 rename_i B' hp
 split at hr <;> first | (cases hr;done) | skip
 rename_i h1' hput
 cases hr
 have g:=wAJ a2 hE;rw [hx] at g
 obtain ⟨c,g1,g2⟩:=g
 obtain ⟨c',g3,g4⟩:=S.at_ b B hB
 rw [g1] at g3;cases g3
 obtain ⟨⟨K,_,mk,a,es,ck,tt,e1,e2,e3,e4,_,_,e7⟩,hl⟩:=wMF d2 g4 (wAJ a3 hE) (.inr (.inr (by rw [hp];rfl)))
 obtain ⟨es',ck',r1,r2⟩:=wOw (P:=P) (ty:=o.type) et' e2 d1 e3 e4 (a:=a)
 obtain ⟨l1,l2⟩:=e7 B' hp
 obtain ⟨s1,s2,s3⟩:=S.put hput hB hl g1 (wBd w c.1 (.map es' ck')) (l2 _ es' ck' (wEE _ (wAQ e2)) r1)
 refine ⟨μ,_,_,s2,s1,wLk μ,s3,by rw [ho];rfl,?_⟩
 simp [execOp,ho,ea,resolve,invoke,builtin,g2,e1,r2,undef,Result.andThen]
def wIG (P:Program) (x:AOd):Op->Bool
 | .call c=>match c.callee with
  | .builtin b=>(b == .len) && (match c.args.toList,c.argTypes.toList with
   | [x'],[t]=>wDa P t (fun d=>match d with | .map _ _=>true | _=>false) && wBm x x'
   | _,_=>false)
  | _=>false
 | _=>false
theorem wQZ {x:AOd} {op:Op} (hc:wIG P x op=true):OkL C P op (wDy x):=by
 intro σA h v h' hr
 unfold wIG at hc
 split at hc <;> first | (cases hc;done) | skip
 rename_i c
 obtain ⟨ce,args,tys⟩:=c
 simp only at hc
 split at hc <;> first | (cases hc;done) | skip
 rename_i b
 simp only [hH,beq_iff_eq] at hc
 obtain ⟨rfl,h2⟩:=hc
 split at h2 <;> first | (cases h2;done) | skip
 rename_i x' t h3 h4
 simp only [hH] at h2
 obtain ⟨a1,a2⟩:=h2
 obtain ⟨d,d1,d2⟩:=wAc a1
 split at d2 <;> first | (cases d2;done) | skip
 rename_i kt et
 have ea:args=#[x']:=nI (by simpa using h3)
 have et':tys=#[t]:=nI (by simpa using h4)
 subst ea et'
 unfold wDy at hr
 split at hr
 ·rename_i hx
  cases hr
  refine ⟨rfl,fun μ σ w hE S=>⟨_,rfl,fun o ho w' K=>?_⟩⟩
  have g:=wAJ a2 hE;rw [hx] at g
  have g:ev σ x'=.map none:=g
  exact ⟨by rw [ho];rfl,by simp [execOp,ho,resolve,invoke,builtin,Builtin.len_,g,run_underlying d1,goInt,Result.andThen]⟩
 ·rename_i b hx
  split at hr <;> first | (cases hr;done) | skip
  rename_i B hB
  split at hr <;> first | (cases hr;done) | skip
  rename_i n hn
  cases hr
  refine ⟨rfl,fun μ σ w hE S=>⟨_,rfl,fun o ho w' K=>?_⟩⟩
  have g:=wAJ a2 hE;rw [hx] at g
  obtain ⟨c,g1,g2⟩:=g
  obtain ⟨c',g3,g4⟩:=S.at_ b B hB
  rw [g1] at g3;cases g3
  have hmap:∃ es ck,w.heap[c.1]?=some (.map es ck)/\es.size=n:=by
   unfold lenB at hn
   split at hn <;> first | (cases hn;done) | skip
   ·cases hn;obtain ⟨ck,q⟩:=g4;exact ⟨_,ck,q,rfl⟩
   ·cases hn
    obtain ⟨es,ck,tt,q1,q2,q3⟩:=g4
    refine ⟨es,ck,q1,?_⟩
    have e1:=congrArg kC q2
    have e2:=congrArg kC q3.1
    simp at e1 e2
    rw [wDj];omega
   ·cases hn
    obtain ⟨es,ck,tt,q1,q2,q3⟩:=g4
    refine ⟨es,ck,q1,?_⟩
    have e1:=congrArg kC q2
    have e2:=congrArg kC q3.1
    simp at e1 e2
    rw [wDj];omega
  obtain ⟨es,ck,q1,q2⟩:=hmap
  have hm:=(K.block _ (wAQ q1) id).trans q1
  refine ⟨by rw [ho];rfl,?_⟩
  simp [execOp,ho,resolve,invoke,builtin,Builtin.len_,g2,run_underlying d1,MapKept.run_getObj_map hm,goInt,Result.andThen,q2]
 ·cases hr
end
end
end Go.KX
namespace Go.KX
noncomputable section
open Go.RowKit Go.KL
def kdA:AOp->Nat
 | .mv _ | .pick _ _ _ | .nilc _ | .add _ _ | .sub _ _ | .mul _ _ | .quo _ _ | .rem _ _ | .lss _ _ | .leq _ _ | .gtr _ _ | .geq _ _ | .eql _ _ | .neq _ _ | .eqb _ _ _ | .eqn _ _ _ _ | .eqs _ _ _ _
 | .bad | .and _ _ | .shr _ _ | .ixs _ _ | .neg _ | .not _ | .cvt _ _ | .mkf _ _ _ | .slc _ _ _ _ _ | .slcA _ _ _ _ _ | .fad _ _ | .fld _ _ | .fldA _ _ _ | .iad _ _ _ | .iadA _ _ _ _ | .ix _ _ _ | .ixA _ _ _ _ | .ext _ _ | .bld _ _ | .len _ | .cap _ | .min _ _ | .max _ _=>3
 | .ld _ | .ldA _ _ | .lk _ _ _ _ _ _ | .lenM _=>1
 | .st _ _ _ | .mput _ _ _ _ _=>4
 | .call _ _=>5
 | _=>0
def wMI (x:AOd) (l:List AOd):Op->Bool
 | .call c=>match c.callee with
  | .value f=>wBm x f && wIC l c.args.toList
  | _=>false
 | _=>false
def wPr:List UInt8->List Nat->Bool
 | [],[]=>true
 | a :: l,b :: k=>nB a.toNat b && wPr l k
 | _,_=>false
theorem wMJ:∀ {l:List UInt8} {k:List Nat},wPr l k=true->l.map UInt8.toNat=k
 | [],[],_=>rfl
 | a :: l,b :: k,h=>by
  simp only [wPr,hH] at h
  rw [nJ,nA h.1,wMJ h.2]
 | [],_ :: _,h=>by simp [wPr] at h
 | _ :: _,[],h=>by simp [wPr] at h
def wOy (P:Program) (l:List Nat) (y:AOd):Op->Bool
 | .index t (.const (.string s)) y'=>wDa P t (fun d=>match d with | .string=>true | _=>false) && (wPr s.data.toList l && wBm y y')
 | _=>false
def wGD (P:Program) (a:AOp) (op:Op):Bool:=match a with
 | .mv x=>c_mv x op
 | .pick c x y=>wLn c x y op
 | .new T z=>wMA P T z op
 | .box T x=>wMB T x op
 | .ld x=>wQS P x op
 | .ldA n x=>wLz P n x op
 | .st n x y=>c_st P n x y op
 | .nilc x=>wLo x op
 | .add x y=>wCI .add x y op
 | .sub x y=>wCI .sub x y op
 | .mul x y=>wCI .mul x y op
 | .quo x y=>wCI .quo x y op
 | .rem x y=>wCI .rem x y op
 | .lss x y=>wCI .lss x y op
 | .leq x y=>wCI .leq x y op
 | .gtr x y=>wCI .gtr x y op
 | .geq x y=>wCI .geq x y op
 | .eql x y=>wCI .eql x y op
 | .neq x y=>wCI .neq x y op
 | .eqb ne x y=>wOe P ne x y op
 | .eqn k ne x y=>wOf P k ne x y op
 | .eqs ne s x y=>wOg P ne s x y op
 | .neg x=>wOZ x op
 | .not x=>wOa x op
 | .cvt k x=>wOb (P:=P) k x op
 | .mkf f fi ca=>wOc f fi ca op
 | .mkm=>wMC op
 | .mks T sz by_ z x y=>wMD P T sz by_ z x y op
 | .slc sz x lo hi mx=>wOl P sz x lo hi mx op
 | .slcA sz n x lo hi=>wLx P sz n x lo hi op
 | .fad off x=>wOh P off x op
 | .fld off x=>wOi P off x op
 | .fldA off n x=>wLt P off n x op
 | .iad sz x y=>wOj P sz x y op
 | .iadA sz n x y=>wLu P sz n x y op
 | .ix n x y=>c_ix P n x y op
 | .ixA sz n x y=>wOk P sz n x y op
 | .lk two k ok z x y=>wQW P two k ok z x y op
 | .mput two k x y z=>wJi P two k x y z op
 | .mdel two k x y=>wMH P two k x y op
 | .ext i x=>wOd i x op
 | .bld z ps=>wOm P z ps op
 | .blds T n z ps=>wIF P T n z ps op
 | .len x=>wKY P .len x op
 | .lenM x=>wIG P x op
 | .cap x=>wKY P .cap x op
 | .app T sz by_ x y=>wNI P T sz by_ x y op
 | .cpy sz x y=>wOo P sz x y op
 | .clr z x=>wOp P z x op
 | .min x y=>wPq .min x y op
 | .max x y=>wPq .max x y op
 | .call x l=>wMI x l op
 | .bad=>true
 | .and x y=>wCI .and x y op
 | .shr x y=>wCI .shr x y op
 | .ixs l y=>wOy P l y op
 | .apz T sz by_ z x y=>wOq P T sz by_ z x y op
section
variable {C:Chk} {P:Program} {tb:Tr AF} {ex exY:Run}
theorem p_bad {op:Op}:OkP P op (wQG):=by
 intro σA h v h' hr
 cases hr
theorem p_and {x y:AOd} {op:Op} (hc:wCI .and x y op=true):OkP P op (wLZ x y):=by
 intro σA h v h' hr
 obtain ⟨t,x',y',t',rfl,h1,h2⟩:=wEa hc
 obtain ⟨hr2,rfl⟩:=wBS hr
 split at hr2
 ·rename_i k a k' b ha hb
  split at hr2
  ·rename_i hk
   cases hr2
   have hk:=wBQ hk
   subst hk
   refine ⟨rfl,fun μ σ hE=>⟨_,rfl,fun o w ho=>?_⟩⟩
   have g1:=wAJ h1 hE;rw [ha] at g1
   have g2:=wAJ h2 hE;rw [hb] at g2
   have g1:ev σ x'=.int k a:=g1
   have g2:ev σ y'=.int k b:=g2
   exact ⟨by rw [ho];rfl,by simp [execOp,ho,g1,g2,binOp,eqGuard,Op.intBits,andI]⟩
  ·cases hr2
 ·cases hr2
theorem p_shr {x y:AOd} {op:Op} (hc:wCI .shr x y op=true):OkP P op (wLa x y):=by
 intro σA h v h' hr
 obtain ⟨t,x',y',t',rfl,h1,h2⟩:=wEa hc
 obtain ⟨hr2,rfl⟩:=wBS hr
 split at hr2
 ·rename_i k a k' b ha hb
  cases hr2
  refine ⟨rfl,fun μ σ hE=>⟨_,rfl,fun o w ho=>?_⟩⟩
  have g1:=wAJ h1 hE;rw [ha] at g1
  have g2:=wAJ h2 hE;rw [hb] at g2
  have g1:ev σ x'=.int k a:=g1
  have g2:ev σ y'=.int k' (kS b):=g2
  have hn:¬ (kS b) < 0:=by simp
  exact ⟨by rw [ho];rfl,by simp [execOp,ho,g1,g2,binOp,eqGuard,Op.shift];intro hb0;omega⟩
 ·cases hr2
theorem p_ixs {l:List Nat} {y:AOd} {op:Op} (hc:wOy P l y op=true):OkP P op (wIs l y):=by
 intro σA h v h' hr
 unfold wOy at hc
 split at hc <;> first | (cases hc;done) | skip
 rename_i t s y'
 simp only [hH] at hc
 obtain ⟨c1,c2,c3⟩:=hc
 obtain ⟨d,d1,d2⟩:=wAc c1
 split at d2 <;> first | (cases d2;done) | skip
 have hl:=wMJ c2
 unfold wIs at hr
 split at hr
 ·rename_i k i hy
  obtain ⟨hr2,rfl⟩:=wBS hr
  split at hr2
  ·rename_i b hb
   cases hr2
   rw [wFL,<- hl,nu] at hb
   have hi:i < s.data.toList.length:=by
    rcases ny i s.data.toList.length with q | q
    ·exact q
    ·rw [nv q] at hb;cases hb
   have hi2:i < s.size:=by simpa using hi
   rw [nH hi] at hb
   have hb:(s.data.toList[i]).toNat=b:=by simpa using hb
   refine ⟨rfl,fun μ σ hE=>⟨_,rfl,fun o w ho=>?_⟩⟩
   have g:=wAJ c3 hE;rw [hy] at g
   have g:ev σ y'=.int k (kS i):=g
   have hx:ev σ (.const (.string s))=.string s:=rfl
   have hrun:=run_index_string (P:=P) w t s k (kS i) d1
   rw [dif_pos ⟨by simp,by simpa using hi2⟩] at hrun
   have hbb:(s[(kS i).toNat]'(by simpa using hi2)).toNat=b:=by rw [<- hb];rfl
   rw [hbb] at hrun
   simp only [na] at hrun
   exact ⟨by rw [ho];rfl,by simp only [execOp,ho,hx,g];simp [hrun]⟩
  ·cases hr2
 ·cases hr
theorem wGq {a:AOp} {op:Op} (hk:kdA a=3) (hc:wGD P a op=true):OkP P op (opY a tb ex exY):=by
 cases a <;> first
  | (simp [kdA] at hk;done)
  | exact p_bad | exact p_and hc | exact p_shr hc | exact p_ixs hc | exact p_mv hc | exact wQL hc | exact wQM hc | exact p_add hc | exact p_sub hc | exact p_mul hc | exact p_quo hc | exact p_rem hc
  | exact p_lss hc | exact p_leq hc | exact p_gtr hc | exact p_geq hc | exact p_eql hc | exact p_neq hc | exact p_eqb hc | exact p_eqn hc | exact p_eqs hc
  | exact p_neg hc | exact p_not hc | exact p_cvt hc | exact p_mkf hc | exact p_slc hc | exact wQQ hc | exact p_fad hc | exact p_fld hc | exact wQO hc
  | exact p_iad hc | exact wQP hc | exact p_ix hc | exact p_ixA hc | exact p_ext hc | exact p_bld hc | exact p_len hc | exact p_cap hc | exact p_min hc | exact p_max hc
theorem wGr {a:AOp} {op:Op} (hk:kdA a=1 \/ kdA a=3) (hc:wGD P a op=true):OkL C P op (opY a tb ex exY):=by
 rcases hk with hk | hk
 ·cases a <;> first
   | (simp [kdA] at hk;done)
   | exact l_ld hc | exact l_ldA hc | exact l_lk hc | exact wQZ hc
 ·exact (wGq hk hc).toL
theorem wQa {a:AOp} {op:Op} (hk:kdA a=0 \/ kdA a=1 \/ kdA a=3) (hc:wGD P a op=true):OkE C P op (opY a tb ex exY):=by
 rcases hk with hk | hk
 ·cases a <;> first
   | (simp [kdA] at hk;done)
   | exact e_new hc | exact e_box hc | exact e_mkm hc | exact e_mks hc | exact wQY hc | exact wQT hc | exact e_app hc | exact e_apz hc | exact e_cpy hc | exact e_clr hc
 ·exact (wGr hk hc).toE
theorem wQb {a:AOp} {op:Op} (hk:kdA a=4) (hc:wGD P a op=true):OkU C P op (opY a tb ex exY):=by
 cases a <;> first
  | (simp [kdA] at hk;done)
  | exact u_st hc | exact wQX hc
def wFM (C:Chk) (P:Program) (tb:Tr AF) (ex:Run):Prop:=∀ f args h v h',wHx tb ex f args h=some (v,h') ->
 (∀ (a:Array Value) (w:World),(callFunc (f.nat - 1) a).run P w=.ok (.enter (f.nat - 1) a) w) /\
 ∀ μ w vs,Sim C P μ h w->RvL μ args vs->Gv P (f.nat - 1) vs w fun cv w'=>∃ μ',Ext μ h.fl.nat w μ' w'/\Sim C P μ' h' w'/\Rv μ' v cv/\h'.fl=h.fl
def wEK (C:Chk) (P:Program) (ex:Run):Prop:=∀ b args h v h',wHy ex b args h=some (v,h') ->
 ∀ μ w x c,Sim C P μ h w->RvL μ args x->μ b=some c->Yd P c.1 x w fun t w'=>∃ μ',Ext μ h.fl.nat w μ' w'/\Sim C P μ' h' w'/\v=.bool t/\h'.fl=h.fl
def wGE (P:Program) (N:Nat) (l:List Oper) (a:AO):Bool:=match l[a.ix]? with
 | none=>false
 | some o=>wGD P a.op o.op && ((match a.dst,o.dst with
   | none,none=>true
   | some p,some d=>nB p.nat (d + 1) && nP d N
   | _,_=>false) && ((match a.grd,o.guard with
   | none,none=>true
   | some (p,b),some (j,b')=>(b == b') && (match (l[j]?).bind (·.dst) with | some d=>nB p.nat (d + 1) | none=>false)
   | _,_=>false) && ((match a.kd with
   | 3=>nB (kdA a.op) 3
   | 1=>nB (kdA a.op) 1 || nB (kdA a.op) 3
   | _=>true) && ((!Nat.beq (kdA a.op) 4 || o.dst.isNone) && !Nat.beq a.kd 1005))))
structure AOK (P:Program) (N:Nat) (l:List Oper) (a:AO) (o:Oper):Prop where
 get:l[a.ix]?=some o
 op:wGD P a.op o.op=true
 dst:(a.dst=none/\o.dst=none) \/ ∃ p d,a.dst=some p/\o.dst=some d/\d=p.nat - 1/\d < N
 grd:(a.grd=none/\o.guard=none) \/ ∃ p b j d,a.grd=some (p,b)/\o.guard=some (j,b)/\(l[j]?).bind (·.dst)=some d/\d=p.nat - 1
 k3:a.kd=3->kdA a.op=3
 k1:a.kd=1->kdA a.op=1 \/ kdA a.op=3
 un:kdA a.op=4->o.dst=none
 k5:a.kd ≠ 1005
theorem wCc {N:Nat} {l:List Oper} {a:AO} (hc:wGE P N l a=true):∃ o,AOK P N l a o:=by
 unfold wGE at hc
 split at hc
 ·cases hc
 ·rename_i o ho
  simp only [hH] at hc
  obtain ⟨c1,c2,c3,c4,c5,c6⟩:=hc
  refine ⟨o,ho,c1,?_,?_,?_,?_,?_,?_⟩
  ·split at c2
   ·rename_i h1 h2;exact .inl ⟨h1,h2⟩
   ·rename_i p d h1 h2
    simp only [hH,nD] at c2
    have:=nA c2.1
    exact .inr ⟨p,d,h1,h2,by rw [this];rfl,c2.2⟩
   ·cases c2
  ·split at c3
   ·rename_i h1 h2;exact .inl ⟨h1,h2⟩
   ·rename_i p b j b' h1 h2
    simp only [hH,beq_iff_eq] at c3
    obtain ⟨rfl,c3⟩:=c3
    split at c3
    ·rename_i d hd
     have:=nA c3
     exact .inr ⟨p,b,j,d,h1,h2,hd,by rw [this];rfl⟩
    ·cases c3
   ·cases c3
  ·intro hk;rw [hk] at c4;exact nA c4
  ·intro hk;rw [hk] at c4
   simp only [nO] at c4
   exact c4.imp nA nA
  ·intro hk;rw [hk] at c5
   simpa using c5
  ·intro hk;rw [hk] at c6
   simp at c6
theorem wHP {N:Nat} {l:List Oper} {a:AO} {o:Oper} {μ:Mu} {σA:Tr AV} {σ:Env} (A:AOK P N l a o) (hE:EnvR μ σA σ):wanted l σ o=wCN σA a.grd:=by
 unfold wanted
 rcases A.grd with ⟨h1,h2⟩ | ⟨p,b,j,d,h1,h2,h3,h4⟩
 ·rw [h1,h2];rfl
 ·rw [h1,h2]
  simp only [h3]
  show _=isB b (evA σA (.t p))
  have g:=hE p
  rw [<- h4] at g
  unfold isB
  cases hv:evA σA (.t p) <;> rw [hv] at g <;> simp only [Rv] at g <;>
   first | (rw [g];done) | (obtain ⟨_,_,_,_,_,g⟩:=g;rw [g];done) | (obtain ⟨_,_,_,_,g⟩:=g;rw [g];done) | (obtain ⟨_,_,_,g⟩:=g;rw [g];done) | (obtain ⟨_,_,g⟩:=g;rw [g];done) | (obtain ⟨_,g⟩:=g;rw [g];done) | rw [g]
theorem wDV {N:Nat} {l:List Oper} {a:AO} {o:Oper} {μ:Mu} {σA:Tr AV} {σ:Env} {v:AV} {cv:Value} (A:AOK P N l a o) (hE:EnvR μ σA σ) (hv:Rv μ v cv):EnvR μ (wFQ a.dst σA v) (put' σ o cv):=by
 rcases A.dst with ⟨h1,h2⟩ | ⟨p,d,h1,h2,h3,_⟩
 ·rw [h1];unfold put';rw [h2];exact hE
 ·rw [h1];unfold put';rw [h2];subst h3;exact hE.put hv
theorem wGs {N:Nat} {l:List Oper} {a:AO} {o:Oper} (A:AOK P N l a o):∀ d,o.dst=some d->d < N:=by
 intro d hd
 rcases A.dst with ⟨_,h2⟩ | ⟨p,d',_,h2,_,h4⟩
 ·rw [h2] at hd;cases hd
 ·rw [h2] at hd;cases hd;exact h4
theorem wQc (HC:wFM C P tb ex) (HY:wEK C P exY) {N:Nat} {l:List Oper} {a:AO} {o:Oper} {μ:Mu} {σA:Tr AV} {σ:Env} {h h':AH} {v:AV} {w:World} (A:AOK P N l a o) (hw:wanted l σ o=true) (hr:opY a.op tb ex exY σA h=some (v,h')) (hE:EnvR μ σA σ) (S:Sim C P μ h w) :
  Step1 P l o σ w fun cv w'=>∃ μ',Ext μ h.fl.nat w μ' w'/\Sim C P μ' h' w'/\EnvR μ' (wFQ a.dst σA v) (put' σ o cv)/\h'.fl=h.fl:=by
 have hop:=A.op
 by_cases k4:kdA a.op=4
 ·obtain ⟨μ',w',h1,h2,rfl,h4,h5⟩:=wQb (C:=C) k4 hop σA h v h' hr μ σ w hE S o rfl
  exact .inl ⟨hw,.inl ⟨A.un k4,w',h5,μ',h1,h2,wDV A (hE.mono h1.mono) (wLk μ'),h4⟩⟩
 ·by_cases k5:kdA a.op=5
  ·cases hq:a.op <;> rw [hq] at k5 <;> first | (simp [kdA] at k5;done) | skip
   rename_i x args
   rw [hq] at hop hr
   have hop:wMI x args o.op=true:=hop
   unfold wMI at hop
   split at hop <;> first | (cases hop;done) | skip
   rename_i c hoc
   obtain ⟨ce,cargs,tys⟩:=c
   simp only at hop
   split at hop <;> first | (cases hop;done) | skip
   rename_i f
   simp only [hH] at hop
   have hx:=wAJ hop.1 hE
   have ha:=wFY hop.2 hE
   have hr:wFK x args tb ex exY σA h=some (v,h'):=hr
   unfold wFK at hr
   split at hr
   ·rename_i g fi ca hg
    rw [hg] at hx
    obtain ⟨fv,cv,g1,g2,g3⟩:=hx
    obtain ⟨hcall,hgv⟩:=HC _ _ _ _ _ hr
    have G:=hgv μ w _ S (wDN g1 (wDN ha g2))
    refine .inl ⟨hw,.inr (.inr (.inl ⟨_,_,_,Enters.mk (l:=cargs.toList) hoc g3 hcall rfl (by rw [nr]),G,?_⟩))⟩
    rintro cv' w' ⟨μ',h1,h2,h3,h4⟩
    exact ⟨μ',h1,h2,wDV A (hE.mono h1.mono) h3,h4⟩
   ·rename_i b hb
    rw [hb] at hx
    obtain ⟨c,g1,g2⟩:=hx
    have hy:=HY _ _ _ _ _ hr
    have Y:=hy μ w _ c S ha g1
    have R:=Yd.rounds (σ:=σ) hoc g2 rfl Y
    refine .inl ⟨hw,.inr (.inr (.inr (R.mono ?_)))⟩
    rintro cv w' ⟨t,rfl,μ',h1,h2,rfl,h4⟩
    exact ⟨μ',h1,h2,wDV A (hE.mono h1.mono) rfl,h4⟩
   ·cases hr
  ·have hk:kdA a.op=0 \/ kdA a.op=1 \/ kdA a.op=3:=by
    cases hq:a.op <;> rw [hq] at k4 k5 <;> simp [kdA] at k4 k5 ⊢
   obtain ⟨μ',w',cv,h1,h2,h3,h4,h5⟩:=wQa (C:=C) hk hop σA h v h' hr μ σ w hE S o rfl
   exact .inl ⟨hw,.inr (.inl ⟨cv,w',h5,μ',h1,h2,wDV A (hE.mono h1.mono) h3,h4⟩)⟩
theorem wQd (HC:wFM C P tb ex) (HY:wEK C P exY) {N:Nat} {l:List Oper} {a:AO} {o:Oper} {μ:Mu} {σA:Tr AV} {σ:Env} {h h':AH} {v:AV} {w:World} (A:AOK P N l a o) (hw:wanted l σ o=true) (hr:opK a.kd a.op tb ex exY σA h=some (v,h')) (hE:EnvR μ σA σ) (S:Sim C P μ h w) :
  Step1 P l o σ w fun cv w'=>(a.kd=2->Keep w w' Non)/\∃ μ',Ext μ h.fl.nat w μ' w'/\Sim C P μ' h' w'/\EnvR μ' (wFQ a.dst σA v) (put' σ o cv)/\h'.fl=h.fl:=by
 by_cases k2:a.kd=2
 ·have hr:wNu a.op tb ex exY σA h=some (v,h'):=by rw [k2] at hr;exact hr
  unfold wNu at hr
  split at hr
  ·rename_i v0 h0 hq
   cases hr
   refine (wQc HC HY A hw hq hE (S.floor h.nx)).mono ?_
   rintro cv w' ⟨μ',h1,h2,h3,h4⟩
   obtain ⟨g1,g2⟩:=S.non h1 h.fl.nat
   exact ⟨fun _=>g1,μ',g2,h2.floor h.fl,h3,rfl⟩
  ·cases hr
 ·have hr:opY a.op tb ex exY σA h=some (v,h'):=by
   have hb:nB a.kd 2=false:=by
    cases hb:nB a.kd 2 with
    | false=>rfl
    | true=>exact absurd (nA hb) k2
   have:opK a.kd a.op=opY a.op:=by unfold opK;rw [hb]
   rw [this] at hr;exact hr
  exact (wQc HC HY A hw hr hE S).mono fun cv w' hq=>⟨fun e=>absurd e k2,hq⟩
def flK (k:Nat):Bool:=nB k 1 || nB k 3
def wIH:List AO->Sch
 | []=>.nil
 | a :: os=>match flK a.kd with
  | true=>.fl a.ix (wIH os)
  | false=>.fx a.ix (wIH os) .stop
theorem wII (HC:wFM C P tb ex) (HY:wEK C P exY) {N:Nat} {l:List Oper} {ks:List Nat} {Q:wCd} {D:List Deferred}:∀ (os:List AO) (σA:Tr AV) (h:AH) (σA':Tr AV) (h':AH),wAY tb ex exY os σA h=some (σA',h') ->
  (∀ a ∈ os,wGE P N l a=true/\kOf ks a.ix=a.kd)->∀ (μ:Mu) (σ:Env) (w:World),Sim C P μ h w->EnvR μ σA σ ->
  (∀ μ' w' σ',Ext μ h.fl.nat w μ' w'->Sim C P μ' h' w'->EnvR μ' σA' σ'->h'.fl=h.fl->Q D .normal σ' w')->OKS N P l Q D ks (wIH os) σ w
 | [],σA,h,σA',h',hr,_,μ,σ,w,S,hE,hQ=>by
  rw [wAi] at hr;cases hr
  exact hQ μ w σ (Ext.refl μ _ w) S hE rfl
 | a :: os,σA,h,σA',h',hr,hc,μ,σ,w,S,hE,hQ=>by
  obtain ⟨hc1,hk⟩:=hc a (by simp)
  obtain ⟨o,A⟩:=wCc hc1
  have hc2:∀ b ∈ os,wGE P N l b=true/\kOf ks b.ix=b.kd:=fun b hb=>hc b (by simp [hb])
  rw [wAm] at hr
  have hw:=wHP A hE
  cases hwa:wCN σA a.grd with
  | false =>
   rw [hwa] at hr hw
   simp only at hr
   have IH:=wII HC HY os _ h σA' h' hr hc2 μ (put' σ o undef) w S (wDV A hE (wLk μ)) hQ
   unfold wIH
   split
   ·exact ⟨o,A.get,wGs A,.inr ⟨hw,IH⟩⟩
   ·exact ⟨⟨o,A.get,wGs A,.inr ⟨hw,KeepD.refl l ks _ w,IH⟩⟩,trivial⟩
  | true =>
   rw [hwa] at hr hw
   simp only at hr
   split at hr
   ·rename_i r hop
    obtain ⟨v,h1⟩:=r
    simp only at hr
    unfold wIH
    split
    ·rename_i hfl
     have hk13:a.kd=1 \/ a.kd=3:=by
      unfold flK at hfl
      simp only [nO] at hfl
      exact hfl.imp nA nA
     have hop:opY a.op tb ex exY σA h=some (v,h1):=by
      rcases hk13 with e | e <;> (rw [e] at hop;exact hop)
     have hL:kdA a.op=1 \/ kdA a.op=3:=by
      rcases hk13 with e | e
      ·exact A.k1 e
      ·exact .inr (A.k3 e)
     obtain ⟨rfl,hh⟩:=wGr (C:=C) hL A.op σA h v h1 hop
     obtain ⟨cv,g1,g2⟩:=hh μ σ w hE S
     refine ⟨o,A.get,wGs A,.inl ⟨hw,?_⟩⟩
     by_cases k3:a.kd=3
     ·obtain ⟨_,hp⟩:=wGq (tb:=tb) (ex:=ex) (exY:=exY) (A.k3 k3) A.op σA h1 v h1 hop
      obtain ⟨cv,g1,g2⟩:=hp μ σ hE
      exact ⟨cv,fun w' _=>g2 o w' rfl,⟨fun _ w'=>g2 o w' rfl,fun _ w' _=>g2 o w' rfl⟩,wII HC HY os _ h1 σA' h' hr hc2 μ _ w S (wDV A hE g1) hQ⟩
     ·exact ⟨cv,g2 o rfl,⟨fun e=>absurd (hk ▸ e) k3,fun e=>by rw [hk] at e;rcases hk13 with q | q <;> omega⟩,wII HC HY os _ h1 σA' h' hr hc2 μ _ w S (wDV A hE g1) hQ⟩
    ·refine ⟨⟨o,A.get,wGs A,(wQd HC HY A hw hop hE S).mono ?_⟩,trivial⟩
     rintro cv w1 ⟨q0,μ1,q1,q2,q3,q4⟩
     refine ⟨⟨fun e=>q0 (hk ▸ e),fun e=>absurd (hk ▸ e) A.k5⟩,wII HC HY os _ h1 σA' h' hr hc2 μ1 _ w1 q2 q3 fun μ' w' σ' r1 r2 r3 r4=>?_⟩
     rw [q4] at r1 r4
     exact hQ μ' w' σ' (q1.trans r1) r2 r3 r4
   ·cases hr
end
end
end Go.KX
namespace Go.KX
open Go.RowKit Go.KL
section
variable {C:Chk} {P:Program} {tb:Tr AF} {ex exY:Run}
def OkA (C:Chk) (P:Program) (op:Op) (f:Tr AV->AH->Option (AV × AH)):Prop :=
 ∀ σA h v h',f σA h=some (v,h')->∃ (B:AB) (vf:Pos->AV),h'=h.push B/\v=vf h.nx/\(∀ h2:AH,f σA h2=some (vf h2.nx,h2.push B))/\wKV B/\∀ μ σ,EnvR μ σA σ->∀ o:Oper,o.op=op ->
  ∃ (ob:Obj) (val:Nat->Value),(∀ w:World,Runs P σ w o (val w.heap.size) (w.alloc ob)) /\
   (∀ μ' (w:World) b,μ.Le μ'->w.heap[b]?=some ob->AbR C P μ' w ⟨b,0,g0⟩ B)/\∀ μ' p b,μ' p=some ⟨b,0,g0⟩->Rv μ' (vf p) (val b)
theorem wKa {α:Type} {b:Bool} {x:Option α} (h:b=true):ifO b x=x:=by subst h;rfl
theorem a_new {T:Nat} {z:List AV} {op:Op} (hc:wMA P T z op=true):OkA C P op (wOT T z):=by
 intro σA h v h' hr
 cases hr
 unfold wMA at hc
 split at hc
 ·simp only [hH] at hc
  have e:=nA hc.1
  subst e
  obtain ⟨i,zv,z1,z2,z3⟩:=wEH hc.2
  refine ⟨.cells T z,fun p=>.ptr p 0,rfl,rfl,fun h2=>rfl,trivial,fun μ σ hE o ho=>?_⟩
  refine ⟨_,fun b=>.pointer (some ⟨b,0,none⟩),fun w=>⟨by rw [ho];rfl,?_⟩,fun μ' w b hm hb=>⟨_,z3 μ',hb⟩,fun μ' p b hp=>⟨_,hp,rfl⟩⟩
  simp [execOp,ho,Instr.alloc,wDA z1 z2,newVar,newRow,newObj,Sem.run]
 ·cases hc
theorem a_box {T:Nat} {x:AOd} {op:Op} (hc:wMB T x op=true):OkA C P op (wKQ T x):=by
 intro σA h v h' hr
 cases hr
 unfold wMB at hc
 split at hc
 ·simp only [hH] at hc
  have e:=nA hc.1
  subst e
  refine ⟨.cells T _,fun p=>.ptr p 0,rfl,rfl,fun h2=>rfl,trivial,fun μ σ hE o ho=>?_⟩
  obtain ⟨vs,v1,v2⟩:=wFX (wAJ hc.2 hE)
  refine ⟨.cells vs.toArray T,fun b=>.pointer (some ⟨b,0,none⟩),fun w=>⟨by rw [ho];rfl,?_⟩,fun μ' w b hm hb=>⟨vs,v1.mono hm,hb⟩,fun μ' p b hp=>⟨_,hp,rfl⟩⟩
  simp [execOp,ho,Instr.box,newVar,newRow,newObj,v2,Sem.run]
 ·cases hc
theorem a_mkm {op:Op} (hc:wMC op=true):OkA C P op wOU:=by
 intro σA h v h' hr
 cases hr
 unfold wMC at hc
 split at hc
 ·refine ⟨.map0,fun p=>.map p,rfl,rfl,fun h2=>rfl,trivial,fun μ σ hE o ho=>?_⟩
  refine ⟨.map #[] 0,fun b=>.map (some b),fun w=>⟨by rw [ho];rfl,?_⟩,fun μ' w b hm hb=>⟨0,hb⟩,fun μ' p b hp=>⟨_,hp,rfl⟩⟩
  simp [execOp,ho,Instr.makeMap,newObj,Sem.run,Result.andThen]
 ·cases hc
theorem a_mks {T sz by_:Nat} {z:List AV} {x y:AOd} {op:Op} (hc:wMD P T sz by_ z x y op=true):OkA C P op (wFq T sz by_ z x y):=by
 intro σA h v h' hr
 unfold wMD at hc
 split at hc
 ·rename_i t x' y'
  simp only [hH] at hc
  obtain ⟨c1,c2,c3,c4,c5,c6,c7⟩:=hc
  obtain ⟨d,d1,d2⟩:=wAc c1
  split at d2 <;> first | (cases d2;done) | skip
  have e:=nA d2
  subst e
  rename_i e
  obtain ⟨i,i1,i2⟩:=wFZ c2
  obtain ⟨i',j1,j2⟩:=wFa c3
  obtain ⟨i'',zv,k1,k2,k3⟩:=wEH c4
  rw [i1] at j1 k1;cases j1;cases k1
  have hz:=nA c5
  unfold wFq at hr
  split at hr
  ·rename_i l c hl hcc
   obtain ⟨hb,hr⟩:=wBN hr
   cases hr
   simp only [hH,nM] at hb
   obtain ⟨⟨⟨b1,b2⟩,b3⟩,b4⟩:=hb
   refine ⟨.cells e (rep c z),fun p=>.sl p 0 l c,rfl,rfl,fun h2=>(by simp only [wFq,hl,hcc];exact wKa (by simp [b1,b2,b3,b4])),trivial,fun μ σ hE o ho=>?_⟩
   have hx:=wAJ c6 hE;rw [wBk hl] at hx
   have hy:=wAJ c7 hE;rw [wBk hcc] at hy
   have hx:ev σ x'=.int .i64 (l:Int):=hx
   have hy:ev σ y'=.int .i64 (c:Int):=hy
   have zlen:zv.cells.size=sz:=by rw [<- hz,wDj,<- wCV (k3 μ)];simp
   have hcells:(madeCells zv.cells (c * sz))=((nS c zv.cells.toList).flatten).toArray:=by
    apply nI
    have:=wEJ (zc:=zv.cells) (n:=0) c
    simp only [or_false] at this
    rw [zlen] at this
    show ((nb (c * sz)).map (zv.cells[· % zv.cells.size]!)).toList=_
    rw [zlen,this]
   refine ⟨.cells ((nS c zv.cells.toList).flatten).toArray e,fun b=>.slice (some ⟨b,0,none⟩) l c,fun w=>⟨by rw [ho];rfl,?_⟩,fun μ' w b hm hb=>⟨_,wFw (k3 μ') c,hb⟩,fun μ' p b hp=>⟨_,hp,b1,rfl⟩⟩
   have hrun:=run_makeSlice (P:=P) w t e i zv d1 i1 k2 .i64 .i64 (l:Int) (c:Int) (by omega) (by omega) (by rw [i2,nq];exact b2) (by rw [j2];have hb:=Int.ofNat_le.2 b3;rw [Int.natCast_mul] at hb;exact hb) (by omega)
   simp only [nq,i2] at hrun
   rw [hcells] at hrun
   simp [execOp,ho,hx,hy,hrun,Result.andThen]
  ·cases hr
 ·cases hc
theorem wQe {T n:Nat} {z:List AV} {ps:List (Nat × Nat × AOd)} {op:Op} (hc:wIF P T n z ps op=true):OkA C P op (wDh T n z ps):=by
 intro σA h v h' hr
 unfold wIF at hc
 split at hc
 ·rename_i t m qs
  simp only [hH] at hc
  obtain ⟨c1,c2,c3⟩:=hc
  have e:=nA c1
  subst e
  obtain ⟨d,d1,d2⟩:=wAc c2
  split at d2 <;> first | (cases d2;done) | skip
  have e:=nA d2
  subst e
  rename_i e
  split at c3
  ·rename_i i hi
   simp only [hH,nM] at c3
   obtain ⟨c3,c4,c5⟩:=c3
   split at c5
   ·rename_i zv hz
    unfold wDh at hr
    split at hr
    ·rename_i r hr3
     cases hr
     refine ⟨.cells e r,fun p=>.sl p 0 m m,rfl,rfl,fun h2=>by simp only [wDh,hr3],trivial,fun μ σ hE o ho=>?_⟩
     obtain ⟨R,r1,r2,r3⟩:=wGB hE hr3 c4 (wEw μ c5)
     have hf:=wCq _ _ _ _ r1
     refine ⟨.cells R.toArray e,fun b=>.slice (some ⟨b,0,none⟩) m m,fun w=>⟨by rw [ho];rfl,?_⟩,fun μ' w b hm hb=>⟨_,r2.mono hm,hb⟩,fun μ' p b hp=>⟨_,hp,nG _,rfl⟩⟩
     have hs:∀ w,(sizeOf e).run P w=.ok i.size w:=fun w=>by simp [sizeOf,typeInfo,hi]
     have hn':¬ m * i.size > 2 ^ 24:=by omega
     have hq:(qs.map fun (p:Nat × Operand)=>(p.1,ev σ p.2)).toList=qs.toList.map fun (p:Nat × Operand)=>(p.1,ev σ p.2):=by simp
     by_cases h0:m * i.size=0
     ·rw [h0] at hf
      simp only [List.range_zero,kP] at hf
      have hr0:(nb 0).map (fun x=>(#[]:Array Value)[x % (#[]:Array Value).size]!)=#[]:=by rw [show (nb 0)=#[] from rfl,Array.map_empty]
      have hn0:¬ (0:Nat) > 2 ^ 24:=by decide
      simp only [execOp,ho,Instr.buildSlice,Sem.run_bind,wAh d1,hs,Result.andThen_ok,h0,if_neg hn0,if_true,Sem.run_pure,hq,hr0,hf]
      simp [newRow,newObj,Sem.run,Result.andThen]
     ·have hzs:(nb (m * i.size)).map (zv.cells[· % zv.cells.size]!)=((kL (m * i.size)).map fun k=>zv.cells[k % zv.cells.size]!).toArray:=by rw [<- kc,List.map_toArray]
      simp only [execOp,ho,Instr.buildSlice,Sem.run_bind,wAh d1,hs,wDA hi hz,Result.andThen_ok,if_neg hn',if_neg h0,Sem.run_pure,hq,hzs,hf]
      simp [newRow,newObj,Sem.run,Result.andThen]
    ·cases hr
   ·cases c5
  ·cases c3
 ·cases hc
def wBO:AOp->List AOd
 | .mv x=>[x]
 | .pick c x y=>[c] ++ [x] ++ [y]
 | .new _ _=>[]
 | .box _ x=>[x]
 | .ld x=>[x]
 | .ldA _ x=>[x]
 | .st _ x y=>[x] ++ [y]
 | .nilc x=>[x]
 | .add x y=>[x] ++ [y]
 | .sub x y=>[x] ++ [y]
 | .mul x y=>[x] ++ [y]
 | .quo x y=>[x] ++ [y]
 | .rem x y=>[x] ++ [y]
 | .lss x y=>[x] ++ [y]
 | .leq x y=>[x] ++ [y]
 | .gtr x y=>[x] ++ [y]
 | .geq x y=>[x] ++ [y]
 | .eql x y=>[x] ++ [y]
 | .neq x y=>[x] ++ [y]
 | .eqb _ x y=>[x] ++ [y]
 | .eqn _ _ x y=>[x] ++ [y]
 | .eqs _ _ x y=>[x] ++ [y]
 | .neg x=>[x]
 | .not x=>[x]
 | .cvt _ x=>[x]
 | .mkf _ fi ca=>fi ++ ca
 | .mkm =>[]
 | .mks _ _ _ _ x y=>[x] ++ [y]
 | .slc _ x lo hi mx=>[x] ++ lo.toList ++ hi.toList ++ mx.toList
 | .slcA _ _ x lo hi=>[x] ++ lo.toList ++ hi.toList
 | .fad _ x=>[x]
 | .fld _ x=>[x]
 | .fldA _ _ x=>[x]
 | .iad _ x y=>[x] ++ [y]
 | .iadA _ _ x y=>[x] ++ [y]
 | .ix _ x y=>[x] ++ [y]
 | .ixA _ _ x y=>[x] ++ [y]
 | .lk _ _ _ _ x y=>[x] ++ [y]
 | .mput _ _ x y z=>[x] ++ [y] ++ [z]
 | .mdel _ _ x y=>[x] ++ [y]
 | .ext _ x=>[x]
 | .bld _ ps=>(ps.map fun q=>q.2.2)
 | .blds _ _ _ ps=>(ps.map fun q=>q.2.2)
 | .len x=>[x]
 | .lenM x=>[x]
 | .cap x=>[x]
 | .app _ _ _ x y=>[x] ++ [y]
 | .cpy _ x y=>[x] ++ [y]
 | .clr _ x=>[x]
 | .min x y=>[x] ++ [y]
 | .max x y=>[x] ++ [y]
 | .and x y=>[x] ++ [y]
 | .shr x y=>[x] ++ [y]
 | .ixs _ y=>[y]
 | .apz _ _ _ _ x y=>[x] ++ [y]
 | .call x l=>[x] ++ l
 | .bad=>[]
theorem wEd {σ1 σ2:Tr AV}:∀ {l:List AOd},(∀ x ∈ l,evA σ1 x=evA σ2 x)->evs σ1 l=evs σ2 l
 | [],_=>rfl
 | x :: l,h=>by
  show evA σ1 x :: evs σ1 l=evA σ2 x :: evs σ2 l
  rw [h x (by simp),wEd fun y hy=>h y (by simp [hy])]
theorem wEL {σ1 σ2:Tr AV}:∀ {ps:List (Nat × Nat × AOd)} {cs:List AV},(∀ q ∈ ps,evA σ1 q.2.2=evA σ2 q.2.2)->wHI σ1 cs ps=wHI σ2 cs ps
 | [],cs,_=>rfl
 | (off,n,x) :: ps,cs,h=>by
  have e:evA σ1 x=evA σ2 x:=h (off,n,x) (by simp)
  simp only [wHI,e]
  cases nB (len (evA σ2 x).cells) n with
  | false=>rfl
  | true =>
   cases wOR cs off (evA σ2 x).cells with
   | none=>rfl
   | some cs'=>exact wEL fun q hq=>h q (by simp [hq])
theorem wDl {σ1 σ2:Tr AV} {o:Option AOd} (h:∀ x ∈ o.toList,evA σ1 x=evA σ2 x):bnd σ1 o=bnd σ2 o:=by
 cases o with
 | none=>rfl
 | some x =>
  have e:=h x (by simp)
  simp only [bnd,e]
theorem wMK {σ1 σ2:Tr AV} (op:AOp) (h:∀ x ∈ wBO op,evA σ1 x=evA σ2 x) (hh:AH):opY op tb ex exY σ1 hh=opY op tb ex exY σ2 hh:=by
 cases op with
 | bld z ps=>exact (show wLW z ps σ1 hh=wLW z ps σ2 hh by simp only [wLW];rw [wEL fun q hq=>h q.2.2 (List.mem_map.2 ⟨q,hq,rfl⟩)])
 | blds T n z ps=>exact (show wDh T n z ps σ1 hh=wDh T n z ps σ2 hh by simp only [wDh];rw [wEL fun q hq=>h q.2.2 (List.mem_map.2 ⟨q,hq,rfl⟩)])
 | mkf f fi ca=>exact (show wKR f fi ca σ1 hh=wKR f fi ca σ2 hh by simp only [wKR];rw [wEd fun x hx=>h x (kX _ hx),wEd fun x hx=>h x (kW _ hx)])
 | call x l=>exact (show wFK x l tb ex exY σ1 hh=wFK x l tb ex exY σ2 hh by simp only [wFK];rw [h x (kX _ (by simp)),wEd fun y hy=>h y (kW _ hy)])
 | slc sz x lo hi mx=>exact (show wIk sz x lo hi mx σ1 hh=wIk sz x lo hi mx σ2 hh by
   simp only [wIk]
   rw [h x (by simp [wBO]),wDl fun y hy=>h y (by simp only [wBO,nN];exact .inl (.inl (.inr hy))),wDl fun y hy=>h y (by simp only [wBO,nN];exact .inl (.inr hy)),wDl fun y hy=>h y (by simp only [wBO,nN];exact .inr hy)])
 | slcA sz n x lo hi=>exact (show wFr sz n x lo hi σ1 hh=wFr sz n x lo hi σ2 hh by
   simp only [wFr]
   rw [h x (by simp [wBO]),wDl fun y hy=>h y (by simp only [wBO,nN];exact .inl (.inr hy)),wDl fun y hy=>h y (by simp only [wBO,nN];exact .inr hy)])
 | mv a_x=>exact (show wPo a_x σ1 hh=wPo a_x σ2 hh by simp only [wPo,h a_x (by simp [wBO])])
 | pick a_c a_x a_y=>exact (show wFo a_c a_x a_y σ1 hh=wFo a_c a_x a_y σ2 hh by simp only [wFo,h a_c (by simp [wBO]),h a_x (by simp [wBO]),h a_y (by simp [wBO])])
 | new a_T a_z=>rfl
 | box a_T a_x=>exact (show wKQ a_T a_x σ1 hh=wKQ a_T a_x σ2 hh by simp only [wKQ,h a_x (by simp [wBO])])
 | ld a_x=>exact (show wMt a_x σ1 hh=wMt a_x σ2 hh by simp only [wMt,h a_x (by simp [wBO])])
 | ldA a_n a_x=>exact (show wGf a_n a_x σ1 hh=wGf a_n a_x σ2 hh by simp only [wGf,h a_x (by simp [wBO])])
 | st a_n a_x a_y=>exact (show wNt a_n a_x a_y σ1 hh=wNt a_n a_x a_y σ2 hh by simp only [wNt,h a_x (by simp [wBO]),h a_y (by simp [wBO])])
 | nilc a_x=>exact (show wFp a_x σ1 hh=wFp a_x σ2 hh by simp only [wFp,h a_x (by simp [wBO])])
 | add a_x a_y=>exact (show wLK a_x a_y σ1 hh=wLK a_x a_y σ2 hh by simp only [wLK,h a_x (by simp [wBO]),h a_y (by simp [wBO])])
 | sub a_x a_y=>exact (show wLL a_x a_y σ1 hh=wLL a_x a_y σ2 hh by simp only [wLL,h a_x (by simp [wBO]),h a_y (by simp [wBO])])
 | mul a_x a_y=>exact (show wLM a_x a_y σ1 hh=wLM a_x a_y σ2 hh by simp only [wLM,h a_x (by simp [wBO]),h a_y (by simp [wBO])])
 | quo a_x a_y=>exact (show wLN a_x a_y σ1 hh=wLN a_x a_y σ2 hh by simp only [wLN,h a_x (by simp [wBO]),h a_y (by simp [wBO])])
 | rem a_x a_y=>exact (show wLO a_x a_y σ1 hh=wLO a_x a_y σ2 hh by simp only [wLO,h a_x (by simp [wBO]),h a_y (by simp [wBO])])
 | lss a_x a_y=>exact (show wLP a_x a_y σ1 hh=wLP a_x a_y σ2 hh by simp only [wLP,h a_x (by simp [wBO]),h a_y (by simp [wBO])])
 | leq a_x a_y=>exact (show wLQ a_x a_y σ1 hh=wLQ a_x a_y σ2 hh by simp only [wLQ,h a_x (by simp [wBO]),h a_y (by simp [wBO])])
 | gtr a_x a_y=>exact (show wLR a_x a_y σ1 hh=wLR a_x a_y σ2 hh by simp only [wLR,h a_x (by simp [wBO]),h a_y (by simp [wBO])])
 | geq a_x a_y=>exact (show wLS a_x a_y σ1 hh=wLS a_x a_y σ2 hh by simp only [wLS,h a_x (by simp [wBO]),h a_y (by simp [wBO])])
 | eql a_x a_y=>exact (show wLT a_x a_y σ1 hh=wLT a_x a_y σ2 hh by simp only [wLT,h a_x (by simp [wBO]),h a_y (by simp [wBO])])
 | neq a_x a_y=>exact (show wLU a_x a_y σ1 hh=wLU a_x a_y σ2 hh by simp only [wLU,h a_x (by simp [wBO]),h a_y (by simp [wBO])])
 | eqb a_ne a_x a_y=>exact (show wIf a_ne a_x a_y σ1 hh=wIf a_ne a_x a_y σ2 hh by simp only [wIf,h a_x (by simp [wBO]),h a_y (by simp [wBO])])
 | eqn a_k a_ne a_x a_y=>exact (show wIg a_k a_ne a_x a_y σ1 hh=wIg a_k a_ne a_x a_y σ2 hh by simp only [wIg,h a_x (by simp [wBO]),h a_y (by simp [wBO])])
 | eqs a_ne a_s a_x a_y=>exact (show wIh a_ne a_s a_x a_y σ1 hh=wIh a_ne a_s a_x a_y σ2 hh by simp only [wIh,h a_x (by simp [wBO]),h a_y (by simp [wBO])])
 | neg a_x=>exact (show wLV a_x σ1 hh=wLV a_x σ2 hh by simp only [wLV,h a_x (by simp [wBO])])
 | not a_x=>exact (show wIi a_x σ1 hh=wIi a_x σ2 hh by simp only [wIi,h a_x (by simp [wBO])])
 | cvt a_k a_x=>exact (show wIj a_k a_x σ1 hh=wIj a_k a_x σ2 hh by simp only [wIj,h a_x (by simp [wBO])])
 | mkm =>rfl
 | mks a_T a_sz a_bytes a_z a_x a_y=>exact (show wFq a_T a_sz a_bytes a_z a_x a_y σ1 hh=wFq a_T a_sz a_bytes a_z a_x a_y σ2 hh by simp only [wFq,h a_x (by simp [wBO]),h a_y (by simp [wBO])])
 | fad a_off a_x=>exact (show wIl a_off a_x σ1 hh=wIl a_off a_x σ2 hh by simp only [wIl,h a_x (by simp [wBO])])
 | fld a_off a_x=>exact (show wIm a_off a_x σ1 hh=wIm a_off a_x σ2 hh by simp only [wIm,h a_x (by simp [wBO])])
 | fldA a_off a_n a_x=>exact (show wFs a_off a_n a_x σ1 hh=wFs a_off a_n a_x σ2 hh by simp only [wFs,h a_x (by simp [wBO])])
 | iad a_sz a_x a_y=>exact (show wIn a_sz a_x a_y σ1 hh=wIn a_sz a_x a_y σ2 hh by simp only [wIn,h a_x (by simp [wBO]),h a_y (by simp [wBO])])
 | iadA a_sz a_n a_x a_y=>exact (show wFt a_sz a_n a_x a_y σ1 hh=wFt a_sz a_n a_x a_y σ2 hh by simp only [wFt,h a_x (by simp [wBO]),h a_y (by simp [wBO])])
 | ix a_n a_x a_y=>exact (show wOV a_n a_x a_y σ1 hh=wOV a_n a_x a_y σ2 hh by simp only [wOV,h a_x (by simp [wBO]),h a_y (by simp [wBO])])
 | ixA a_sz a_n a_x a_y=>exact (show wIo a_sz a_n a_x a_y σ1 hh=wIo a_sz a_n a_x a_y σ2 hh by simp only [wIo,h a_x (by simp [wBO]),h a_y (by simp [wBO])])
 | lk a_two a_k a_ok a_z a_x a_y=>exact (show wMu a_two a_k a_ok a_z a_x a_y σ1 hh=wMu a_two a_k a_ok a_z a_x a_y σ2 hh by simp only [wMu,h a_x (by simp [wBO]),h a_y (by simp [wBO])])
 | mput a_two a_k a_x a_y a_z=>exact (show wFI a_two a_k a_x a_y a_z σ1 hh=wFI a_two a_k a_x a_y a_z σ2 hh by simp only [wFI,h a_x (by simp [wBO]),h a_y (by simp [wBO]),h a_z (by simp [wBO])])
 | mdel a_two a_k a_x a_y=>exact (show wFJ a_two a_k a_x a_y σ1 hh=wFJ a_two a_k a_x a_y σ2 hh by simp only [wFJ,h a_x (by simp [wBO]),h a_y (by simp [wBO])])
 | ext a_i a_x=>exact (show wIp a_i a_x σ1 hh=wIp a_i a_x σ2 hh by simp only [wIp,h a_x (by simp [wBO])])
 | len a_x=>exact (show wIq a_x σ1 hh=wIq a_x σ2 hh by simp only [wIq,h a_x (by simp [wBO])])
 | lenM a_x=>exact (show wDy a_x σ1 hh=wDy a_x σ2 hh by simp only [wDy,h a_x (by simp [wBO])])
 | cap a_x=>exact (show wIr a_x σ1 hh=wIr a_x σ2 hh by simp only [wIr,h a_x (by simp [wBO])])
 | app a_T a_sz a_bytes a_x a_y=>exact (show wHu a_T a_sz a_bytes a_x a_y σ1 hh=wHu a_T a_sz a_bytes a_x a_y σ2 hh by simp only [wHu,h a_x (by simp [wBO]),h a_y (by simp [wBO])])
 | cpy a_sz a_x a_y=>exact (show wHv a_sz a_x a_y σ1 hh=wHv a_sz a_x a_y σ2 hh by simp only [wHv,h a_x (by simp [wBO]),h a_y (by simp [wBO])])
 | clr a_z a_x=>exact (show wHw a_z a_x σ1 hh=wHw a_z a_x σ2 hh by simp only [wHw,h a_x (by simp [wBO])])
 | min a_x a_y=>exact (show wLX a_x a_y σ1 hh=wLX a_x a_y σ2 hh by simp only [wLX,h a_x (by simp [wBO]),h a_y (by simp [wBO])])
 | max a_x a_y=>exact (show wLY a_x a_y σ1 hh=wLY a_x a_y σ2 hh by simp only [wLY,h a_x (by simp [wBO]),h a_y (by simp [wBO])])
 | bad=>rfl
 | and a_x a_y=>exact (show wLZ a_x a_y σ1 hh=wLZ a_x a_y σ2 hh by simp only [wLZ,h a_x (by simp [wBO]),h a_y (by simp [wBO])])
 | ixs a_l a_y=>exact (show wIs a_l a_y σ1 hh=wIs a_l a_y σ2 hh by simp only [wIs,h a_y (by simp [wBO])])
 | apz a_T a_sz a_b a_z a_x a_y=>exact (show wHz a_T a_sz a_b a_z a_x a_y σ1 hh=wHz a_T a_sz a_b a_z a_x a_y σ2 hh by simp only [wHz,h a_x (by simp [wBO]),h a_y (by simp [wBO])])
 | shr a_x a_y=>exact (show wLa a_x a_y σ1 hh=wLa a_x a_y σ2 hh by simp only [wLa,h a_x (by simp [wBO]),h a_y (by simp [wBO])])
variable {r:Option Nat} {N:Nat} {Q:wCd} {D:List Deferred} {l:List Oper}
theorem CK.anyRel {id:Nat} {σ:Env} {w:World} (hm:P.follows .mixedOrders=true) (hpr:∀ i,i < l.length->∀ j ∈ prI l i,j < i) (J:(Nat->Bool)->Env->World->Prop)
  (h0:J (fun _=>false) σ { w with drawn:=w.drawn + 1 })
  (step:∀ S i σ w,i < l.length->S i=false->(∀ j ∈ prI l i,S j=true)->(∀ k,k < l.length->S k=true->∀ j ∈ prI l k,S j=true)->(∀ k,S k=true->k < l.length)->J S σ w ->
   ∃ o,l[i]?=some o/\(∀ d,o.dst=some d->d < N)/\Step1 P l o σ w fun v w'=>J (fun k=>k == i || S k) (put' σ o v) w')
  (fin:∀ S σ w,(∀ i,i < l.length->S i=true)->J S σ w->Q D .normal σ w):CK r N P (.region id l.toArray true) Q D σ w:=by
 intro a ha
 refine wpIn_region_any hm ?_
 have prog:∀ (listed:Array Bool),listed.size=l.length->Region.ready .any l.toArray listed=[]->∀ i,i < l.length->listed.getD i false=true:=by
  intro listed hsz hnil i
  induction i using Nat.strongRecOn with
  | _ i ih =>
   intro hi
   cases hb:listed.getD i false with
   | true=>rfl
   | false =>
    have:i ∈ Region.ready .any l.toArray listed:=(wCn hsz).2 ⟨hi,hb,fun j hj=>ih j (hpr i hi j hj) (Nat.lt_trans (hpr i hi j hj) hi)⟩
    rw [hnil] at this;cases this
 have core:∀ (fuel:Nat) (listed:Array Bool) (σ:Env) (a:Act) (w:World),listed.size=l.length->Rep N D a σ->(∀ k,k < l.length->listed.getD k false=true->∀ j ∈ prI l k,listed.getD j false=true) ->
   J (fun i=>listed.getD i false) σ w->(listed.toList.filter (! ·)).length <= fuel->wpAnyIn (WF r) 0 P .any l.toArray (wHB N Q) fuel listed a w:=by
  intro fuel
  induction fuel with
  | zero =>
   intro listed σ a w hsz hr hdc hJ hf
   have hall:∀ i,i < l.length->listed.getD i false=true:=by
    intro i hi
    cases hb:listed.getD i false with
    | true=>rfl
    | false=>have:=wEX listed i (by omega) hb;omega
   refine ⟨?_,σ,D,hr,fin _ σ w hall hJ⟩
   cases hr:Region.ready .any l.toArray listed with
   | nil=>rfl
   | cons x xs =>
    have hx:x ∈ Region.ready .any l.toArray listed:=by rw [hr];simp
    obtain ⟨h1,h2,_⟩:=(wCn hsz).1 hx
    rw [hall x h1] at h2;cases h2
  | succ fuel ih =>
   intro listed σ a w hsz hr hdc hJ hf
   refine ⟨fun hnil=>⟨σ,D,hr,fin _ σ w (prog listed hsz hnil) hJ⟩,fun i hi=>?_⟩
   obtain ⟨hlt,hun,hpi⟩:=(wCn hsz).1 hi
   have hsz':(listed.setIfInBounds i true).size=l.length:=by simpa using hsz
   have hf':((listed.setIfInBounds i true).toList.filter (! ·)).length <= fuel:=by have:=wEX listed i (by omega) hun;omega
   have hS:∀ k,listed.getD k false=true->k < l.length:=by
    intro k hk
    rcases ny k l.length with h | h
    ·exact h
    ·rw [ni,Array.getElem?_eq_none (by omega)] at hk;cases hk
   obtain ⟨o,ho,hN,hst⟩:=step _ i σ w hlt hun hpi hdc hS hJ
   refine wFi ho hr hN hst ?_
   intro v w' a' hr' hJ'
   refine ih _ (KL.put' σ o v) a' w' hsz' hr' ?_ ?_ hf'
   ·intro k hk hkl j hj
    rw [wEW (by omega)] at hkl ⊢
    rcases hkl with rfl | hkl
    ·exact .inr (hpi j hj)
    ·exact .inr (hdc k hk hkl j hj)
   ·have e:(fun k=>(listed.setIfInBounds i true).getD k false)=fun k=>k == i || listed.getD k false:=by
     funext k
     rw [Bool.eq_iff_iff,wEW (by omega),nO,beq_iff_eq]
    rw [e]
    exact hJ'
 have rep:∀ k,(kU l.toArray.size false).getD k false=false:=by
  intro k
  rw [ni,kQ]
  split <;> rfl
 refine core l.toArray.size (kU l.toArray.size false) σ a _ (by simp) ha ?_ ?_ ?_
 ·intro k hk hkl
  rw [rep k] at hkl
  cases hkl
 ·have e:(fun i=>(kU l.toArray.size false).getD i false)=fun _=>false:=by
   funext i
   rw [ni,kQ]
   split <;> rfl
  rw [e]
  exact h0
 ·exact nf (List.length_filter_le _ _) (by simp)
end
end Go.KX
namespace Go.KX
noncomputable section
open Go.RowKit Go.KL
def wCL:List AOd->List Pos
 | []=>[]
 | .t p :: l=>p :: wCL l
 | .c _ :: l=>wCL l
def wKp:AOp->Bool
 | .new _ _ | .box _ _ | .mkm | .mks _ _ _ _ _ _ | .blds _ _ _ _=>true
 | _=>false
def wBx (a:AO):List Pos:=wCL (wBO a.op) ++ (match a.grd with | some (p,_)=>[p] | none=>[])
def Sub (a:AOp) (o:Oper):Prop:=∀ t,Operand.tmp t ∈ o.op.operands->∃ p ∈ wCL (wBO a),p.nat - 1=t
def wJj (l:List Oper) (x i:Nat):Prop:=∀ S:Nat->Bool,(∀ k,k < l.length->S k=true->∀ j ∈ prI l k,S j=true)->(∀ j ∈ prI l i,S j=true)->S x=true
def wGF (acc:List Nat):List Nat->Nat
 | []=>0
 | p :: ps=>wGF acc ps ||| (2 ^ p ||| acc.getD p 0)
def wNz (acc:List Nat):List Oper->List Nat
 | []=>acc
 | o :: r=>wNz (acc ++ [wGF acc (wKJ o)]) r
theorem wGt {acc:List Nat} {x:Nat}:∀ {ps:List Nat},(wGF acc ps).testBit x=true->∃ p ∈ ps,x=p \/ (acc.getD p 0).testBit x=true
 | [],h=>by simp [wGF] at h
 | p :: ps,h=>by
  simp only [wGF,Nat.testBit_or,nO,Nat.testBit_two_pow,decide_eq_true_eq] at h
  rcases h with h | h | h
  ·obtain ⟨q,h1,h2⟩:=wGt h
   exact ⟨q,by simp [h1],h2⟩
  ·exact ⟨p,by simp,.inl h.symm⟩
  ·exact ⟨p,by simp,.inr h⟩
theorem wIz {l:List Oper} (hpr:∀ i,i < l.length->∀ j ∈ prI l i,j < i):∀ (rest done:List Oper) (acc:List Nat),l=done ++ rest->acc.length=done.length->(∀ i x,(acc.getD i 0).testBit x=true->wJj l x i) ->
  ∀ i x,((wNz acc rest).getD i 0).testBit x=true->wJj l x i
 | [],done,acc,_,_,h,i,x,hx=>h i x hx
 | o :: r,done,acc,hl,hlen,h,i,x,hx=>by
  refine wIz hpr r (done ++ [o]) (acc ++ [wGF acc (wKJ o)]) (by rw [hl];simp) (by simp [hlen]) ?_ i x hx
  intro i x hx
  rcases Nat.lt_trichotomy i acc.length with hi | hi | hi
  ·rw [nX,nl hi,<- nX] at hx
   exact h i x hx
  ·rw [nX,hi,nk (nG _),Nat.sub_self] at hx
   have hx:(wGF acc (wKJ o)).testBit x=true:=hx
   have hlt:done.length < l.length:=by rw [hl];simp
   have hp:prI l done.length=wKJ o:=by
    unfold prI
    rw [hl,nk (nG _),Nat.sub_self]
    rfl
   obtain ⟨p,h1,h2⟩:=wGt hx
   intro S hdc hS
   rw [hi,hlen] at hS
   have hSp:S p=true:=hS p (by rw [hp];exact h1)
   rcases h2 with rfl | h2
   ·exact hSp
   ·have:=hpr _ hlt p (by rw [hp];exact h1)
    exact h p x h2 S hdc (hdc p (by omega) hSp)
  ·rw [nX,nv (by simp;omega)] at hx
   simp at hx
def dne (b:AO) (p:Pos):Bool:=match b.dst with
 | none=>true
 | some q=>!Pos.beq q p
def subB (a:AOp) (o:Oper):Bool:=o.op.operands.toList.all fun
 | .tmp t=>(wCL (wBO a)).any fun p=>nB p.nat (t + 1)
 | _=>true
def kdOK (a:AO):Bool:=wBr a.kd || (a.dst.isSome && (nB a.kd 1 || (nB a.kd 3 || ((nB a.kd 6 && nB (kdA a.op) 3) || ((nB a.kd 4 && wKp a.op) || (kM 8 a.kd && nB (kdA a.op) 1))))))
def zld (m kd:Nat):Nat->List AO->Bool
 | _,[]=>true
 | n,b :: d=>(!Nat.beq b.kd 0 || (m.testBit b.ix || nP (n + 8) kd)) && zld m kd (match wBr b.kd with | true=>n + 1 | false=>n) d
def zop (m:Nat) (l:List Oper) (d:List AO) (a:AO) (t:List AO):Bool :=
 (!wBr a.kd || d.all fun b=>m.testBit b.ix) &&
 ((match a.dst with | none=>true | some p=>d.all (fun b=>dne b p) && t.all (fun b=>dne b p)) &&
 ((wBx a).all (fun p=>dne a p && (t.all (fun b=>dne b p) && d.all (fun b=>dne b p || (m.testBit b.ix && (!(nB a.kd 1 || (nB a.kd 3 || kM 8 a.kd)) || !(nB b.kd 4 || nB b.kd 6)))))) &&
 ((!Nat.beq a.kd 1 || d.all fun b=>!Nat.beq b.kd 0 || m.testBit b.ix) && (!Nat.ble 8 a.kd || zld m a.kd 0 d) &&
 (t.all (fun b=>!Nat.beq b.ix a.ix) &&
 (kdOK a && (match l[a.ix]? with | none=>false | some o=>!wBU o && subB a.op o))))))
def zgo (an:List Nat) (l:List Oper) (d:List AO):List AO->Bool
 | []=>true
 | a :: t=>zop (an.getD a.ix 0) l d a t && zgo an l (a :: d) t
def wOz (a:AO):Bool:=nB a.kd 0 && (match a.op with | .mv _=>true | _=>false)
def wPA:List AO->List AO
 | []=>[]
 | a :: t=>match wOz a with
  | true=>[]
  | false=>a :: wPA t
def wNK:List AO->List AO
 | []=>[]
 | a :: t=>match wOz a with
  | true=>a :: t
  | false=>wNK t
theorem wOA:∀ os:List AO,os=wPA os ++ wNK os
 | []=>rfl
 | a :: t=>by
  unfold wPA wNK
  cases wOz a with
  | true=>rfl
  | false=>exact congrArg (a :: ·) (wOA t)
def ztl (an:List Nat) (l:List Oper) (os:List AO):Bool :=
 ((wNK os).all (fun a=>nP a.kd 8) && (wPA os).all fun a=>nP a.kd 8 || ((wBx a).all (fun p=>(wNK os).all fun b=>dne b p) && (match a.dst with | some p=>(wNK os).all fun b=>dne b p | none=>true))) && (zgo an l [] (wPA os) && (zgo an l [] (wNK os) && (wNK os).all fun b=>(wPA os).all fun a=>!Nat.beq a.ix b.ix && (an.getD b.ix 0).testBit a.ix))
def chkZ (l:List Oper) (os:List AO):Bool :=
 (kL l.length).all (fun i=>(prI l i).all (nP · i)) && ((kL l.length).all (fun i=>os.any fun a=>nB a.ix i) && (zgo (wNz [] l) l [] os || ztl (wNz [] l) l os))
def wMx (l:List AO):Nat:=l.countP fun b=>wBr b.kd
structure ZOK (P:Program) (N:Nat) (l:List Oper) (os:List AO):Prop where
 ao:∀ a ∈ os,wGE P N l a=true
 one:os.Pairwise fun a b=>a.ix ≠ b.ix
 pr:∀ i,i < l.length->∀ j ∈ prI l i,j < i
 anc:∀ s a t,os=s ++ a :: t->wBr a.kd=true->∀ b ∈ s,wJj l b.ix a.ix
 wr:∀ s a t,os=s ++ a :: t->∀ p,a.dst=some p->∀ b ∈ s ++ t,b.dst ≠ some p
 rd:∀ s a t,os=s ++ a :: t->∀ p ∈ wBx a,∀ b ∈ a :: t,b.dst ≠ some p
 rdS:∀ a ∈ os,∀ p ∈ wBx a,∀ b ∈ os,b.dst=some p->wJj l b.ix a.ix
 kd:∀ a ∈ os,wBr a.kd=true \/ (a.dst ≠ none/\(a.kd=1 \/ a.kd=3 \/ (a.kd=6/\kdA a.op=3) \/ (a.kd=4/\wKp a.op=true) \/ (8 <= a.kd/\kdA a.op=1)))
 cl:∀ a ∈ os,a.kd=1 \/ a.kd=3 \/ 8 <= a.kd->∀ p ∈ wBx a,∀ b ∈ os,b.dst=some p->b.kd ≠ 4/\b.kd ≠ 6
 sel:∀ a ∈ os,∀ o,l[a.ix]?=some o->wBU o=false
 sub:∀ a ∈ os,∀ o,l[a.ix]?=some o->Sub a.op o
 ld:∀ s a t,os=s ++ a :: t->a.kd=1->∀ b ∈ s,b.kd=0->wJj l b.ix a.ix
 ld8:∀ s a t,os=s ++ a :: t->8 <= a.kd->∀ s1 b s2,s=s1 ++ b :: s2->b.kd=0->wJj l b.ix a.ix \/ wMx s2 + 8 < a.kd
theorem wOB {m kd:Nat}:∀ (x:List AO) (b:AO) (y:List AO) (n:Nat),zld m kd n (x ++ b :: y)=true->b.kd=0->m.testBit b.ix=true \/ n + wMx x + 8 < kd
 | [],b,y,n,h,h0=>by
  rw [nV,zld,h0] at h
  simp only [hH,nO,nD] at h
  rcases h.1 with g | g | g
  ·exact absurd g (by decide)
  ·exact .inl g
  ·exact .inr g
 | c :: x,b,y,n,h,h0=>by
  rw [nj,zld] at h
  simp only [hH] at h
  have:=wOB x b y _ h.2 h0
  refine this.imp id fun h=>?_
  unfold wMx at h ⊢
  rw [List.countP_cons]
  cases hf:wBr c.kd <;> rw [hf] at h <;> simp only [if_true,if_false,nQ] at h ⊢ <;> omega
theorem Pos.beq_self:∀ p:Pos,p.beq p=true
 | .H=>rfl
 | .O p=>Pos.beq_self p
 | .I p=>Pos.beq_self p
theorem wGG {b:AO} {p:Pos} (h:dne b p=true):b.dst ≠ some p:=by
 intro e
 unfold dne at h
 rw [e] at h
 simp [Pos.beq_self] at h
theorem wOC {an:List Nat} {l:List Oper}:∀ (os d:List AO),zgo an l d os=true->∀ s a t,os=s ++ a :: t->zop (an.getD a.ix 0) l (s.reverse ++ d) a t=true
 | [],d,_,s,a,t,e=>by simp at e
 | b :: os,d,h,[],a,t,e=>by
  simp only [nV,nE] at e
  obtain ⟨rfl,rfl⟩:=e
  simp only [zgo,hH] at h
  exact h.1
 | b :: os,d,h,c :: s,a,t,e=>by
  simp only [nj,nE] at e
  obtain ⟨rfl,rfl⟩:=e
  simp only [zgo,hH] at h
  have:=wOC (s ++ a :: t) (b :: d) h.2 s a t rfl
  simpa using this
theorem wQf {α:Type} {R:α->α->Prop}:∀ (l:List α),(∀ s a t,l=s ++ a :: t->∀ b ∈ t,R a b)->l.Pairwise R
 | [],_=>List.Pairwise.nil
 | a :: l,h=>List.pairwise_cons.2 ⟨fun b hb=>h [] a l rfl b hb,wQf l fun s b t e=>h (a :: s) b t (by rw [e];rfl)⟩
theorem wJk {P:Program} {N:Nat} {l:List Oper} {os:List AO} (hao:∀ a ∈ os,wGE P N l a=true) (hpr:∀ i,i < l.length->∀ j ∈ prI l i,j < i) (hz:zgo (wNz [] l) l [] os=true):ZOK P N l os:=by
 have han:∀ i x,((wNz [] l).getD i 0).testBit x=true->wJj l x i:=wIz hpr l [] [] rfl rfl fun i x h=>by simp at h
 have key:∀ s a t,os=s ++ a :: t->zop ((wNz [] l).getD a.ix 0) l s.reverse a t=true:=fun s a t e=>by
  have:=wOC os [] hz s a t e
  rwa [List.append_nil] at this
 have wKZ:∀ s a t,os=s ++ a :: t ->
   (wBr a.kd=true->∀ b ∈ s,wJj l b.ix a.ix)/\(∀ p,a.dst=some p->∀ b ∈ s ++ t,b.dst ≠ some p) /\
   (∀ p ∈ wBx a,(∀ b ∈ a :: t,b.dst ≠ some p)/\∀ b ∈ s,b.dst=some p->wJj l b.ix a.ix/\(a.kd=1 \/ a.kd=3 \/ 8 <= a.kd->b.kd ≠ 4/\b.kd ≠ 6)) /\
   ((a.kd=1->∀ b ∈ s,b.kd=0->wJj l b.ix a.ix)/\(8 <= a.kd->∀ s1 b s2,s=s1 ++ b :: s2->b.kd=0->wJj l b.ix a.ix \/ wMx s2 + 8 < a.kd))/\(∀ b ∈ t,a.ix ≠ b.ix)/\kdOK a=true/\(∀ o,l[a.ix]?=some o->wBU o=false/\subB a.op o=true):=by
  intro s a t e
  have hk:=key s a t e
  unfold zop at hk
  simp only [hH,nT,List.mem_reverse,nO,nh] at hk
  obtain ⟨k1,k2,k3,⟨k4,k8⟩,k5,k6,k7⟩:=hk
  refine ⟨fun hf b hb=>?_,fun p hp b hb=>?_,fun p hp=>⟨fun b hb=>?_,fun b hb hd=>?_⟩,⟨fun h1 b hb h0=>?_,fun h8 s1 b s2 es h0=>?_⟩,fun b hb he=>?_,k6,fun o ho=>?_⟩
  ·rcases k1 with k1 | k1
   ·rw [hf] at k1;cases k1
   ·exact han _ _ (k1 b hb)
  ·rw [hp] at k2
   simp only [hH,nT,List.mem_reverse] at k2
   rcases nN.1 hb with hb | hb
   ·exact wGG (k2.1 b hb)
   ·exact wGG (k2.2 b hb)
  ·obtain ⟨g1,g2,g3⟩:=k3 p hp
   rcases kG.1 hb with rfl | hb
   ·exact wGG g1
   ·exact wGG (g2 b hb)
  ·obtain ⟨g1,g2,g3⟩:=k3 p hp
   rcases g3 b hb with g | ⟨g,g'⟩
   ·exact absurd hd (wGG g)
   ·refine ⟨han _ _ g,fun hk=>?_⟩
    rcases g' with g' | g'
    ·rcases hk with hk | hk | hk
     ·rw [hk] at g';exact absurd g' (by decide)
     ·rw [hk] at g';exact absurd g' (by decide)
     ·simp only [Bool.or_eq_false_iff] at g'
      have h8:kM 8 a.kd=true:=by rw [nM];exact hk
      rw [g'.2.2] at h8
      cases h8
    ·constructor <;> intro h4 <;> rw [h4] at g' <;> exact absurd g' (by decide)
  ·rcases k4 with k4 | k4
   ·rw [h1] at k4;exact absurd k4 (by decide)
   ·rcases k4 b hb with g | g
    ·rw [h0] at g;exact absurd g (by decide)
    ·exact han _ _ g
  ·rcases k8 with k8 | k8
   ·rw [<- Bool.not_eq_true,nM] at k8
    exact absurd h8 k8
   ·rw [es,List.reverse_append,List.reverse_cons,nr] at k8
    rcases wOB s2.reverse b (s1.reverse) 0 (by simpa using k8) h0 with g | g
    ·exact .inl (han _ _ g)
    ·refine .inr ?_
     unfold wMx at g ⊢
     rw [List.countP_reverse] at g
     omega
  ·have:=k5 b hb
   rw [he] at this
   simp at this
  ·rw [ho] at k7
   simpa using k7
 have mem:∀ a ∈ os,∃ s t,os=s ++ a :: t:=fun a ha=>List.append_of_mem ha
 refine ⟨hao,wQf os fun s a t e=>(wKZ s a t e).2.2.2.2.1,hpr,fun s a t e=>(wKZ s a t e).1,fun s a t e=>(wKZ s a t e).2.1,fun s a t e p hp=>((wKZ s a t e).2.2.1 p hp).1,fun a ha p hp b hb hd=>?_,fun a ha=>?_,fun a ha hk p hp b hb hd=>?_,fun a ha o ho=>?_,fun a ha o ho=>?_,fun s a t e=>(wKZ s a t e).2.2.2.1.1,fun s a t e=>(wKZ s a t e).2.2.2.1.2⟩
 ·obtain ⟨s,t,e⟩:=mem a ha
  obtain ⟨g1,g2⟩:=(wKZ s a t e).2.2.1 p hp
  rw [e] at hb
  rcases nN.1 hb with hb | hb
  ·exact (g2 b hb hd).1
  ·exact absurd hd (g1 b hb)
 ·obtain ⟨s,t,e⟩:=mem a ha
  have hk:=(wKZ s a t e).2.2.2.2.2.1
  unfold kdOK at hk
  simp only [nO,hH] at hk
  rcases hk with hk | ⟨h1,hk⟩
  ·exact .inl hk
  ·refine .inr ⟨fun e=>(by rw [e] at h1;cases h1),?_⟩
   rcases hk with hk | hk | ⟨hk,h2⟩ | ⟨hk,h2⟩ | ⟨hk,h2⟩
   ·exact .inl (nA hk)
   ·exact .inr (.inl (nA hk))
   ·exact .inr (.inr (.inl ⟨nA hk,nA h2⟩))
   ·exact .inr (.inr (.inr (.inl ⟨nA hk,h2⟩)))
   ·exact .inr (.inr (.inr (.inr ⟨by rwa [nM] at hk,nA h2⟩)))
 ·obtain ⟨s,t,e⟩:=mem a ha
  obtain ⟨g1,g2⟩:=(wKZ s a t e).2.2.1 p hp
  rw [e] at hb
  rcases nN.1 hb with hb | hb
  ·exact (g2 b hb hd).2 hk
  ·exact absurd hd (g1 b hb)
 ·obtain ⟨s,t,e⟩:=mem a ha
  exact ((wKZ s a t e).2.2.2.2.2.2 o ho).1
 ·obtain ⟨s,t,e⟩:=mem a ha
  have h1:=((wKZ s a t e).2.2.2.2.2.2 o ho).2
  unfold subB at h1
  rw [nT] at h1
  intro x hx
  have:=h1 (.tmp x) (by simpa using hx)
  simp only [List.any_eq_true] at this
  obtain ⟨p,g1,g2⟩:=this
  exact ⟨p,g1,by rw [nA g2];rfl⟩
structure ZAll (P:Program) (N:Nat) (l:List Oper) (os A B:List AO):Prop where
 eq:os=A ++ B
 za:ZOK P N l A
 zb:ZOK P N l B
 cross:∀ b ∈ B,∀ a ∈ A,a.ix ≠ b.ix/\wJj l a.ix b.ix
 low:∀ b ∈ B,b.kd < 8
 far:∀ a ∈ A,8 <= a.kd->∀ p,p ∈ wBx a \/ a.dst=some p->∀ b ∈ B,b.dst ≠ some p
 all:∀ i,i < l.length->∃ a ∈ os,a.ix=i
theorem wML {P:Program} {N:Nat} {l:List Oper} {os:List AO} (hao:∀ a ∈ os,wGE P N l a=true) (h:chkZ l os=true):∃ A B,ZAll P N l os A B:=by
 unfold chkZ at h
 rw [hH,hH,nO] at h
 obtain ⟨hpr0,hall0,hz⟩:=h
 simp only [nT,List.mem_range,nD,List.any_eq_true] at hpr0 hall0
 have hpr:∀ i,i < l.length->∀ j ∈ prI l i,j < i:=hpr0
 have hall:∀ i,i < l.length->∃ a ∈ os,a.ix=i:=fun i hi=>by
  obtain ⟨a,h1,h2⟩:=hall0 i hi
  exact ⟨a,h1,nA h2⟩
 have han:∀ i x,((wNz [] l).getD i 0).testBit x=true->wJj l x i:=wIz hpr l [] [] rfl rfl fun i x h=>by simp at h
 rcases hz with hz | hz
 ·exact ⟨os,[],by simp,wJk hao hpr hz,wJk (fun a ha=>by simp at ha) hpr rfl,fun b hb=>by simp at hb,fun b hb=>by simp at hb,fun a _ _ p _ b hb=>by simp at hb,hall⟩
 ·unfold ztl at hz
  simp only [hH,nT,nD,nh] at hz
  obtain ⟨⟨h1,h5⟩,h2,h3,h4⟩:=hz
  have e:=wOA os
  refine ⟨wPA os,wNK os,e,wJk (fun a ha=>hao a (by rw [e];simp [ha])) hpr h2,wJk (fun a ha=>hao a (by rw [e];simp [ha])) hpr h3,fun b hb a ha=>⟨fun e=>?_,han _ _ (h4 b hb a ha).2⟩,h1,fun a ha h8 p hp b hb=>?_,hall⟩
  ·have:=(h4 b hb a ha).1
   rw [e] at this
   simp at this
  ·have h6:=h5 a ha
   simp only [nO,hH,nT,nD] at h6
   rcases h6 with h6 | ⟨h6,h7⟩
   ·omega
   ·rcases hp with hp | hp
    ·exact wGG (h6 p hp b hb)
    ·rw [hp] at h7
     simp only [nT] at h7
     exact wGG (h7 b hb)
theorem wHQ {tb:Tr AF} {ex exY:Run} {σf:Tr AV} {h:AH}:∀ (x y:List AO) (n:Nat),wIT tb ex exY σf h n (x ++ y)=true->wIT tb ex exY σf h n x=true
 | [],_,_,_=>rfl
 | a :: x,y,n,hl=>by
  rw [nj,wDi] at hl
  rw [wDi]
  cases hf:wBr a.kd with
  | true =>
   rw [hf] at hl
   exact wHQ x y _ hl
  | false =>
   rw [hf] at hl
   simp only [hH] at hl ⊢
   exact ⟨hl.1,wHQ x y _ hl.2⟩
theorem wJA {tb:Tr AF} {ex exY:Run} {σf:Tr AV} {h:AH}:∀ (x:List AO) (a:AO) (y:List AO) (n:Nat),wIT tb ex exY σf h n (x ++ a :: y)=true->wBr a.kd=false->n + wMx x + 8 < a.kd->wGn tb ex exY σf h a=true
 | [],a,y,n,hl,hf,hn=>by
  rw [nV,wDi,hf] at hl
  simp only [hH] at hl
  have hb:nP (n + 8) a.kd=true:=by rw [nD];exact hn
  rw [hb] at hl
  exact hl.1
 | c :: x,a,y,n,hl,hf,hn=>by
  rw [nj,wDi] at hl
  unfold wMx at hn
  rw [List.countP_cons] at hn
  cases hc:wBr c.kd with
  | true =>
   rw [hc] at hl hn
   exact wJA x a y _ hl hf (by unfold wMx;simp only [if_true] at hn;omega)
  | false =>
   rw [hc] at hl hn
   simp only [hH] at hl
   exact wJA x a y _ hl.2 hf (by unfold wMx;simp only [if_false,nQ] at hn;omega)
def LCK (tb:Tr AF) (ex exY:Run) (os:List AO) (σ0:Tr AV) (h0:AH) (σf:Tr AV):Prop :=
 ∀ s b t,os=s ++ b :: t->b.kd=0->∀ σ1 h1,wAY tb ex exY s σ0 h0=some (σ1,h1)->wIT tb ex exY σf h1 0 t=true
theorem wJB {tb:Tr AF} {ex exY:Run}:∀ (os:List AO) (σ:Tr AV) (h:AH) (r:Tr AV × AH),wLb tb ex exY os σ h=some r->wAY tb ex exY os σ h=some r/\LCK tb ex exY os σ h r.1
 | [],σ,h,r,hr=>by
  rw [wND] at hr
  exact ⟨by rw [wAi];exact hr,fun s b t e=>by simp at e⟩
 | o :: os,σ,h,r,hr=>by
  rw [wLc] at hr
  split at hr
  ·cases hr
  ·rename_i q hq
   split at hr
   ·cases hr
   ·rename_i r' hr'
    have e:r'=r:=by
     split at hr
     ·split at hr
      ·cases hr;rfl
      ·cases hr
     ·cases hr;rfl
    subst e
    obtain ⟨g1,g2⟩:=wJB os _ _ _ hr'
    have g0:∀ s,wAY tb ex exY (o :: s) σ h=wAY tb ex exY s q.1 q.2:=by
     intro s
     rw [wAm]
     unfold wOX at hq
     cases hw:wCN σ o.grd with
     | true =>
      rw [hw] at hq
      simp only at hq ⊢
      split at hq
      ·rename_i y hy
       cases hq
       rfl
      ·cases hq
     | false =>
      rw [hw] at hq
      cases hq
      rfl
    refine ⟨by rw [g0];exact g1,fun s b t e h0 σ1 h1 hs=>?_⟩
    cases s with
    | nil =>
     simp only [nV,nE] at e
     obtain ⟨rfl,rfl⟩:=e
     rw [wAi] at hs
     cases hs
     have hb:nB o.kd 0=true:=by rw [h0];rfl
     rw [hb] at hr
     simp only at hr
     split at hr
     ·assumption
     ·cases hr
    | cons c s =>
     simp only [nj,nE] at e
     obtain ⟨rfl,rfl⟩:=e
     rw [g0] at hs
     exact g2 s b t rfl h0 σ1 h1 hs
theorem wJl {tb:Tr AF} {ex exY:Run} {os:List AO} {σ:Tr AV} {h:AH} {σf:Tr AV} (hk:∀ a ∈ os,a.kd < 8):LCK tb ex exY os σ h σf:=by
 intro s b t e _ σ1 h1 _
 have:∀ (l:List AO) (n:Nat),(∀ a ∈ l,a.kd < 8)->wIT tb ex exY σf h1 n l=true:=by
  intro l
  induction l with
  | nil=>intro n _;rfl
  | cons a l ih =>
   intro n hl
   rw [wDi]
   have ha:=hl a (by simp)
   have hb:nP (n + 8) a.kd=false:=by rw [<- Bool.not_eq_true,nD];omega
   cases wBr a.kd with
   | true=>exact ih _ fun b hb=>hl b (by simp [hb])
   | false =>
    simp only [hb,Bool.true_and]
    exact ih _ fun b hb=>hl b (by simp [hb])
 exact this t 0 fun a ha=>hk a (by rw [e];simp [ha])
end
end Go.KX
