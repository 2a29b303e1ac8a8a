import Derived.Test.YthbficbpebiekaaGreatY0
import Derived.Lib.AppendZeros
set_option linter.all false
open Bool renaming and_eq_true->nA,or_eq_true->nM,false_eq_true->nN,not_eq_true'->nX,eq_false_iff->nr
open Nat renaming eq_of_beq_eq_true->nB,beq->nD,blt_eq->nG,le_refl->nH,le_of_ble_eq_true->nK,ble_eq->nL,blt->nU,le_trans->nY,le_of_mul_le_mul_right->nb,lt_of_lt_of_le->nf,ble->nu,lt_or_ge->nv,le_mul_of_pos_right->nz,add_mul->kC,mul_le_mul_right->kG
open List.cons renaming injEq->nE
open List renaming map_cons->nI,mem_append->nO,replicate->nP,all_eq_true->nQ,getD_eq_getElem?_getD->nR,nil_append->nV,eq_nil_of_length_eq_zero->nW,cons_append->na,getElem?_eq_getElem->nc,append_assoc->nh,getElem?_map->ni,getElem?_eq_none->nj,length->nl,length_append->np,getElem?_append_right->nq,range->nt,map_nil->nw,mem_append_right->kE,mem_append_left->kH,map_eq_nil_iff->kK,getElem?_take->kL,toArray_range->kM,size_toArray->kP
open Array renaming ext'->nJ,range->nT,getD_eq_getD_getElem?->nZ,getElem?_replicate->ny,replicate->kB,getElem?_toList->kD,toList_append->kJ,size_append->kQ,toList_map->kR
open Int renaming ofNat_eq_natCast->nS,toNat_natCast->ng,negSucc_eq->nk,ofNat->kA
open Go.Value renaming int->no
open Option.some renaming injEq->kO
open Option renaming getD_none->kS,getD_some->kU,map_some->kV
namespace Go.Proofs.YthbficbpebiekaaGreat
open Go.KL
structure wAB where
 Classes:List Int
 Each:Int
 Laps:Int
 Spare:Int
 Loop:Int
 Unused:Int
deriving DecidableEq,Inhabited,Repr
structure wAH where
 Skier:Int
 Loops:List Int
 Bouts:List (List Bool)
deriving DecidableEq,Inhabited,Repr
structure wAC where
 Bib:Int
 Classes:List Int
 Legs:List wAH
deriving DecidableEq,Inhabited,Repr
structure wAA where
 Rules:wAB
 Start:Int
 Teams:List wAC
deriving DecidableEq,Inhabited,Repr
structure wBR where
 Skier:Int
 Loops:List Int
 Bouts:List (List Bool)
deriving DecidableEq,Inhabited,Repr
structure wBO where
 Bib:Int
 Classes:List Int
 Legs:List wBR
deriving DecidableEq,Inhabited,Repr
structure wAM where
 Classes:List Int
 Each:Int
 Laps:Int
 Spare:Int
 Loop:Int
 Unused:Int
deriving DecidableEq,Inhabited,Repr
structure wAD where
 Rules:wAM
 Start:Int
 Teams:List wBO
deriving DecidableEq,Inhabited,Repr
structure wAG where
 of:(wAB->Option Int)
 lo:Int
 hi:Int
structure wAY where
 Spares:Int
 Loops:Int
 Unused:Int
deriving DecidableEq,Inhabited,Repr
structure wAT where
 Spares:Int
 Loops:Int
 Unused:Int
deriving DecidableEq,Inhabited,Repr
structure wCg where
 Race:wAA
 after:List (List Int)
deriving DecidableEq,Inhabited,Repr
structure wCT where
 Laps:Int
 Bibs:List Int
 Times:List (List Int)
deriving DecidableEq,Inhabited,Repr
structure wCX where
 Laps:Int
 Bibs:List Int
 Times:List (List Int)
deriving DecidableEq,Inhabited,Repr
def wBu (p0:wAA):Option (Bool) :=
 if 6 < (↑p0.Rules.Classes.length:Int) then
  some true
 else
  if 14 < (↑p0.Teams.length:Int) then
   some true
  else
   jn (wFF 0 (↑p0.Teams.length:Int) (fun k12 _ =>
    (idx p0.Teams (↑k12:Int)).bind fun x31 =>
    if 10 < (↑x31.Classes.length:Int) then
     esc (some true)
    else
     if 6 < (↑x31.Legs.length:Int) then
      esc (some true)
     else
      jn (wFF 0 (↑x31.Legs.length:Int) (fun k67 _ =>
       (idx x31.Legs (↑k67:Int)).bind fun x89 =>
       if 7 < (↑x89.Loops.length:Int) then
        esc (esc (some true))
       else
        if 7 < (↑x89.Bouts.length:Int) then
         esc (esc (some true))
        else
         jn (wFF 0 (↑x89.Bouts.length:Int) (fun k131 _ =>
          (idx x89.Bouts (↑k131:Int)).bind fun x156 =>
          if 12 < (↑x156.length:Int) then
           esc (esc (esc (some true)))
          else
           some (.inl ())) ()) fun _ =>
         some (.inl ())) ()) fun _ =>
      some (.inl ())) ()) fun _ =>
   some false
def wCm:Option Bool:=some true
def wAs (p0:List Int):Option ((List Int)) :=
 (app 8 ([]:List Int) p0).bind fun x4 =>
 some x4
def wAr (p0:wAB):Option (wAB) :=
 (wAs p0.Classes).bind fun x9 =>
 some (⟨x9,p0.Each,p0.Laps,p0.Spare,p0.Loop,p0.Unused⟩:wAB)
def wBS (p0:List Bool):Option ((List Bool)) :=
 (app 1 ([]:List Bool) p0).bind fun x4 =>
 some x4
def wBH (p0:List (List Bool)):Option ((List (List Bool))) :=
 (wCQ 0 (↑p0.length:Int) (fun k22 l17 =>
  (idx p0 (↑k22:Int)).bind fun x46 =>
  (wBS x46).bind fun x59 =>
  (app 24 l17 [x59]).bind fun x83 =>
  some x83) []).bind fun y27 =>
 some y27
def wBY (p0:wAA):Option (wAA) :=
 ((wAr p0.Rules).bind fun x22 =>
 some (x22.Classes,x22.Each,x22.Laps,x22.Spare,x22.Loop,x22.Unused)).bind fun (l11,x14,x15,x16,x17,x18) =>
 (wCQ 0 (↑p0.Teams.length:Int) (fun k130 l125 =>
  (idx p0.Teams (↑k130:Int)).bind fun x155 =>
  ((wAs x155.Classes).bind fun x187 =>
  some x187).bind fun l181 =>
  (wCQ 0 (↑x155.Legs.length:Int) (fun k289 l284 =>
   (idx x155.Legs (↑k289:Int)).bind fun x318 =>
   (wAs x318.Loops).bind fun x344 =>
   (wBH x318.Bouts).bind fun x358 =>
   (app 56 l284 [(⟨x318.Skier,x344,x358⟩:wAH)]).bind fun x391 =>
   some x391) []).bind fun y294 =>
  (app 56 l125 [(⟨x155.Bib,l181,y294⟩:wAC)]).bind fun x454 =>
  some x454) []).bind fun y135 =>
 some (⟨(⟨l11,x14,x15,x16,x17,x18⟩:wAB),p0.Start,y135⟩:wAA)
def wBv (p0:wAA):Option (wAD) :=
 ((wAr p0.Rules).bind fun x22 =>
 some (x22.Classes,x22.Each,x22.Laps,x22.Spare,x22.Loop,x22.Unused)).bind fun (l11,x14,x15,x16,x17,x18) =>
 (wBY p0).bind fun x111 =>
 (wCQ 0 (↑x111.Teams.length:Int) (fun k161 l156 =>
  (idx x111.Teams (↑k161:Int)).bind fun x186 =>
  (wCQ 0 (↑x186.Legs.length:Int) (fun k237 l232 =>
   (idx x186.Legs (↑k237:Int)).bind fun x266 =>
   (app 56 l232 [(⟨x266.Skier,x266.Loops,x266.Bouts⟩:wBR)]).bind fun x295 =>
   some x295) []).bind fun y242 =>
  (app 56 l156 [(⟨x186.Bib,x186.Classes,y242⟩:wBO)]).bind fun x349 =>
  some x349) []).bind fun y166 =>
 some (⟨(⟨l11,x14,x15,x16,x17,x18⟩:wAM),p0.Start,y166⟩:wAD)
def wBZ (p0:Int) (p1:Int) (p2:Int):Option (Bool) :=
 if p1 <= p0 then
  some (decide (p0 <= p2))
 else
  some false
def wBh (p0:Int) (p1:(Int->Option Bool)):Option (Bool) :=
 (p1 p0).bind fun x1 =>
 some (!x1)
def wBb (p0:List Int) (p1:(Int->Option Bool)):Option (Int) :=
 jn (wFF 0 (↑p0.length:Int) (fun k2 _ =>
  (idx p0 (↑k2:Int)).bind fun x22 =>
  (p1 x22).bind fun x30 =>
  if x30=true then
   esc (some (↑k2:Int))
  else
   some (.inl ())) ()) fun _ =>
 some (-1)
def wBN (p0:List Int) (p1:(Int->Option Bool)):Option (Bool) :=
 (wBb p0 p1).bind fun x1 =>
 some (decide (0 <= x1))
def wCA (p0:List Int) (p1:(Int->Option Bool)):Option (Bool) :=
 (wBN p0 (fun x=>wBh x p1)).bind fun x13 =>
 some (!x13)
def wAk (p0:Int):Option (Bool) :=
 (wBZ p0 0 3).bind fun x1 =>
 some x1
def wBT (p0:List Int):Option (Bool) :=
 (wCA p0 wAk).bind fun x2 =>
 some x2
def wAz (p0:wAB):Option (Int) :=
 some p0.Each
def wBA (p0:wAB):Option (Int) :=
 some p0.Laps
def wBB (p0:wAB):Option (Int) :=
 some p0.Spare
def wBC (p0:wAB):Option (Int) :=
 some p0.Loop
def wBD (p0:wAB):Option (Int) :=
 some p0.Unused
def wCp :Option ((List wAG)) :=
 some [(⟨wAz,1,4⟩:wAG),(⟨wBA,1,5⟩:wAG),(⟨wBB,0,600⟩:wAG),(⟨wBC,0,600⟩:wAG),(⟨wBD,0,6000⟩:wAG)]
def wBK (p0:wAG) (p1:wAB):Option (Bool) :=
 (p0.of p1).bind fun x7 =>
 (wBZ x7 p0.lo p0.hi).bind fun x17 =>
 some x17
def wAl (p0:wAG) (p1:(wAG->Option Bool)):Option (Bool) :=
 (p1 p0).bind fun x5 =>
 some (!x5)
def wAZ (p0:List wAG) (p1:(wAG->Option Bool)):Option (Int) :=
 jn (wFF 0 (↑p0.length:Int) (fun k2 _ =>
  (idx p0 (↑k2:Int)).bind fun x22 =>
  (p1 x22).bind fun x34 =>
  if x34=true then
   esc (some (↑k2:Int))
  else
   some (.inl ())) ()) fun _ =>
 some (-1)
def wAV (p0:List wAG) (p1:(wAG->Option Bool)):Option (Bool) :=
 (wAZ p0 p1).bind fun x1 =>
 some (decide (0 <= x1))
def wBQ (p0:List wAG) (p1:(wAG->Option Bool)):Option (Bool) :=
 (wAV p0 (fun x=>wAl x p1)).bind fun x13 =>
 some (!x13)
def wBU (p0:wAB):Option (Int) :=
 (wBZ (↑p0.Classes.length:Int) 1 4).bind fun x10 =>
 if x10=true then
  (wBT p0.Classes).bind fun x25 =>
  if x25=true then
   (wCp).bind fun x37 =>
   (wBQ x37 (fun x=>wBK x p0)).bind fun x64 =>
   if x64=true then
    some 0
   else
    some 3
  else
   some 3
 else
  some 2
def wAm (p0:wAB) (p1:wAC):Option (Bool) :=
 (wBZ (↑p1.Classes.length:Int) 1 8).bind fun x9 =>
 if x9=true then
  if (↑p0.Classes.length:Int) < (↑p1.Legs.length:Int) then
   some false
  else
   jn (wFF 0 (↑p1.Legs.length:Int) (fun k25 _ =>
    (idx p1.Legs (↑k25:Int)).bind fun x46 =>
    if p0.Laps < (↑x46.Loops.length:Int) then
     esc (some false)
    else
     if (↑k25:Int) < (w64 ((↑p1.Legs.length:Int) - 1)) then
      if (↑x46.Loops.length:Int) < p0.Laps then
       esc (some false)
      else
       if (↑x46.Bouts.length:Int)=(max 0 (w64 ((↑x46.Loops.length:Int) - 1))) then
        some (.inl ())
       else
        esc (some false)
     else
      if (↑x46.Bouts.length:Int)=(max 0 (w64 ((↑x46.Loops.length:Int) - 1))) then
       some (.inl ())
      else
       esc (some false)) ()) fun _ =>
   some true
 else
  some false
def wAg (p0:wAC) (p1:(wAC->Option Bool)):Option (Bool) :=
 (p1 p0).bind fun x5 =>
 some (!x5)
def wAS (p0:List wAC) (p1:(wAC->Option Bool)):Option (Int) :=
 jn (wFF 0 (↑p0.length:Int) (fun k2 _ =>
  (idx p0 (↑k2:Int)).bind fun x22 =>
  (p1 x22).bind fun x38 =>
  if x38=true then
   esc (some (↑k2:Int))
  else
   some (.inl ())) ()) fun _ =>
 some (-1)
def wAQ (p0:List wAC) (p1:(wAC->Option Bool)):Option (Bool) :=
 (wAS p0 p1).bind fun x1 =>
 some (decide (0 <= x1))
def wAd (p0:List wAC) (p1:(wAC->Option Bool)):Option (Bool) :=
 (wAQ p0 (fun x=>wAg x p1)).bind fun x13 =>
 some (!x13)
def wBw (p0:wAC):Option (Bool) :=
 (wBZ p0.Bib 1 999).bind fun x5 =>
 if x5=true then
  (wBT p0.Classes).bind fun x18 =>
  some x18
 else
  some false
def wAn {S E:Type} (f:S->(wAC × wAH)->Option (S ⊕ E)) (s0:S) (p1:wAA):Option (S ⊕ E) :=
 jn (wFF 0 (↑p1.Teams.length:Int) (fun k12 s10 =>
  (idx p1.Teams (↑k12:Int)).bind fun x33 =>
  jn (wFF 0 (↑x33.Legs.length:Int) (fun k66 s64 =>
   (idx x33.Legs (↑k66:Int)).bind fun x91 =>
   (f s64 (x33,x91)).bind fun yr115 =>
   match yr115 with
   | .inl s125 =>
    some (.inl s125)
   | .inr s125 =>
    esc (esc (some (.inr s125)))) s10) fun y142 =>
  some (.inl y142)) s0) fun y163 =>
 some (.inl y163)
def wBc (p0:wAA):Option (Unit) :=
 some ()
def wBV (p0:Int):Option (Bool) :=
 (wBZ p0 1 9000).bind fun x1 =>
 some x1
def wCU (p0:List Bool):Option (wAY × Int) :=
 (wBZ (↑p0.length:Int) 5 8).bind fun x5 =>
 if x5=true then
  jn (wFF 0 (↑p0.length:Int) (fun k23 x22 =>
   (idx p0 (↑k23:Int)).bind fun x45 =>
   if x22=0 then
    esc (some ((⟨0,0,0⟩:wAY),8))
   else
    if x45=true then
     some (.inl (w64 (x22 - 1)))
    else
     some (.inl x22)) 5) fun y72 =>
  if 0 < y72 then
   some ((⟨w64 ((↑p0.length:Int) - 5),y72,w64 (8 - (↑p0.length:Int))⟩:wAY),0)
  else
   some ((⟨w64 ((↑p0.length:Int) - 5),y72,0⟩:wAY),0)
 else
  some ((⟨0,0,0⟩:wAY),2)
def wCC (p0:wAA):Option (Int) :=
 (wBU p0.Rules).bind fun x9 =>
 if x9=0 then
  (wBZ (↑p0.Teams.length:Int) 1 12).bind fun x21 =>
  if x21=true then
   (wAd p0.Teams (fun x=>wAm p0.Rules x)).bind fun x38 =>
   if x38=true then
    (wBZ p0.Start 0 36000).bind fun x50 =>
    if x50=true then
     (wAd p0.Teams wBw).bind fun x65 =>
     if x65=true then
      (wBc p0).bind fun _ =>
      (wAn (S:=Unit) (E:=Int) (fun _ x146 =>
       (wCA x146.2.Loops wBV).bind fun x191 =>
       if x191=true then
        some (.inl ())
       else
        some (.inr 3)) () p0).bind fun rr138 =>
      match rr138 with
      | .inl _ =>
       (wBc p0).bind fun _ =>
       (wAn (S:=Unit) (E:=Int) (fun _ x290 =>
        (wBZ x290.2.Skier 0 (w64 ((↑x290.1.Classes.length:Int) - 1))).bind fun x341 =>
        if x341=true then
         some (.inl ())
        else
         some (.inr 1)) () p0).bind fun rr282 =>
       match rr282 with
       | .inl _ =>
        (wBc p0).bind fun _ =>
        (wAn (S:=Unit) (E:=Int) (fun _ x492 =>
         jn (wFF 0 (↑x492.2.Bouts.length:Int) (fun k537 _ =>
          (idx x492.2.Bouts (↑k537:Int)).bind fun x558 =>
          (wCU x558).bind fun (x571,x572) =>
          if x572=0 then
           some (.inl ())
          else
           esc (some (.inr x572))) ()) fun _ =>
         some (.inl ())) () p0).bind fun rr484 =>
        match rr484 with
        | .inl _ =>
         (wCQ 0 (↑p0.Teams.length:Int) (fun k640 l637 =>
          (idx p0.Teams (↑k640:Int)).bind fun x664 =>
          some (mput l637 x664.Bib true)) ([]:List (Int × Bool))).bind fun y645 =>
         if (↑(y645.length):Int) < (↑p0.Teams.length:Int) then
          some 5
         else
          some 0
        | .inr y618 =>
         some y618
       | .inr y364 =>
        some y364
      | .inr y214 =>
       some y214
     else
      some 3
    else
     some 3
   else
    some 2
  else
   some 2
 else
  some x9
def wAL (p0:Int) (p1:Int) (p2:Int):Option (Bool) :=
 if p0 < p1 then
  some true
 else
  some (decide (p2 < p0))
def wBi (p0:List Int):Option (Bool) :=
 jn (wFF 0 (↑p0.length:Int) (fun k2 _ =>
  (idx p0 (↑k2:Int)).bind fun x20 =>
  (wAL x20 0 3).bind fun x28 =>
  if x28=true then
   esc (some true)
  else
   some (.inl ())) ()) fun _ =>
 some false
def wBL (p0:wAM):Option (Int) :=
 (wAL (↑p0.Classes.length:Int) 1 4).bind fun x5 =>
 if x5=true then
  some 2
 else
  (wBi p0.Classes).bind fun x19 =>
  if x19=true then
   some 3
  else
   (wAL p0.Each 1 4).bind fun x32 =>
   if x32=true then
    some 3
   else
    (wAL p0.Laps 1 5).bind fun x45 =>
    if x45=true then
     some 3
    else
     (wAL p0.Spare 0 600).bind fun x58 =>
     if x58=true then
      some 3
     else
      (wAL p0.Loop 0 600).bind fun x71 =>
      if x71=true then
       some 3
      else
       (wAL p0.Unused 0 6000).bind fun x84 =>
       if x84=true then
        some 3
       else
        some 0
def wAo (p0:List Bool):Option (wAT × Int) :=
 (wAL (↑p0.length:Int) 5 8).bind fun x5 =>
 if x5=true then
  some ((⟨0,0,0⟩:wAT),2)
 else
  jn (wFF 0 (↑p0.length:Int) (fun k27 x26 =>
   if x26=5 then
    esc (some ((⟨0,0,0⟩:wAT),8))
   else
    (idx p0 (↑k27:Int)).bind fun x56 =>
    if x56=true then
     some (.inl (w64 (x26 + 1)))
    else
     some (.inl x26)) 0) fun y74 =>
  if y74 < 5 then
   some ((⟨w64 ((↑p0.length:Int) - 5),w64 (5 - y74),w64 (8 - (↑p0.length:Int))⟩:wAT),0)
  else
   some ((⟨w64 ((↑p0.length:Int) - 5),w64 (5 - y74),0⟩:wAT),0)
def wAj (p0:wAD):Option (Int) :=
 (wBL p0.Rules).bind fun x5 =>
 if x5=0 then
  (wAL (↑p0.Teams.length:Int) 1 12).bind fun x17 =>
  if x17=true then
   some 2
  else
   iter (fun x33 =>
    if x33 < (↑p0.Teams.length:Int) then
     (idx p0.Teams x33).bind fun x48 =>
     (wAL (↑x48.Classes.length:Int) 1 8).bind fun x73 =>
     if x73=true then
      esc (some 2)
     else
      if (↑p0.Rules.Classes.length:Int) < (↑x48.Legs.length:Int) then
       esc (some 2)
      else
       iter (fun x98 =>
        if x98 < (↑x48.Legs.length:Int) then
         (idx x48.Legs x98).bind fun x115 =>
         if (↑x115.Loops.length:Int)=0 then
          if p0.Rules.Laps < (↑x115.Loops.length:Int) then
           esc (esc (some 2))
          else
           if (w64 (x98 + 1)) < (↑x48.Legs.length:Int) then
            if (↑x115.Loops.length:Int)=p0.Rules.Laps then
             if (↑x115.Bouts.length:Int)=0 then
              some (.inl (w64 (x98 + 1)))
             else
              esc (esc (some 2))
            else
             esc (esc (some 2))
           else
            if (↑x115.Bouts.length:Int)=0 then
             some (.inl (w64 (x98 + 1)))
            else
             esc (esc (some 2))
         else
          if p0.Rules.Laps < (↑x115.Loops.length:Int) then
           esc (esc (some 2))
          else
           if (w64 (x98 + 1)) < (↑x48.Legs.length:Int) then
            if (↑x115.Loops.length:Int)=p0.Rules.Laps then
             if (↑x115.Bouts.length:Int)=(w64 ((↑x115.Loops.length:Int) - 1)) then
              some (.inl (w64 (x98 + 1)))
             else
              esc (esc (some 2))
            else
             esc (esc (some 2))
           else
            if (↑x115.Bouts.length:Int)=(w64 ((↑x115.Loops.length:Int) - 1)) then
             some (.inl (w64 (x98 + 1)))
            else
             esc (esc (some 2))
        else
         esc (some (.inl (w64 (x33 + 1))))) big 0
    else
     esc ((wAL p0.Start 0 36000).bind fun x290 =>
     if x290=true then
      some 3
     else
      iter (fun x306 =>
       if x306 < (↑p0.Teams.length:Int) then
        (idx p0.Teams x306).bind fun x321 =>
        (wAL x321.Bib 1 999).bind fun x348 =>
        if x348=true then
         esc (some 3)
        else
         (wBi x321.Classes).bind fun x365 =>
         if x365=true then
          esc (some 3)
         else
          iter (fun x384 =>
           if x384 < (↑x321.Legs.length:Int) then
            iter (fun x404 =>
             (idx x321.Legs x384).bind fun x420 =>
             if x404 < (↑x420.Loops.length:Int) then
              (idx x420.Loops x404).bind fun x453 =>
              (wAL x453 1 9000).bind fun x460 =>
              if x460=true then
               esc (esc (esc (some 3)))
              else
               some (.inl (w64 (x404 + 1)))
             else
              esc (some (.inl (w64 (x384 + 1))))) big 0
           else
            esc (some (.inl (w64 (x306 + 1))))) big 0
       else
        esc (iter (fun x500 =>
         if x500 < (↑p0.Teams.length:Int) then
          iter (fun x518 =>
           (idx p0.Teams x500).bind fun x532 =>
           if x518 < (↑x532.Legs.length:Int) then
            (idx x532.Legs x518).bind fun x570 =>
            (wAL x570.Skier 0 (w64 ((↑x532.Classes.length:Int) - 1))).bind fun x597 =>
            if x597=true then
             esc (esc (some 1))
            else
             some (.inl (w64 (x518 + 1)))
           else
            esc (some (.inl (w64 (x500 + 1))))) big 0
         else
          esc (iter (fun x629 =>
           if x629 < (↑p0.Teams.length:Int) then
            iter (fun x647 =>
             (idx p0.Teams x629).bind fun x661 =>
             if x647 < (↑x661.Legs.length:Int) then
              iter (fun x689 =>
               (idx x661.Legs x647).bind fun x717 =>
               if x689 < (↑x717.Bouts.length:Int) then
                (idx x717.Bouts x689).bind fun x758 =>
                (wAo x758).bind fun (x770,x771) =>
                if x771=0 then
                 some (.inl (w64 (x689 + 1)))
                else
                 esc (esc (esc (some x771)))
               else
                esc (some (.inl (w64 (x647 + 1))))) big 0
             else
              esc (some (.inl (w64 (x629 + 1))))) big 0
           else
            esc (iter (fun x818 =>
             if x818 < (↑p0.Teams.length:Int) then
              jn (wFF 0 x818 (fun k834 _ =>
               (idx p0.Teams x818).bind fun x855 =>
               (idx p0.Teams (↑k834:Int)).bind fun x879 =>
               if x855.Bib=x879.Bib then
                esc (esc (some 5))
               else
                some (.inl ())) ()) fun _ =>
              some (.inl (w64 (x818 + 1)))
             else
              esc (some 0)) big 0)) big 0)) big 0)) big 0)) big 0
 else
  some x5
def wBr (p0:wAA):Option ((Option wCg) × Int) :=
 (wCC p0).bind fun x5 =>
 if x5=0 then
  (wCQ 0 (↑p0.Teams.length:Int) (fun k42 l37 =>
   (idx p0.Teams (↑k42:Int)).bind fun x66 =>
   (wCQ 0 (↑x66.Legs.length:Int) (fun k111 (x106,l107) =>
    (idx x66.Legs (↑k111:Int)).bind fun x140 =>
    (wCQ 0 (↑x140.Loops.length:Int) (fun k181 (x177,l178) =>
     (idx x140.Loops (↑k181:Int)).bind fun x211 =>
     if 0 < (↑k181:Int) then
      (idx x140.Bouts (w64 ((↑k181:Int) - 1))).bind fun x221 =>
      (wCU x221).bind fun (x234,x235) =>
      (app 8 l178 [w64 ((w64 (x177 + x211)) + (w64 ((w64 (x234.Spares * p0.Rules.Spare)) + (w64 (x234.Loops * p0.Rules.Loop)))))]).bind fun x274 =>
      some (w64 ((w64 (x177 + x211)) + (w64 ((w64 (x234.Spares * p0.Rules.Spare)) + (w64 (x234.Loops * p0.Rules.Loop))))),x274)
     else
      (app 8 l178 [w64 (x177 + x211)]).bind fun x292 =>
      some (w64 (x177 + x211),x292)) (x106,l107)).bind fun (y186,y187) =>
    some (y186,y187)) (p0.Start,[])).bind fun (y116,y117) =>
   (app 24 l37 [y117]).bind fun x366 =>
   some x366) []).bind fun y47 =>
  some ((some (⟨p0,y47⟩:wCg)),0)
 else
  some (none,x5)
def wBj (p0:wCg) (p1:Int):Option ((List Int)) :=
 (idx p0.after p1).bind fun x2 =>
 (wCQ 0 (↑x2.length:Int) (fun k31 l27 =>
  (idx x2 (↑k31:Int)).bind fun x55 =>
  (rem (↑(k31 + 1):Int) p0.Race.Rules.Laps).bind fun x63 =>
  if x63=0 then
   (app 8 l27 [x55]).bind fun x73 =>
   some x73
  else
   some l27) []).bind fun y36 =>
 some y36
def wCD (p0:wAA):Option ((List (List Int)) × Int) :=
 (wBr p0).bind fun (x5,x6) =>
 match x5 with
 | none =>
  if x6=0 then
   (wCQ 0 (↑p0.Teams.length:Int) (fun k29 _ =>
    none) ()).bind fun _ =>
   some ([],0)
  else
   some ([],x6)
 | some x24 =>
  if x6=0 then
   (wCQ 0 (↑p0.Teams.length:Int) (fun k100 l95 =>
    (wBj x24 (↑k100:Int)).bind fun x129 =>
    (app 24 l95 [x129]).bind fun x153 =>
    some x153) []).bind fun y105 =>
   some (y105,0)
  else
   some ([],x6)
def wBa (p0:wAD) (p1:Int) (p2:Int) (p3:Int):Option (Int) :=
 (wCQ 0 (p2 + 1) (fun k11 x10 =>
  (idx p0.Teams p1).bind fun x34 =>
  (idx x34.Legs (↑k11:Int)).bind fun x50 =>
  if (↑k11:Int)=p2 then
   (wCQ 0 p3 (fun k80 x79 =>
    (idx x50.Loops (↑k80:Int)).bind fun x106 =>
    if 0 < (↑k80:Int) then
     (idx x50.Bouts (w64 ((↑k80:Int) - 1))).bind fun x116 =>
     (wAo x116).bind fun (x129,x130) =>
     some (w64 ((w64 ((w64 (x79 + x106)) + (w64 (x129.Spares * p0.Rules.Spare)))) + (w64 (x129.Loops * p0.Rules.Loop))))
    else
     some (w64 (x79 + x106))) x10).bind fun y85 =>
   some y85
  else
   (wCQ 0 (↑x50.Loops.length:Int) (fun k175 x174 =>
    (idx x50.Loops (↑k175:Int)).bind fun x201 =>
    if 0 < (↑k175:Int) then
     (idx x50.Bouts (w64 ((↑k175:Int) - 1))).bind fun x211 =>
     (wAo x211).bind fun (x224,x225) =>
     some (w64 ((w64 ((w64 (x174 + x201)) + (w64 (x224.Spares * p0.Rules.Spare)))) + (w64 (x224.Loops * p0.Rules.Loop))))
    else
     some (w64 (x174 + x201))) x10).bind fun y180 =>
   some y180) p0.Start).bind fun y16 =>
 some y16
def wAX (p0:wAD):Option ((List (List Int)) × Int) :=
 (wAj p0).bind fun x5 =>
 if x5=0 then
  iter (fun (l34,x39) =>
   if x39 < (↑p0.Teams.length:Int) then
    iter (fun (l72,x76) =>
     (idx p0.Teams x39).bind fun x94 =>
     if x76 < (↑x94.Legs.length:Int) then
      (idx x94.Legs x76).bind fun x128 =>
      if (↑x128.Loops.length:Int)=p0.Rules.Laps then
       (wBa p0 x39 x76 p0.Rules.Laps).bind fun x148 =>
       (app 8 l72 [x148]).bind fun x163 =>
       some (.inl (x163,w64 (x76 + 1)))
      else
       some (.inl (l72,w64 (x76 + 1)))
     else
      esc ((app 24 l34 [l72]).bind fun x195 =>
      some (.inl (x195,w64 (x39 + 1))))) big ([],0)
   else
    esc (some (l34,0))) big ([],0)
 else
  some ([],x5)
def wAW (p0:List Int) (p1:List Int):Option (Bool) :=
 if (↑p0.length:Int)=(↑p1.length:Int) then
  jn (wFF 0 (↑p0.length:Int) (fun k4 _ =>
   (idx p0 (↑k4:Int)).bind fun x26 =>
   (idx p1 (↑k4:Int)).bind fun x34 =>
   if x26=x34 then
    some (.inl ())
   else
    esc (some false)) ()) fun _ =>
  some true
 else
  some false
def wAh (p0:List (List Int)) (p1:List (List Int)):Option (Bool) :=
 if (↑p0.length:Int)=(↑p1.length:Int) then
  jn (wFF 0 (↑p0.length:Int) (fun k4 _ =>
   (idx p0 (↑k4:Int)).bind fun x26 =>
   (idx p1 (↑k4:Int)).bind fun x39 =>
   (wAW x26 x39).bind fun x52 =>
   if x52=true then
    some (.inl ())
   else
    esc (some false)) ()) fun _ =>
  some true
 else
  some false
def wBy (p0:List Int):Option ((List Int)) :=
 (app 8 ([]:List Int) p0).bind fun x11 =>
 some x11
def wCk (p0:wCg):Option (wCT) :=
 (wCQ 0 (↑p0.Race.Teams.length:Int) (fun k51 (l42,l46) =>
  (idx p0.Race.Teams (↑k51:Int)).bind fun x80 =>
  (app 8 l42 [x80.Bib]).bind fun x108 =>
  (idx p0.after (↑k51:Int)).bind fun x121 =>
  (wBy x121).bind fun x134 =>
  (app 24 l46 [x134]).bind fun x158 =>
  some (x108,x158)) ([],[])).bind fun (y56,y57) =>
 some (⟨w64 ((↑p0.Race.Rules.Classes.length:Int) * p0.Race.Rules.Laps),y56,y57⟩:wCT)
def wCh (p0:wAA):Option (wCT × Int) :=
 (wBr p0).bind fun (x9,x10) =>
 match x9 with
 | none =>
  if x10=0 then
   none
  else
   some ((⟨0,[],[]⟩:wCT),x10)
 | some x28 =>
  if x10=0 then
   (wCk x28).bind fun x55 =>
   some (x55,0)
  else
   some ((⟨0,[],[]⟩:wCT),x10)
def wBP (p0:wAD):Option (wCX × Int) :=
 (wAj p0).bind fun x9 =>
 if x9=0 then
  iter (fun (l56,l60,x65) =>
   if x65 < (↑p0.Teams.length:Int) then
    iter (fun (l101,x105) =>
     (idx p0.Teams x65).bind fun x124 =>
     if x105 < (↑x124.Legs.length:Int) then
      iter (fun (l156,x159) =>
       (idx x124.Legs x105).bind fun x190 =>
       if x159 <= (↑x190.Loops.length:Int) then
        (wBa p0 x65 x105 x159).bind fun x211 =>
        (app 8 l156 [x211]).bind fun x226 =>
        some (.inl (x226,w64 (x159 + 1)))
       else
        esc (some (.inl (l156,w64 (x105 + 1))))) big (l101,1)
     else
      esc ((app 8 l56 [x124.Bib]).bind fun x269 =>
      (app 24 l60 [l101]).bind fun x291 =>
      some (.inl (x269,x291,w64 (x65 + 1))))) big ([],0)
   else
    esc (some ((⟨w64 ((↑p0.Rules.Classes.length:Int) * p0.Rules.Laps),l56,l60⟩:wCX),0))) big ([],[],0)
 else
  some ((⟨0,[],[]⟩:wCX),x9)
def wCV (p0:wAA):Option ((List (List Int)) × Int) :=
 (wBr p0).bind fun (x5,x6) =>
 match x5 with
 | none =>
  if x6=0 then
   (wCQ 0 (↑p0.Teams.length:Int) (fun k29 _ =>
    none) ()).bind fun _ =>
   some ([],0)
  else
   some ([],x6)
 | some x24 =>
  if x6=0 then
   (wCQ 0 (↑p0.Teams.length:Int) (fun k102 l97 =>
    (wBj x24 (↑k102:Int)).bind fun x132 =>
    (wCQ 0 (↑x132.length:Int) (fun k166 (x161,l162) =>
     (chk (↑k166:Int) x132.length).bind fun _ =>
     (app 8 l162 [w64 ((gd x132 k166) - x161)]).bind fun x206 =>
     some ((gd x132 k166),x206)) (p0.Start,[])).bind fun (y171,y172) =>
    (app 24 l97 [y172]).bind fun x252 =>
    some x252) []).bind fun y107 =>
   some (y107,0)
  else
   some ([],x6)
def wAp (p0:wAD):Option ((List (List Int)) × Int) :=
 (wAX p0).bind fun (x5,x6) =>
 if x6=0 then
  (wCQ 0 (↑x5.length:Int) (fun k50 l45 =>
   iter (fun (l88,x92) =>
    (idx x5 (↑k50:Int)).bind fun x111 =>
    if x92 < (↑x111.length:Int) then
     if x92=0 then
      (idx x111 x92).bind fun x140 =>
      (app 8 l88 [w64 (x140 - p0.Start)]).bind fun x152 =>
      some (.inl (x152,w64 (x92 + 1)))
     else
      (idx x111 x92).bind fun x176 =>
      (idx x111 (w64 (x92 - 1))).bind fun x192 =>
      (app 8 l88 [w64 (x176 - x192)]).bind fun x204 =>
      some (.inl (x204,w64 (x92 + 1)))
    else
     esc ((app 24 l45 [l88]).bind fun x231 =>
     some x231)) big ([],0)) []).bind fun y55 =>
  some (y55,0)
 else
  some ([],x6)
def wBe (p0:wAA) (p1:Int):Option ((List Int) × Int) :=
 (wCD p0).bind fun (x5,x6) =>
 if x6=0 then
  (wBZ p1 0 (w64 ((↑p0.Rules.Classes.length:Int) - 1))).bind fun x23 =>
  if x23=true then
   (mkz 8 (↑x5.length:Int) 0).bind fun x35 =>
   (wCQ 0 (↑x5.length:Int) (fun k56 l55 =>
    (idx x5 (↑k56:Int)).bind fun x80 =>
    if (↑x80.length:Int) <= p1 then
     some l55
    else
     (chk (↑k56:Int) l55.length).bind fun _ =>
     (wCQ 0 (↑x5.length:Int) (fun k109 l108 =>
      (idx x5 (↑k109:Int)).bind fun x138 =>
      if p1 < (↑x138.length:Int) then
       (idx x138 p1).bind fun x155 =>
       (idx x80 p1).bind fun x162 =>
       if x155 < x162 then
        (chk (↑k56:Int) l108.length).bind fun _ =>
        some (List.set l108 k56 (w64 ((gd l108 k56) + 1)))
       else
        some l108
      else
       some l108) (List.set l55 k56 1)).bind fun y114 =>
     some y114) x35).bind fun y61 =>
   some (y61,0)
  else
   some ([],1)
 else
  some ([],x6)
def wAe (p0:wAD) (p1:Int):Option ((List Int) × Int) :=
 (wAX p0).bind fun (x5,x6) =>
 if x6=0 then
  (wAL p1 0 (w64 ((↑p0.Rules.Classes.length:Int) - 1))).bind fun x23 =>
  if x23=true then
   some ([],1)
  else
   (wCQ 0 (↑x5.length:Int) (fun k62 l58 =>
    (idx x5 (↑k62:Int)).bind fun x85 =>
    if p1 < (↑x85.length:Int) then
     (wCQ 0 (↑x5.length:Int) (fun k106 x105 =>
      (idx x5 (↑k106:Int)).bind fun x131 =>
      if p1 < (↑x131.length:Int) then
       (idx x131 p1).bind fun x155 =>
       (idx x85 p1).bind fun x171 =>
       if x155 < x171 then
        some (w64 (x105 + 1))
       else
        some x105
      else
       some x105) 1).bind fun y111 =>
     (app 8 l58 [y111]).bind fun x204 =>
     some x204
    else
     (app 8 l58 [0]).bind fun x221 =>
     some x221) []).bind fun y67 =>
   some (y67,0)
 else
  some ([],x6)
def wCi (p0:List Int):Option (List Int):=wPo p0
def wBM (p0:wAA) (p1:Int):Option ((List Int) × Int × Int) :=
 (wCV p0).bind fun (x5,x6) =>
 if x6=0 then
  (wBZ p1 0 (w64 ((↑p0.Rules.Classes.length:Int) - 1))).bind fun x23 =>
  if x23=true then
   (wCQ 0 (↑x5.length:Int) (fun k48 x47 =>
    (idx x5 (↑k48:Int)).bind fun x72 =>
    if p1 < (↑x72.length:Int) then
     (idx x72 p1).bind fun x87 =>
     some (min x47 x87)
    else
     some x47) 360000).bind fun y53 =>
   (wCQ 0 (↑x5.length:Int) (fun k129 l125 =>
    (idx x5 (↑k129:Int)).bind fun x155 =>
    if p1 < (↑x155.length:Int) then
     (idx x155 p1).bind fun x171 =>
     if x171=y53 then
      (idx p0.Teams (↑k129:Int)).bind fun x180 =>
      (app 8 l125 [x180.Bib]).bind fun x205 =>
      some x205
     else
      some l125
    else
     some l125) []).bind fun y134 =>
   if (↑y134.length:Int)=0 then
    some ([],0,6)
   else
    (wCi y134).bind fun x248 =>
    some (x248,y53,0)
  else
   some ([],0,1)
 else
  some ([],0,x6)
def wAb (p0:wAD) (p1:Int):Option ((List Int) × Int × Int) :=
 (wAp p0).bind fun (x5,x6) =>
 if x6=0 then
  (wAL p1 0 (w64 ((↑p0.Rules.Classes.length:Int) - 1))).bind fun x23 =>
  if x23=true then
   some ([],0,1)
  else
   (wCQ 0 (↑x5.length:Int) (fun k55 (x53,b54) =>
    (idx x5 (↑k55:Int)).bind fun x79 =>
    if p1 < (↑x79.length:Int) then
     if b54=true then
      (idx x79 p1).bind fun x105 =>
      if x105 < x53 then
       some (x105,true)
      else
       some (x53,b54)
     else
      (idx x79 p1).bind fun x142 =>
      some (x142,true)
    else
     some (x53,b54)) (0,false)).bind fun (y60,y61) =>
   if y61=true then
    (wCQ 1 (999 + 1) (fun k188 l184 =>
     (wCQ 0 (↑x5.length:Int) (fun k227 l224 =>
      (idx p0.Teams (↑k227:Int)).bind fun x251 =>
      if x251.Bib=(1 + ↑k188:Int) then
       (idx x5 (↑k227:Int)).bind fun x274 =>
       if p1 < (↑x274.length:Int) then
        (idx x274 p1).bind fun x300 =>
        if x300=y60 then
         (app 8 l224 [(1 + ↑k188:Int)]).bind fun x314 =>
         some x314
        else
         some l224
       else
        some l224
      else
       some l224) l184).bind fun y232 =>
     some y232) []).bind fun y193 =>
    some (y193,y60,0)
   else
    some ([],0,6)
 else
  some ([],0,x6)
def wBk (p0:wAB) (p1:wAB):Option (Bool) :=
 (wAW p0.Classes p1.Classes).bind fun x9 =>
 if x9=true then
  if p0.Each=p1.Each then
   if p0.Laps=p1.Laps then
    if p0.Spare=p1.Spare then
     if p0.Loop=p1.Loop then
      some (decide (p0.Unused=p1.Unused))
     else
      some false
    else
     some false
   else
    some false
  else
   some false
 else
  some false
def wBW (p0:List Bool) (p1:List Bool):Option (Bool) :=
 if (↑p0.length:Int)=(↑p1.length:Int) then
  jn (wFF 0 (↑p0.length:Int) (fun k4 _ =>
   (idx p0 (↑k4:Int)).bind fun x26 =>
   (idx p1 (↑k4:Int)).bind fun x34 =>
   if (x26 == x34)=true then
    some (.inl ())
   else
    esc (some false)) ()) fun _ =>
  some true
 else
  some false
def wBI (p0:List (List Bool)) (p1:List (List Bool)):Option (Bool) :=
 if (↑p0.length:Int)=(↑p1.length:Int) then
  jn (wFF 0 (↑p0.length:Int) (fun k4 _ =>
   (idx p0 (↑k4:Int)).bind fun x26 =>
   (idx p1 (↑k4:Int)).bind fun x39 =>
   (wBW x26 x39).bind fun x52 =>
   if x52=true then
    some (.inl ())
   else
    esc (some false)) ()) fun _ =>
  some true
 else
  some false
def wBx (p0:wAA) (p1:wAA):Option (Bool) :=
 (wBk p0.Rules p1.Rules).bind fun x9 =>
 if x9=true then
  if p0.Start=p1.Start then
   if (↑p0.Teams.length:Int)=(↑p1.Teams.length:Int) then
    jn (wFF 0 (↑p0.Teams.length:Int) (fun k26 _ =>
     (idx p0.Teams (↑k26:Int)).bind fun x46 =>
     (idx p1.Teams (↑k26:Int)).bind fun x70 =>
     if x46.Bib=x70.Bib then
      (wAW x46.Classes x70.Classes).bind fun x96 =>
      if x96=true then
       if (↑x46.Legs.length:Int)=(↑x70.Legs.length:Int) then
        jn (wFF 0 (↑x46.Legs.length:Int) (fun k111 _ =>
         (idx x46.Legs (↑k111:Int)).bind fun x135 =>
         (idx x70.Legs (↑k111:Int)).bind fun x159 =>
         if x135.Skier=x159.Skier then
          (wAW x135.Loops x159.Loops).bind fun x185 =>
          if x185=true then
           (wBI x135.Bouts x159.Bouts).bind fun x199 =>
           if x199=true then
            some (.inl ())
           else
            esc (esc (some false))
          else
           esc (esc (some false))
         else
          esc (esc (some false))) ()) fun _ =>
        some (.inl ())
       else
        esc (some false)
      else
       esc (some false)
     else
      esc (some false)) ()) fun _ =>
    some true
   else
    some false
  else
   some false
 else
  some false
def wBf (p0:wAA) (p1:Int):Option (Bool) :=
 (wBu p0).bind fun x5 =>
 if x5=true then
  (wCm).bind fun x17 =>
  some x17
 else
  ((wBY p0).bind fun x63 =>
  (wBv p0).bind fun x83 =>
  some (x63.Rules.Classes,x63.Rules.Each,x63.Rules.Laps,x63.Rules.Spare,x63.Rules.Loop,x63.Rules.Unused,x63.Start,x63.Teams,x83.Rules.Classes,x83.Rules.Each,x83.Rules.Laps,x83.Rules.Spare,x83.Rules.Loop,x83.Rules.Unused,x83.Start,x83.Teams)).bind fun (l30,x33,x34,x35,x36,x37,x38,l39,l45,x48,x49,x50,x51,x52,x53,l54) =>
  (wCC (⟨(⟨l30,x33,x34,x35,x36,x37⟩:wAB),x38,l39⟩:wAA)).bind fun x1081 =>
  (wAj (⟨(⟨l45,x48,x49,x50,x51,x52⟩:wAM),x53,l54⟩:wAD)).bind fun x1106 =>
  if x1081=x1106 then
   (wCD (⟨(⟨l30,x33,x34,x35,x36,x37⟩:wAB),x38,l39⟩:wAA)).bind fun (x1126,x1127) =>
   (wAX (⟨(⟨l45,x48,x49,x50,x51,x52⟩:wAM),x53,l54⟩:wAD)).bind fun (x1146,x1147) =>
   if x1127=x1147 then
    (wAh x1126 x1146).bind fun x1177 =>
    if x1177=true then
     (wCh (⟨(⟨l30,x33,x34,x35,x36,x37⟩:wAB),x38,l39⟩:wAA)).bind fun (x1199,x1200) =>
     (wBP (⟨(⟨l45,x48,x49,x50,x51,x52⟩:wAM),x53,l54⟩:wAD)).bind fun (x1235,x1236) =>
     if x1200=x1236 then
      if x1199.Laps=x1235.Laps then
       (wAW x1199.Bibs x1235.Bibs).bind fun x1286 =>
       if x1286=true then
        (wAh x1199.Times x1235.Times).bind fun x1317 =>
        if x1317=true then
         (wCV (⟨(⟨l30,x33,x34,x35,x36,x37⟩:wAB),x38,l39⟩:wAA)).bind fun (x1345,x1346) =>
         (wAp (⟨(⟨l45,x48,x49,x50,x51,x52⟩:wAM),x53,l54⟩:wAD)).bind fun (x1377,x1378) =>
         if x1346=x1378 then
          (wAh x1345 x1377).bind fun x1418 =>
          if x1418=true then
           (wBe (⟨(⟨l30,x33,x34,x35,x36,x37⟩:wAB),x38,l39⟩:wAA) p1).bind fun (x1440,x1441) =>
           (wAe (⟨(⟨l45,x48,x49,x50,x51,x52⟩:wAM),x53,l54⟩:wAD) p1).bind fun (x1464,x1465) =>
           if x1441=x1465 then
            (wAW x1440 x1464).bind fun x1491 =>
            if x1491=true then
             (wBM (⟨(⟨l30,x33,x34,x35,x36,x37⟩:wAB),x38,l39⟩:wAA) p1).bind fun (x1513,x1514,x1515) =>
             (wAb (⟨(⟨l45,x48,x49,x50,x51,x52⟩:wAM),x53,l54⟩:wAD) p1).bind fun (x1549,x1550,x1551) =>
             if x1515=x1551 then
              if x1514=x1550 then
               (wAW x1513 x1549).bind fun x1579 =>
               if x1579=true then
                (wBx (⟨(⟨l30,x33,x34,x35,x36,x37⟩:wAB),x38,l39⟩:wAA) p0).bind fun x1673 =>
                if x1673=true then
                 (wCm).bind fun x1685 =>
                 some x1685
                else
                 some false
               else
                some false
              else
               some false
             else
              some false
            else
             some false
           else
            some false
          else
           some false
         else
          some false
        else
         some false
       else
        some false
      else
       some false
     else
      some false
    else
     some false
   else
    some false
  else
   some false
end Go.Proofs.YthbficbpebiekaaGreat
namespace Go.KX
open Go.RowKit Go.KL
structure Gh where
 N:Nat
 σ:Env
 t:List Nat
 ac:Code
 bc:Code
 rb:Nat
 fn:FuncId
def g0:Gh:=⟨0,fun _=>undef,[],.skip,.skip,0,0⟩
structure Cl where
 b:Nat
 c:Nat
 g:Gh
abbrev Mu:=Pos->Option Cl
mutual
def Rv (μ:Mu):AV->Value->Prop
 | .int k n,v=>v=.int k n
 | .bool b,v=>v=.bool b
 | .ptr b off,v=>∃ c,μ b=some c/\v=.pointer (some ⟨c.1,off,none⟩)
 | .pnil,v=>v=.pointer none
 | .sl b off n c,v=>∃ d,μ b=some d/\n <= c/\v=.slice (some ⟨d.1,off,none⟩) n c
 | .rw b eo co n,v=>∃ d,μ b=some d/\eo + n <= d.2/\v=.slice (some ⟨d.1,co,none⟩) n (d.2 - eo)
 | .rz b eo,v=>∃ d,μ b=some d/\∃ o,v=.slice (some ⟨d.1,o,none⟩) 0 (d.2 - eo)
 | .snil,v=>v=.slice none 0 0
 | .map b,v=>∃ c,μ b=some c/\v=.map (some c.1)
 | .mnil,v=>v=.map none
 | .fn f fi ca,v=>∃ fv cv,RvL μ fi fv/\RvL μ ca cv/\v=.func (.func (f.nat - 1)) fv.toArray cv.toArray
 | .yld b,v=>∃ c,μ b=some c/\v=.func (.yield c.1) #[] #[]
 | .fnil,v=>v=.nilFunc
 | .agg l,v=>∃ vs,RvL μ l vs/\v=.agg vs.toArray
 | .tup l,v=>∃ vs,RvL μ l vs/\v=.tuple vs.toArray
def RvL (μ:Mu):List AV->List Value->Prop
 | [],vs=>vs=[]
 | a :: l,vs=>∃ v ws,Rv μ a v/\RvL μ l ws/\vs=v :: ws
end
def Mu.Le (μ μ':Mu):Prop:=∀ p c,μ p=some c->μ' p=some c
theorem Mu.Le.refl (μ:Mu):μ.Le μ:=fun _ _ h=>h
theorem Mu.Le.trans {a b c:Mu} (h:a.Le b) (k:b.Le c):a.Le c:=fun p x hx=>k p x (h p x hx)
mutual
theorem Rv.mono {μ μ':Mu} (hm:μ.Le μ'):∀ {a:AV} {v:Value},Rv μ a v->Rv μ' a v
 | .int _ _,_,h=>h
 | .bool _,_,h=>h
 | .ptr _ _,_,⟨c,h1,h2⟩=>⟨c,hm _ _ h1,h2⟩
 | .pnil,_,h=>h
 | .sl _ _ _ _,_,⟨c,h1,h2⟩=>⟨c,hm _ _ h1,h2⟩
 | .rw _ _ _ _,_,⟨c,h1,h2⟩=>⟨c,hm _ _ h1,h2⟩
 | .rz _ _,_,⟨c,h1,h2⟩=>⟨c,hm _ _ h1,h2⟩
 | .snil,_,h=>h
 | .map _,_,⟨c,h1,h2⟩=>⟨c,hm _ _ h1,h2⟩
 | .mnil,_,h=>h
 | .fn _ _ _,_,⟨fv,cv,h1,h2,h3⟩=>⟨fv,cv,RvL.mono hm h1,RvL.mono hm h2,h3⟩
 | .yld _,_,⟨c,h1,h2⟩=>⟨c,hm _ _ h1,h2⟩
 | .fnil,_,h=>h
 | .agg _,_,⟨vs,h1,h2⟩=>⟨vs,RvL.mono hm h1,h2⟩
 | .tup _,_,⟨vs,h1,h2⟩=>⟨vs,RvL.mono hm h1,h2⟩
theorem RvL.mono {μ μ':Mu} (hm:μ.Le μ'):∀ {l:List AV} {vs:List Value},RvL μ l vs->RvL μ' l vs
 | [],_,h=>h
 | _ :: _,_,⟨v,ws,h1,h2,h3⟩=>⟨v,ws,Rv.mono hm h1,RvL.mono hm h2,h3⟩
end
theorem wHY {μ:Mu}:RvL μ [] []:=rfl
theorem wBl {μ:Mu} {a:AV} {l:List AV} {v:Value} {vs:List Value} (h:Rv μ a v) (h':RvL μ l vs):RvL μ (a :: l) (v :: vs):=⟨v,vs,h,h',rfl⟩
theorem wDD {μ:Mu}:∀ {l:List AV} {vs:List Value},RvL μ l vs->vs.length=l.length
 | [],_,h=>by cases h;rfl
 | _ :: _,_,⟨_,_,_,h2,h3⟩=>by subst h3;simp [wDD h2]
theorem wEO {μ:Mu}:∀ {l k:List AV} {vs ws:List Value},RvL μ l vs->RvL μ k ws->RvL μ (l ++ k) (vs ++ ws)
 | [],_,_,_,h,h'=>by cases h;exact h'
 | _ :: _,_,_,_,⟨v,ws,h1,h2,h3⟩,h'=>by subst h3;exact wBl h1 (wEO h2 h')
theorem wFL {μ:Mu}:∀ {l:List AV} {vs:List Value},RvL μ l vs->∀ {i:Nat} {a:AV},l[i]?=some a->∃ v,vs[i]?=some v/\Rv μ a v
 | [],_,_,i,a,hi=>by simp at hi
 | b :: l,_,⟨v,ws,h1,h2,h3⟩,i,a,hi=>by
  subst h3
  cases i with
  | zero=>simp at hi;subst hi;exact ⟨v,rfl,h1⟩
  | succ i=>simpa using wFL h2 (i:=i) (by simpa using hi)
theorem wJF {μ:Mu}:∀ {l:List AV} {vs:List Value} (n:Nat),RvL μ l vs->RvL μ (l.drop n) (vs.drop n)
 | _,_,0,h=>h
 | [],_,n + 1,h=>by cases h;exact rfl
 | _ :: _,_,n + 1,⟨_,_,_,h2,h3⟩=>by subst h3;exact wJF n h2
theorem wJG {μ:Mu}:∀ {l:List AV} {vs:List Value} (n:Nat),RvL μ l vs->RvL μ (l.take n) (vs.take n)
 | _,_,0,_=>rfl
 | [],_,n + 1,h=>by cases h;exact rfl
 | _ :: _,_,n + 1,⟨_,_,h1,h2,h3⟩=>by subst h3;exact wBl h1 (wJG n h2)
theorem wHZ {μ:Mu} {l:List AV} {vs:List Value} (h:RvL μ l vs):∀ n,RvL μ (rep n l) (nP n vs).flatten
 | 0=>rfl
 | n + 1=>by rw [List.replicate_succ,List.flatten_cons];exact wEO h (wHZ h n)
section
variable {α:Type}
theorem wGb:∀ (l:List α) (n:Nat),nth l n=l[n]?
 | [],_=>rfl
 | _ :: _,0=>rfl
 | _ :: l,n + 1=>by show nth l n=_;rw [wGb l n];simp
theorem wEi:∀ (l:List α),len l=l.length
 | []=>rfl
 | _ :: l=>by show Nat.succ (len l)=_;rw [wEi l];rfl
theorem wGM {a:α} {o:Option (List α)} {r:List α} (h:wKa a o=some r):∃ r',o=some r'/\r=a :: r':=by
 cases o with
 | none=>cases h
 | some r'=>cases h;exact ⟨r',rfl,rfl⟩
theorem wKr:∀ {l:List α} {n:Nat} {r:List α},tk l n=some r->r=l.take n/\n <= l.length
 | [],0,r,h=>by cases h;simp
 | [],n + 1,r,h=>by cases h
 | a :: l,0,r,h=>by cases h;simp
 | a :: l,n + 1,r,h=>by
  obtain ⟨r',h1,rfl⟩:=wGM (show wKa a (tk l n)=some r from h)
  obtain ⟨h2,h3⟩:=wKr h1
  simp [h2,h3]
theorem wLh:∀ {l:List α} {off n:Nat} {r:List α},sub l off n=some r->r=(l.drop off).take n/\off + n <= l.length
 | [],0,n,r,h=>by have:=wKr (l:=[]) (n:=n) h;simpa using this
 | [],off + 1,n,r,h=>by cases h
 | a :: l,0,n,r,h=>by have:=wKr (l:=a :: l) (n:=n) h;simpa using this
 | a :: l,off + 1,n,r,h=>by
  obtain ⟨h1,h2⟩:=wLh (show sub l off n=some r from h)
  exact ⟨by simpa using h1,by simp;omega⟩
theorem wKs:∀ {l vs r:List α},ov l vs=some r->vs.length <= l.length/\r=vs ++ l.drop vs.length
 | [],[],r,h=>by cases h;simp
 | [],v :: vs,r,h=>by cases h
 | a :: l,[],r,h=>by cases h;simp
 | a :: l,v :: vs,r,h=>by
  obtain ⟨r',h1,rfl⟩:=wGM (show wKa v (ov l vs)=some r from h)
  obtain ⟨h2,h3⟩:=wKs h1
  subst h3
  exact ⟨by simpa using h2,by simp⟩
theorem wKA:∀ {l:List α} {off:Nat} {vs r:List α},wRE l off vs=some r->off + vs.length <= l.length/\r=l.take off ++ vs ++ l.drop (off + vs.length)
 | [],0,vs,r,h=>by have:=wKs (l:=[]) h;simp at this;simp [this]
 | [],off + 1,vs,r,h=>by cases h
 | a :: l,0,vs,r,h=>by have:=wKs (l:=a :: l) h;simp at this;simp [this]
 | a :: l,off + 1,vs,r,h=>by
  obtain ⟨r',h1,rfl⟩:=wGM (show wKa a (wRE l off vs)=some r from h)
  obtain ⟨h2,h3⟩:=wKA h1
  subst h3
  refine ⟨by simp;omega,?_⟩
  rw [show off + 1 + vs.length=(off + vs.length) + 1 from by omega]
  simp
end
theorem wOA:∀ (vs l:List Value) (off:Nat),off + vs.length <= l.length->wFb l off vs=l.take off ++ vs ++ l.drop (off + vs.length)
 | [],l,off,_=>by simp [wFb]
 | v :: vs,l,off,h=>by
  simp only [List.length_cons] at h
  have hlt:off < l.length:=by omega
  rw [wFb,wOA vs (l.set off v) (off + 1) (by simp;omega)]
  have h1:(l.set off v).take (off + 1)=l.take off ++ [v]:=by
   rw [List.take_set,List.take_add_one,nc hlt]
   rw [List.set_append_right _ _ (by simp;omega)]
   simp [Nat.min_eq_left (Nat.le_of_lt hlt)]
  rw [h1,List.drop_set_of_lt (by omega)]
  rw [show off + 1 + vs.length=off + (v :: vs).length from by simp;omega]
  simp
theorem wJH {μ:Mu} {l vs r:List AV} {L V:List Value} {off:Nat} (h:wRE l off vs=some r) (hl:RvL μ l L) (hv:RvL μ vs V):off + V.length <= L.length/\RvL μ r (wFb L off V):=by
 obtain ⟨h1,rfl⟩:=wKA h
 have e1:=wDD hl
 have e2:=wDD hv
 have h2:off + V.length <= L.length:=by omega
 refine ⟨h2,?_⟩
 rw [wOA V L off h2,e2]
 exact wEO (wEO (wJG off hl) hv) (wJF _ hl)
theorem wFM {μ:Mu} {l r:List AV} {L:List Value} {off n:Nat} (h:sub l off n=some r) (hl:RvL μ l L):RvL μ r ((L.drop off).take n)/\off + n <= L.length:=by
 obtain ⟨rfl,h1⟩:=wLh h
 have e1:=wDD hl
 exact ⟨wJG n (wJF off hl),by omega⟩
theorem wSv {μ:Mu} {a:AV} {v:Value} (h:Rv μ a v) (h1:a.one=true):one v=true:=by
 cases a <;> simp only [Rv] at h <;> first | (cases h1;done) | (subst h;rfl) | (obtain ⟨_,_,_,_,_,rfl⟩:=h;rfl) | (obtain ⟨_,_,_,_,rfl⟩:=h;rfl) | (obtain ⟨_,_,_,rfl⟩:=h;rfl) | (obtain ⟨_,_,rfl⟩:=h;rfl)
theorem wEP {μ:Mu}:∀ {l:List AV} {vs:List Value},RvL μ l vs->wRF l=true->∀ v ∈ vs,one v=true
 | [],_,h,_=>by cases h;simp
 | a :: l,_,⟨v,ws,h1,h2,h3⟩,ho=>by
  subst h3
  have ho:(a.one && wRF l)=true:=ho
  rw [nA] at ho
  intro u hu
  rcases List.mem_cons.1 hu with rfl | hu
  ·exact wSv h1 ho.1
  ·exact wEP h2 ho.2 u hu
theorem wGq {μ:Mu} {a:AV} {v:Value} (h:Rv μ a v):∃ vs,RvL μ a.cells vs/\v.cells=vs.toArray:=by
 cases a with
 | agg l=>obtain ⟨vs,h1,rfl⟩:=h;exact ⟨vs,h1,rfl⟩
 | tup l=>obtain ⟨vs,h1,rfl⟩:=h;exact ⟨[_],wBl ⟨vs,h1,rfl⟩ wHY,rfl⟩
 | _ =>
  refine ⟨[v],wBl h wHY,?_⟩
  simp only [Rv] at h
  first | (subst h;rfl) | (obtain ⟨_,_,_,_,_,rfl⟩:=h;rfl) | (obtain ⟨_,_,_,_,rfl⟩:=h;rfl) | (obtain ⟨_,_,_,rfl⟩:=h;rfl) | (obtain ⟨_,_,rfl⟩:=h;rfl)
end Go.KX
namespace Go.KX
noncomputable section
open Go.RowKit Go.KL
def EnvR (μ:Mu) (σA:Tr AV) (σ:Env):Prop:=∀ p:Pos,Rv μ (evA σA (.t p)) (σ (p.nat - 1))
theorem wKt (σA:Tr AV) (p:Pos):evA σA (.t p)=(σA.get p).getD u:=by
 show Option.rec (motive:=fun _=>AV) u (fun v=>v) (σA.get p)=_
 cases σA.get p <;> rfl
theorem EnvR.mono {μ μ':Mu} {σA:Tr AV} {σ:Env} (h:EnvR μ σA σ) (hm:μ.Le μ'):EnvR μ' σA σ:=fun p=>(h p).mono hm
theorem EnvR.put {μ:Mu} {σA:Tr AV} {σ:Env} (h:EnvR μ σA σ) {p:Pos} {a:AV} {v:Value} (hv:Rv μ a v):EnvR μ (σA.set p a) (upd σ (p.nat - 1) v):=by
 intro q
 rw [wKt,Tr.get_set]
 by_cases e:q=p
 ·subst e;rw [if_pos rfl,wCJ];exact hv
 ·rw [if_neg e,wCH,<- wKt]
  ·exact h q
  ·intro e2
   have:=p.nat_pos;have:=q.nat_pos
   exact e (Pos.nat_inj (by omega))
theorem wOB (μ:Mu):Rv μ u undef:=⟨[],rfl,rfl⟩
theorem wLi {μ:Mu}:∀ {args:List AV} {vs:List Value},RvL μ args vs->∀ {p:Pos} {t:Tr AV} {σ σ':Env},EnvR μ t σ->(∀ i,i < p.nat - 1->σ' i=σ i)->(∀ j v,vs[j]?=some v->σ' (p.nat - 1 + j)=v) ->
  (∀ i,p.nat - 1 + vs.length <= i->σ' i=σ i)->EnvR μ (wMf args p t) σ'
 | [],_,h,p,t,σ,σ',hE,h1,_,h3=>by
  cases h
  intro q
  have:=hE q
  by_cases e:q.nat - 1 < p.nat - 1
  ·rw [h1 _ e];exact this
  ·rw [h3 _ (by simp;omega)];exact this
 | a :: l,_,⟨v,ws,h1,h2,h3⟩,p,t,σ,σ',hE,g1,g2,g3=>by
  subst h3
  have hp:=p.nat_pos
  refine wLi h2 (p:=p.succ) (hE.put (p:=p) h1) ?_ ?_ ?_
  ·intro i hi
   rw [Pos.nat_succ] at hi
   by_cases e:i=p.nat - 1
   ·subst e;rw [wCJ];exact g2 0 v rfl
   ·rw [wCH _ _ e];exact g1 i (by omega)
  ·intro j x hx
   rw [Pos.nat_succ]
   have:=g2 (j + 1) x (by simpa using hx)
   rw [<- this];congr 1;omega
  ·intro i hi
   rw [Pos.nat_succ] at hi
   rw [wCH _ _ (by omega)]
   exact g3 i (by simp;omega)
theorem wRL {μ:Mu} {args:List AV} {vs:List Value} (h:RvL μ args vs):EnvR μ (wMf args .H .e) (wQX vs):=by
 have h0:EnvR μ .e (fun _=>undef):=by intro p;rw [wKt,Tr.get_e];exact wOB μ
 refine wLi h (p:=.H) h0 (fun i hi=>by simp [Pos.nat] at hi) (fun j v hv=>?_) (fun i hi=>?_)
 ·simp [wQX,Pos.nat,hv]
 ·simp only [Pos.nat] at hi
  simp [wQX,nj (by omega:vs.length <= i)]
mutual
def okc:AV->Value->Bool
 | .int k n,.int k' n'=>keq k k' && zeq n n'
 | .bool b,.bool b'=>b == b'
 | .pnil,.pointer none=>true
 | .snil,.slice none 0 0=>true
 | .mnil,.map none=>true
 | .fnil,.nilFunc=>true
 | .agg l,.agg vs=>wPq l vs.toList
 | .tup l,.tuple vs=>wPq l vs.toList
 | _,_=>false
def wPq:List AV->List Value->Bool
 | [],[]=>true
 | a :: l,v :: vs=>okc a v && wPq l vs
 | _,_=>false
end
theorem wLj:∀ {a b:Int},zeq a b=true ↔ a=b
 | .ofNat a,.ofNat b=>by simp [zeq];omega
 | .negSucc a,.negSucc b=>by simp [zeq]
 | .ofNat a,.negSucc b=>by simp [zeq]
 | .negSucc a,.ofNat b=>by simp [zeq]
theorem wEQ (a b:Int):zeq a b=decide (a=b):=by
 by_cases h:a=b
 ·rw [wLj.2 h];simp [h]
 ·have:zeq a b ≠ true:=fun e=>h (wLj.1 e)
  simp [h,nr.2 this]
theorem wHa:∀ (a b:Int),zlt a b=decide (a < b)
 | .ofNat a,.ofNat b=>by
  simp only [zlt,nS,Int.ofNat_lt]
  by_cases h:a < b
  ·simp [h,nG]
  ·simp [h,nr,nG]
 | .negSucc a,.negSucc b=>by
  simp only [zlt,nk]
  by_cases h:b < a
  ·have h2:-((a:Int) + 1) < -((b:Int) + 1):=by omega
   simp [h2,nG];exact h
  ·have h2:¬ -((a:Int) + 1) < -((b:Int) + 1):=by omega
   simp [h2,nr,nG];omega
 | .ofNat a,.negSucc b=>by
  simp only [zlt,nk,nS]
  have h2:¬ (a:Int) < -((b:Int) + 1):=by omega
  simp [h2]
 | .negSucc a,.ofNat b=>by
  simp only [zlt,nk,nS]
  have h2:-((a:Int) + 1) < (b:Int):=by omega
  simp [h2]
theorem wOC (a b:Int):zle a b=decide (a <= b):=by
 rw [zle,wHa]
 by_cases h:a <= b
 ·simp [h,Int.not_lt.2 h]
 ·simp [h,Int.not_le.1 h]
theorem wBp {a b:IntKind} (h:keq a b=true):a=b:=by cases a <;> cases b <;> first | rfl | cases h
mutual
theorem wOD (μ:Mu):∀ {a:AV} {v:Value},okc a v=true->Rv μ a v
 | .int k n,v,h=>by
  cases v <;> simp only [okc,nA,nN] at h
  rw [wBp h.1,wLj.1 h.2];rfl
 | .bool b,v,h=>by
  cases v <;> simp only [okc,beq_iff_eq,nN] at h
  subst h;rfl
 | .pnil,v,h=>by
  unfold okc at h
  split at h <;> first | rfl | (exfalso;simp_all;done) | simp_all [Rv]
 | .snil,v,h=>by
  unfold okc at h
  split at h <;> first | rfl | (exfalso;simp_all;done) | simp_all [Rv]
 | .mnil,v,h=>by
  unfold okc at h
  split at h <;> first | rfl | (exfalso;simp_all;done) | simp_all [Rv]
 | .fnil,v,h=>by
  cases v <;> simp only [okc,nN] at h
  rfl
 | .agg l,v,h=>by
  cases v <;> simp only [okc,nN] at h
  exact ⟨_,wGN μ h,by simp⟩
 | .tup l,v,h=>by
  cases v <;> simp only [okc,nN] at h
  exact ⟨_,wGN μ h,by simp⟩
 | .ptr _ _,v,h=>by simp [okc] at h
 | .sl _ _ _ _,v,h=>by simp [okc] at h
 | .rw _ _ _ _,v,h=>by simp [okc] at h
 | .rz _ _,v,h=>by simp [okc] at h
 | .map _,v,h=>by simp [okc] at h
 | .fn _ _ _,v,h=>by simp [okc] at h
 | .yld _,v,h=>by simp [okc] at h
theorem wGN (μ:Mu):∀ {l:List AV} {vs:List Value},wPq l vs=true->RvL μ l vs
 | [],[],_=>rfl
 | a :: l,v :: vs,h=>by
  simp only [wPq,nA] at h
  exact wBl (wOD μ h.1) (wGN μ h.2)
 | [],_ :: _,h=>by simp [wPq] at h
 | _ :: _,[],h=>by simp [wPq] at h
end
def wCR:AOd->Operand->Bool
 | .t p,.tmp t=>nD p.nat (t + 1)
 | .c a,.const v=>okc a v
 | .c (.fn f [] []),.func g=>nD f.nat (g + 1)
 | _,_=>false
def wKB:List AOd->List Operand->Bool
 | [],[]=>true
 | x :: l,y :: k=>wCR x y && wKB l k
 | _,_=>false
theorem wAJ {μ:Mu} {σA:Tr AV} {σ:Env} {x:AOd} {y:Operand} (h:wCR x y=true) (hE:EnvR μ σA σ):Rv μ (evA σA x) (ev σ y):=by
 unfold wCR at h
 split at h
 ·rename_i p t
  have:=nB h
  have h2:=hE p
  rw [this] at h2
  exact h2
 ·exact wOD μ h
 ·rename_i f g
  have:=nB h
  exact ⟨[],[],rfl,rfl,by show Value.func (.func g) #[] #[]=_;rw [this];rfl⟩
 ·cases h
theorem wGr {μ:Mu} {σA:Tr AV} {σ:Env}:∀ {l:List AOd} {k:List Operand},wKB l k=true->EnvR μ σA σ->RvL μ (evs σA l) (k.map (ev σ))
 | [],[],_,_=>rfl
 | x :: l,y :: k,h,hE=>by
  simp only [wKB,nA] at h
  exact wBl (wAJ h.1 hE) (wGr h.2 hE)
 | [],_ :: _,h,_=>by simp [wKB] at h
 | _ :: _,[],h,_=>by simp [wKB] at h
def MR {K:Type} (μ:Mu) (l:List (K × AV)) (t:List (K × Value)):Prop:=l.map (·.1)=t.map (·.1)/\RvL μ (l.map (·.2)) (t.map (·.2))
def mk2 (k:IntKind) (x:Int × Int):Value:=.agg #[.int k x.1,.int k x.2]
def exC:Ex->Exit
 | .nrm=>.normal
 | .exit i=>.exit i
 | .ret=>.ret
def lsC:LS->LoopState × Option Code
 | .ready=>(.ready,none)
 | .busy=>(.busy,none)
 | .done .ret=>(.done,some .ret)
 | .done (.exit i)=>(.done,some (.exit i))
 | .done .nrm=>(.ready,none)
abbrev Chk:=AC->Code->Nat->Prop
structure wMh (C:Chk) (μ:Mu) (w:World) (c:Cl) (σA:Tr AV) (t:List Pos) (asg body:AC) (s:LS):Prop where
 at_:LoopAt w c.1 c.g.N c.g.σ c.g.t c.g.ac c.g.bc c.g.rb c.g.fn (lsC s).1 (lsC s).2
 env:EnvR μ σA c.g.σ
 ht:t.map Pos.nat=c.g.t.map (· + 1)
 tN:∀ x ∈ c.g.t,x < c.g.N
 asg:C asg c.g.ac c.g.N
 body:C body c.g.bc c.g.N
def AbR (C:Chk) (P:Program) (μ:Mu) (w:World) (c:Cl):AB->Prop
 | .cells T l=>∃ vs,RvL μ l vs/\Blk w c.1 T vs
 | .row T sz l=>∃ vs,RvL μ l vs/\RowAt w (some ⟨c.1,0,none⟩) c.2 T sz vs
 | .map0=>∃ ck,w.heap[c.1]?=some (.map #[] ck)
 | .mapI k l=>∃ es ck t,w.heap[c.1]?=some (.map es ck)/\MpR es (fun n:Int=>no k n) id t/\MR μ l t
 | .map2 k l=>∃ es ck t,w.heap[c.1]?=some (.map es ck)/\MpR es (mk2 k) id t/\MR μ l t
 | .loop σA t asg body s=>wMh C μ w c σA t asg body s
 | .dead=>True
def wMi:AB->Prop
 | .dead=>False
 | _=>True
variable {C:Chk} {P:Program} {μ μ' μ'':Mu} {w w' w'':World} {h h' h'':AH}
theorem MR.mono {K:Type} {l:List (K × AV)} {t:List (K × Value)} (h:MR μ l t) (hm:μ.Le μ'):MR μ' l t:=⟨h.1,h.2.mono hm⟩
theorem AbR.mono {c:Cl} {B:AB} (h:AbR C P μ w c B) (hm:μ.Le μ'):AbR C P μ' w c B:=by
 cases B with
 | cells T l=>obtain ⟨vs,h1,h2⟩:=h;exact ⟨vs,h1.mono hm,h2⟩
 | row T sz l=>obtain ⟨vs,h1,h2⟩:=h;exact ⟨vs,h1.mono hm,h2⟩
 | map0=>exact h
 | mapI k l=>obtain ⟨es,ck,t,h1,h2,h3⟩:=h;exact ⟨es,ck,t,h1,h2,h3.mono hm⟩
 | map2 k l=>obtain ⟨es,ck,t,h1,h2,h3⟩:=h;exact ⟨es,ck,t,h1,h2,h3.mono hm⟩
 | loop σA t asg body s=>exact ⟨h.at_,h.env.mono hm,h.ht,h.tN,h.asg,h.body⟩
 | dead=>trivial
theorem AbR.keep {c:Cl} {B:AB} {X:Nat->Prop} (h:AbR C P μ w c B) (k:Keep w w' X) (hx:¬ X c.1):AbR C P μ w' c B:=by
 cases B with
 | cells T l=>obtain ⟨vs,h1,h2⟩:=h;exact ⟨vs,h1,h2.keep k hx⟩
 | row T sz l =>
  obtain ⟨vs,h1,h2⟩:=h
  refine ⟨vs,h1,?_⟩
  obtain ⟨cur,h3,h4⟩:=RowAt.cells h2
  exact .inr ⟨c.1,cur,rfl,(k.block _ (wAR h3) hx).trans h3,h4⟩
 | map0=>obtain ⟨ck,h1⟩:=h;exact ⟨ck,(k.block _ (wAR h1) hx).trans h1⟩
 | mapI _ l=>obtain ⟨es,ck,t,h1,h2⟩:=h;exact ⟨es,ck,t,(k.block _ (wAR h1) hx).trans h1,h2⟩
 | map2 _ l=>obtain ⟨es,ck,t,h1,h2⟩:=h;exact ⟨es,ck,t,(k.block _ (wAR h1) hx).trans h1,h2⟩
 | loop σA t asg body s=>exact ⟨h.at_.keep k hx,h.env,h.ht,h.tN,h.asg,h.body⟩
 | dead=>trivial
def img (μ:Mu) (fl:Nat) (c:Nat):Prop:=∃ p d,μ p=some d/\d.1=c/\fl <= p.nat
structure Ext (μ:Mu) (fl:Nat) (w:World) (μ':Mu) (w':World):Prop where
 mono:μ.Le μ'
 new:∀ p c,μ' p=some c->μ p=some c \/ img μ fl c.1 \/ w.heap.size <= c.1
 keep:Keep w w' (img μ fl)
theorem Ext.refl (μ:Mu) (fl:Nat) (w:World):Ext μ fl w μ w:=⟨Mu.Le.refl μ,fun _ _ h=>.inl h,Keep.refl w _⟩
theorem Ext.img {fl:Nat} {c:Nat} (E:Ext μ fl w μ' w') (hi:img μ' fl c):KX.img μ fl c \/ w.heap.size <= c:=by
 obtain ⟨p,d,h1,rfl,h2⟩:=hi
 rcases E.new p _ h1 with h3 | h3 | h3
 ·exact .inl ⟨p,d,h3,rfl,h2⟩
 ·exact .inl h3
 ·exact .inr h3
theorem Ext.trans {fl:Nat} (E:Ext μ fl w μ' w') (E':Ext μ' fl w' μ'' w''):Ext μ fl w μ'' w'':=by
 refine ⟨E.mono.trans E'.mono,fun p c hp=>?_,E.keep.step E'.keep fun i hi hm=>?_⟩
 ·rcases E'.new p c hp with h1 | h1 | h1
  ·exact E.new p c h1
  ·exact .inr (E.img h1)
  ·exact .inr (.inr (nY E.keep.size h1))
 ·rcases E.img hm with h1 | h1
  ·exact h1
  ·omega
structure Sim (C:Chk) (P:Program) (μ:Mu) (h:AH) (w:World):Prop where
 nx:∀ p,h.nx.nat <= p.nat->μ p=none
 lt:∀ p c,μ p=some c->c.1 < w.heap.size
 inj:∀ p q a b c d,h.m.get p=some a->h.m.get q=some b->wMi a->wMi b->μ p=some c->μ q=some d->c.1=d.1->p=q
 at_:∀ p b,h.m.get p=some b->∃ c,μ p=some c/\AbR C P μ w c b
theorem Sim.keep (S:Sim C P μ h w) (k:Keep w w' Non):Sim C P μ h w' :=
 ⟨S.nx,fun p c hp=>nf (S.lt p c hp) k.size,S.inj,fun p b hb=>let ⟨c,h1,h2⟩:=S.at_ p b hb;⟨c,h1,h2.keep k id⟩⟩
theorem Sim.floor (S:Sim C P μ h w) (f:Pos):Sim C P μ ⟨h.m,h.nx,f⟩ w:=⟨S.nx,S.lt,S.inj,S.at_⟩
theorem Sim.non (S:Sim C P μ h w) (E:Ext μ h.nx.nat w μ' w') (fl:Nat):Keep w w' Non/\Ext μ fl w μ' w':=by
 have hn:∀ c,¬ img μ h.nx.nat c:=fun c ⟨p,k,h1,_,h2⟩=>by rw [S.nx p h2] at h1;cases h1
 refine ⟨E.keep.weak fun i _ hi=>hn i hi,E.mono,fun p c hp=>?_,E.keep.weak fun i _ hi=>(hn i hi).elim⟩
 rcases E.new p c hp with h1 | h1 | h1
 ·exact .inl h1
 ·exact (hn _ h1).elim
 ·exact .inr (.inr h1)
theorem wJI {h h':AH} {p:Pos} {B:AB} (hp:h.put p B=some h'):h.fl.nat <= p.nat/\h'=⟨h.m.set p B,h.nx,h.fl⟩:=by
 unfold AH.put at hp
 split at hp
 ·cases hp
 ·rename_i hf
  cases hp
  refine ⟨?_,rfl⟩
  rcases nv p.nat h.fl.nat with hlt | hge
  ·rw [(Pos.ltb_iff p h.fl false).2 (.inl hlt)] at hf;cases hf
  ·exact hge
theorem Sim.put {p:Pos} {B B':AB} {c:Cl} (S:Sim C P μ h w) (hp:h.put p B'=some h') (hB:h.m.get p=some B) (hl:wMi B) (hc:μ p=some c) (K:Keep w w' (·=c.1)) (hB':AbR C P μ w' c B') :
  Sim C P μ h' w'/\Ext μ h.fl.nat w μ w'/\h'.fl=h.fl:=by
 obtain ⟨hf,rfl⟩:=wJI hp
 refine ⟨⟨S.nx,fun p c hp=>nf (S.lt p c hp) K.size,?_,?_⟩,⟨Mu.Le.refl μ,fun _ _ h=>.inl h,K.weak fun i _ e=>⟨p,c,hc,e.symm,hf⟩⟩,rfl⟩
 ·intro q r a b d e hq hr la lb hd he hde
  simp only [Tr.get_set] at hq hr
  split at hq <;> split at hr
  ·rename_i h1 h2;rw [h1,h2]
  ·rename_i h1 h2;exact (S.inj q r B b d e (h1 ▸ hB) hr hl lb hd he hde)
  ·rename_i h1 h2;exact (S.inj q r a B d e hq (h2 ▸ hB) la hl hd he hde)
  ·exact S.inj q r a b d e hq hr la lb hd he hde
 ·intro q b hq
  simp only [Tr.get_set] at hq
  split at hq
  ·rename_i h1;subst h1;cases hq;exact ⟨c,hc,hB'⟩
  ·rename_i h1
   obtain ⟨d,h2,h3⟩:=S.at_ q b hq
   refine ⟨d,h2,?_⟩
   by_cases lb:wMi b
   ·exact h3.keep K fun e=>h1 (S.inj q p b B d c hq hB lb hl h2 hc e)
   ·cases b <;> first | trivial | exact (lb trivial).elim
def Mu.add (μ:Mu) (p:Pos) (c:Cl):Mu:=fun q=>if q=p then some c else μ q
theorem Mu.add_le {p:Pos} {c:Cl} (hn:μ p=none):μ.Le (μ.add p c):=by
 intro q d hq
 unfold Mu.add
 by_cases e:q=p
 ·subst e;rw [hn] at hq;cases hq
 ·rw [if_neg e];exact hq
theorem Mu.add_same (μ:Mu) (p:Pos) (c:Cl):μ.add p c p=some c:=by simp [Mu.add]
theorem Sim.push {c:Cl} {B:AB} (S:Sim C P μ h w) (K:Keep w w' Non) (hc:w.heap.size <= c.1) (hlt:c.1 < w'.heap.size) (hB:AbR C P (μ.add h.nx c) w' c B) :
  Sim C P (μ.add h.nx c) (h.push B) w'/\Ext μ h.fl.nat w (μ.add h.nx c) w'/\(h.push B).fl=h.fl/\(μ.add h.nx c) h.nx=some c:=by
 have hn:=S.nx h.nx (nH _)
 have hle:=Mu.add_le (c:=c) hn
 refine ⟨⟨?_,?_,?_,?_⟩,⟨hle,?_,K.weak fun _ _ h=>h.elim⟩,rfl,Mu.add_same _ _ _⟩
 ·intro p hp
  have hp:h.nx.succ.nat <= p.nat:=hp
  rw [Pos.nat_succ] at hp
  unfold Mu.add
  rw [if_neg (fun e=>by subst e;omega)]
  exact S.nx p (by omega)
 ·intro p d hd
  unfold Mu.add at hd
  split at hd
  ·cases hd;exact hlt
  ·exact nf (S.lt p d hd) K.size
 ·intro p q a b d e hp hq la lb hd he hde
  simp only [AH.push,Tr.get_set] at hp hq
  unfold Mu.add at hd he
  split at hd <;> split at he
  ·rename_i h1 h2;rw [h1,h2]
  ·cases hd;have:=S.lt _ _ he;omega
  ·cases he;have:=S.lt _ _ hd;omega
  ·rename_i h1 h2
   rw [if_neg h1] at hp
   rw [if_neg h2] at hq
   exact S.inj p q a b d e hp hq la lb hd he hde
 ·intro p b hb
  simp only [AH.push,Tr.get_set] at hb
  split at hb
  ·rename_i h1;subst h1;cases hb;exact ⟨c,Mu.add_same _ _ _,hB⟩
  ·obtain ⟨d,h2,h3⟩:=S.at_ p b hb
   exact ⟨d,hle _ _ h2,(h3.mono hle).keep K id⟩
 ·intro p d hd
  unfold Mu.add at hd
  split at hd
  ·cases hd;exact .inr (.inr hc)
  ·exact .inl hd
theorem Sim.move {p:Pos} {B B':AB} {c d:Cl} (S:Sim C P μ h w) (hp:h.put p .dead=some h') (hB:h.m.get p=some B) (hl:wMi B) (hc:μ p=some c) (K:Keep w w' (·=c.1)) (hd:d.1=c.1 \/ w.heap.size <= d.1) (hlt:d.1 < w'.heap.size)
  (hB':AbR C P (μ.add h.nx d) w' d B'):Sim C P (μ.add h.nx d) (h'.push B') w'/\Ext μ h.fl.nat w (μ.add h.nx d) w'/\(h'.push B').fl=h.fl/\(μ.add h.nx d) h.nx=some d:=by
 obtain ⟨hf,rfl⟩:=wJI hp
 have hn:=S.nx h.nx (nH _)
 have hle:=Mu.add_le (c:=d) hn
 have hpn:p ≠ h.nx:=fun e=>by rw [e,hn] at hc;cases hc
 refine ⟨⟨?_,?_,?_,?_⟩,⟨hle,?_,K.weak fun i _ e=>⟨p,c,hc,e.symm,hf⟩⟩,rfl,Mu.add_same _ _ _⟩
 ·intro q hq
  have hq:h.nx.succ.nat <= q.nat:=hq
  rw [Pos.nat_succ] at hq
  unfold Mu.add
  rw [if_neg (fun e=>by subst e;omega)]
  exact S.nx q (by omega)
 ·intro q e he
  unfold Mu.add at he
  split at he
  ·cases he;exact hlt
  ·exact nf (S.lt q e he) K.size
 ·have key:∀ q b e,q ≠ h.nx->((h.m.set p .dead).set h.nx B').get q=some b->wMi b->(μ.add h.nx d) q=some e->e.1 ≠ d.1:=by
   intro q b e hq hb lb he hed
   simp only [Tr.get_set,if_neg hq] at hb
   unfold Mu.add at he
   rw [if_neg hq] at he
   split at hb
   ·cases hb;exact lb
   ·rename_i hqp
    rcases hd with h1 | h1
    ·exact hqp (S.inj q p b B e c hb hB lb hl he hc (hed.trans h1))
    ·have:=S.lt _ _ he;omega
  intro q r a b e f hq hr la lb he hf hef
  by_cases e1:q=h.nx <;> by_cases e2:r=h.nx
  ·rw [e1,e2]
  ·subst e1;rw [Mu.add_same] at he;cases he;exact absurd hef.symm (key r b f e2 hr lb hf)
  ·subst e2;rw [Mu.add_same] at hf;cases hf;exact absurd hef (key q a e e1 hq la he)
  ·simp only [AH.push,Tr.get_set,if_neg e1,if_neg e2] at hq hr
   unfold Mu.add at he hf
   rw [if_neg e1] at he
   rw [if_neg e2] at hf
   split at hq
   ·cases hq;exact la.elim
   ·split at hr
    ·cases hr;exact lb.elim
    ·exact S.inj q r a b e f hq hr la lb he hf hef
 ·intro q b hb
  simp only [AH.push,Tr.get_set] at hb
  split at hb
  ·rename_i h1;subst h1;cases hb;exact ⟨d,Mu.add_same _ _ _,hB'⟩
  ·split at hb
   ·rename_i h1 h2;subst h2;cases hb;exact ⟨c,hle _ _ hc,trivial⟩
   ·rename_i h1 h2
    obtain ⟨e,h3,h4⟩:=S.at_ q b hb
    refine ⟨e,hle _ _ h3,?_⟩
    by_cases lb:wMi b
    ·exact (h4.mono hle).keep K fun e'=>h2 (S.inj q p b B e c hb hB lb hl h3 hc e')
    ·cases b <;> first | trivial | exact (lb trivial).elim
 ·intro q e he
  unfold Mu.add at he
  split at he
  ·cases he
   rcases hd with h1 | h1
   ·exact .inr (.inl ⟨p,c,hc,h1.symm,hf⟩)
   ·exact .inr (.inr h1)
  ·exact .inl he
end
end Go.KX
namespace Go.KX
noncomputable section
open Go.RowKit Go.KL
def aggD:TypeDesc->Bool
 | .struct _ | .array _ _=>true
 | _=>false
def wEb (P:Program) (t:TypeId) (f:TypeDesc->Bool):Bool:=match P.underlying t with
 | some d=>f d
 | none=>false
def szT (P:Program) (t n:Nat):Bool:=match P.info? t with
 | some i=>nD i.size n
 | none=>false
def byT (P:Program) (t n:Nat):Bool:=match P.info? t with
 | some i=>nD i.bytes n
 | none=>false
def zT (P:Program) (t:TypeId) (z:List AV):Bool:=match P.info? t with
 | some i=>match i.zero with
  | some v=>wPq z v.cells.toList
  | none=>false
 | none=>false
section
variable {C:Chk} {P:Program} {μ μ':Mu} {w w':World} {h h':AH} {σ:Env} {σA:Tr AV} {t e:TypeId} {o:Oper}
theorem wAq {f:TypeDesc->Bool} (hc:wEb P t f=true):∃ d,P.underlying t=some d/\f d=true:=by
 unfold wEb at hc
 split at hc
 ·exact ⟨_,by assumption,hc⟩
 ·cases hc
theorem wAw {d:TypeDesc} (hu:P.underlying t=some d) (w:World):(underlying t).run P w=.ok d w:=run_underlying hu w
theorem wDk {n:Nat} (hc:szT P t n=true) (w:World):(sizeOf t).run P w=.ok n w:=by
 unfold szT at hc
 split at hc
 ·rename_i i hi
  rw [<- nB hc]
  simp [sizeOf,typeInfo,hi]
 ·cases hc
theorem wGs {n:Nat} (hc:szT P t n=true):∃ i,P.info? t=some i/\i.size=n:=by
 unfold szT at hc
 split at hc
 ·rename_i i hi;exact ⟨i,hi,nB hc⟩
 ·cases hc
theorem wGt {n:Nat} (hc:byT P t n=true):∃ i,P.info? t=some i/\i.bytes=n:=by
 unfold byT at hc
 split at hc
 ·rename_i i hi;exact ⟨i,hi,nB hc⟩
 ·cases hc
theorem wFN {z:List AV} (hc:zT P t z=true):∃ i v,P.info? t=some i/\i.zero=some v/\∀ μ,RvL μ z v.cells.toList:=by
 unfold zT at hc
 split at hc
 ·rename_i i hi
  split at hc
  ·rename_i v hv;exact ⟨i,v,hi,hv,fun μ=>wGN μ hc⟩
  ·cases hc
 ·cases hc
theorem wDl {i:TypeInfo} {z:Value} (hi:P.info? t=some i) (hz:i.zero=some z) (w:World):(zeroValue t).run P w=.ok z w:=by
 simp [zeroValue,typeInfo,hi,hz]
theorem wHb {d:TypeDesc} (hu:P.underlying t=some d) (w:World):(isAgg t).run P w=.ok (aggD d) w:=by
 simp only [isAgg,Sem.run_bind,wAw hu,Result.andThen_ok]
 cases d <;> rfl
def wPr (P:Program) (t:TypeId) (b:Bool):Bool:=wEb P t fun d=>aggD d == b
theorem wEj {b:Bool} (hc:wPr P t b=true) (w:World):(isAgg t).run P w=.ok b w:=by
 obtain ⟨d,h1,h2⟩:=wAq hc
 rw [wHb h1,eq_of_beq h2]
def OkP (P:Program) (op:Op) (f:Tr AV->AH->Option (AV × AH)):Prop :=
 ∀ σA h v h',f σA h=some (v,h')->h'=h/\∀ μ σ,EnvR μ σA σ->∃ cv,Rv μ v cv/\∀ (o:Oper) (w:World),o.op=op->Runs P σ w o cv w
def c_mv (x:AOd):Op->Bool
 | .move y | .assign y=>wCR x y
 | _=>false
theorem p_mv {x:AOd} {op:Op} (hc:c_mv x op=true):OkP P op (wSZ x):=by
 intro σA h v h' hr
 cases hr
 refine ⟨rfl,fun μ σ hE=>?_⟩
 unfold c_mv at hc
 split at hc
 ·exact ⟨_,wAJ hc hE,fun o w ho=>Runs.mv ho rfl⟩
 ·exact ⟨_,wAJ hc hE,fun o w ho=>Runs.as ho rfl⟩
 ·cases hc
def wOE (c x y:AOd):Op->Bool
 | .pick c' x' y'=>wCR c c' && (wCR x x' && wCR y y')
 | _=>false
theorem wSw {c x y:AOd} {op:Op} (hc:wOE c x y op=true):OkP P op (wHR c x y):=by
 intro σA h v h' hr
 unfold wOE at hc
 split at hc
 ·rename_i c' x' y'
  simp only [nA] at hc
  unfold wHR at hr
  split at hr
  ·rename_i hb;cases hr
   exact ⟨rfl,fun μ σ hE=>⟨_,wAJ hc.2.1 hE,fun o w ho=>Runs.pickT ho (by have:=wAJ hc.1 hE;rw [hb] at this;exact this) rfl⟩⟩
  ·rename_i hb;cases hr
   exact ⟨rfl,fun μ σ hE=>⟨_,wAJ hc.2.2 hE,fun o w ho=>Runs.pickF ho (by have:=wAJ hc.1 hE;rw [hb] at this;exact this) rfl⟩⟩
  ·cases hr
 ·cases hc
def wOF (x:AOd):Op->Bool
 | .nilCheck y=>wCR x y
 | _=>false
theorem wSx {x:AOd} {op:Op} (hc:wOF x op=true):OkP P op (wHS x):=by
 intro σA h v h' hr
 unfold wOF at hc
 split at hc
 ·unfold wHS at hr
  split at hr
  ·rename_i hb;cases hr
   refine ⟨rfl,fun μ σ hE=>?_⟩
   have:=wAJ hc hE;rw [hb] at this
   refine ⟨_,this,fun o w ho=>?_⟩
   obtain ⟨c,h1,h2⟩:=this
   rw [h2];exact Runs.nilp ho h2
  ·rename_i hb;cases hr
   refine ⟨rfl,fun μ σ hE=>?_⟩
   have:=wAJ hc hE;rw [hb] at this
   refine ⟨_,this,fun o w ho=>?_⟩
   obtain ⟨fv,cv,_,_,h2⟩:=this
   rw [h2];exact Runs.nilf ho h2
  ·rename_i hb;cases hr
   refine ⟨rfl,fun μ σ hE=>?_⟩
   have:=wAJ hc hE;rw [hb] at this
   refine ⟨_,this,fun o w ho=>?_⟩
   obtain ⟨c,h1,h2⟩:=this
   rw [h2];exact Runs.nily ho h2
  ·cases hr
 ·cases hc
theorem wJJ {k:IntKind} {n:Int} (hk:inK k n=true):k.wrap n=n:=by
 unfold inK at hk
 split at hk <;> (try simp only [nG] at hk) <;> (try simp only [IntKind.wrap_i64,IntKind.wrap_u8,IntKind.wrap_u32,Go.IntKind.wrap_u64,nk,nS]) <;> first | omega | cases hk
theorem wBs {x:Option AV} {v:AV} (hr:okV h x=some (v,h')):x=some v/\h'=h:=by
 cases x <;> cases hr;exact ⟨rfl,rfl⟩
theorem wBm {α:Type} {b:Bool} {x:Option α} {v:α} (hr:ifO b x=some v):b=true/\x=some v:=by
 cases b
 ·cases hr
 ·exact ⟨rfl,hr⟩
theorem wIi {f:Int->Int->Int} {x y v:AV} (hr:wKb f x y=some v):∃ k a b,x=.int k a/\y=.int k b/\v=.int k (f a b)/\k.wrap (f a b)=f a b:=by
 unfold wKb at hr
 split at hr
 ·rename_i k a k' b
  split at hr
  ·rename_i hk
   split at hr
   ·rename_i hi;cases hr;exact ⟨k,a,b,rfl,by rw [wBp hk],rfl,wJJ hi⟩
   ·cases hr
  ·cases hr
 ·cases hr
theorem wPs {f:Int->Int->Int} {x y v:AV} (hr:div f x y=some v):∃ k a b,x=.int k a/\y=.int k b/\v=.int k (f a b)/\k.wrap (f a b)=f a b/\b ≠ 0:=by
 unfold div at hr
 split at hr
 ·rename_i k a k' b
  split at hr
  ·rename_i hk
   split at hr
   ·cases hr
   ·rename_i hz
    split at hr
    ·rename_i hi;cases hr
     exact ⟨k,a,b,rfl,by rw [wBp hk],rfl,wJJ hi,fun e=>by rw [wLj.2 e] at hz;cases hz⟩
    ·cases hr
  ·cases hr
 ·cases hr
theorem wOG {f:Int->Int->Bool} {x y v:AV} (hr:wPk f x y=some v):∃ k a b,x=.int k a/\y=.int k b/\v=.bool (f a b):=by
 unfold wPk at hr
 split at hr
 ·rename_i k a k' b
  split at hr
  ·rename_i hk;cases hr;exact ⟨k,a,b,rfl,by rw [wBp hk],rfl⟩
  ·cases hr
 ·cases hr
def wCs (b:BinOp) (x y:AOd):Op->Bool
 | .binOp b' _ x' y' _=>(b' == b) && (wCR x x' && wCR y y')
 | _=>false
theorem wFn {b:BinOp} {x y:AOd} {op:Op} (hc:wCs b x y op=true):∃ t x' y' t',op=.binOp b t x' y' t'/\wCR x x'=true/\wCR y y'=true:=by
 unfold wCs at hc
 split at hc
 ·rename_i b' t x' y' t'
  simp only [nA,beq_iff_eq] at hc
  obtain ⟨rfl,h1,h2⟩:=hc
  exact ⟨t,x',y',t',rfl,h1,h2⟩
 ·cases hc
theorem wKu {b:BinOp} {f:Int->Int->Int} {x y:AOd} {op:Op} (hc:wCs b x y op=true)
  (hrun:∀ (o:Oper) (σ:Env) (w:World) t x' y' t' k m n,o.op=.binOp b t x' y' t'->ev σ x'=.int k m->ev σ y'=.int k n->Runs P σ w o (.int k (k.wrap (f m n))) w) :
  OkP P op (fun σ h=>okV h (wKb f (evA σ x) (evA σ y))):=by
 intro σA h v h' hr
 obtain ⟨t,x',y',t',rfl,h1,h2⟩:=wFn hc
 obtain ⟨hr2,rfl⟩:=wBs hr
 obtain ⟨k,m,n,e1,e2,rfl,e3⟩:=wIi hr2
 refine ⟨rfl,fun μ σ hE=>⟨_,rfl,fun o w ho=>?_⟩⟩
 have g1:=wAJ h1 hE;rw [e1] at g1
 have g2:=wAJ h2 hE;rw [e2] at g2
 have:=hrun o σ w t x' y' t' k m n ho g1 g2
 rwa [e3] at this
theorem p_add {x y:AOd} {op:Op} (hc:wCs .add x y op=true):OkP P op (wNc x y) :=
 wKu hc fun o σ w t x' y' t' k m n ho h1 h2=>⟨by rw [ho];rfl,by simp [execOp,ho,h1,h2,binOp,eqGuard,Op.intArith]⟩
theorem p_sub {x y:AOd} {op:Op} (hc:wCs .sub x y op=true):OkP P op (wNd x y) :=
 wKu hc fun o σ w t x' y' t' k m n ho h1 h2=>⟨by rw [ho];rfl,by simp [execOp,ho,h1,h2,binOp,eqGuard,Op.intArith];rfl⟩
theorem p_mul {x y:AOd} {op:Op} (hc:wCs .mul x y op=true):OkP P op (wNe x y) :=
 wKu hc fun o σ w t x' y' t' k m n ho h1 h2=>⟨by rw [ho];rfl,by simp [execOp,ho,h1,h2,binOp,eqGuard,Op.intArith]⟩
theorem wSy {b:BinOp} {f:Int->Int->Int} {x y:AOd} {op:Op} (hc:wCs b x y op=true)
  (hrun:∀ (o:Oper) (σ:Env) (w:World) t x' y' t' k m n,o.op=.binOp b t x' y' t'->ev σ x'=.int k m->ev σ y'=.int k n->n ≠ 0->k.wrap (f m n)=f m n->Runs P σ w o (.int k (f m n)) w) :
  OkP P op (fun σ h=>okV h (div f (evA σ x) (evA σ y))):=by
 intro σA h v h' hr
 obtain ⟨t,x',y',t',rfl,h1,h2⟩:=wFn hc
 obtain ⟨hr2,rfl⟩:=wBs hr
 obtain ⟨k,m,n,e1,e2,rfl,e3,e4⟩:=wPs hr2
 refine ⟨rfl,fun μ σ hE=>⟨_,rfl,fun o w ho=>?_⟩⟩
 have g1:=wAJ h1 hE;rw [e1] at g1
 have g2:=wAJ h2 hE;rw [e2] at g2
 exact hrun o σ w t x' y' t' k m n ho g1 g2 e4 e3
theorem p_quo {x y:AOd} {op:Op} (hc:wCs .quo x y op=true):OkP P op (wNf x y) :=
 wSy hc fun o σ w t x' y' t' k m n ho h1 h2 h3 h4=>⟨by rw [ho];rfl,by simp [execOp,ho,h1,h2,binOp,eqGuard,Op.intDiv,h3,h4]⟩
theorem p_rem {x y:AOd} {op:Op} (hc:wCs .rem x y op=true):OkP P op (wNg x y) :=
 wSy hc fun o σ w t x' y' t' k m n ho h1 h2 h3 h4=>⟨by rw [ho];rfl,by simp [execOp,ho,h1,h2,binOp,eqGuard,Op.intDiv,h3]⟩
theorem wMj {b:BinOp} {f:Int->Int->Bool} {x y:AOd} {op:Op} (hc:wCs b x y op=true)
  (hrun:∀ (o:Oper) (σ:Env) (w:World) t x' y' t' k m n,o.op=.binOp b t x' y' t'->ev σ x'=.int k m->ev σ y'=.int k n->Runs P σ w o (.bool (f m n)) w) :
  OkP P op (fun σ h=>okV h (wPk f (evA σ x) (evA σ y))):=by
 intro σA h v h' hr
 obtain ⟨t,x',y',t',rfl,h1,h2⟩:=wFn hc
 obtain ⟨hr2,rfl⟩:=wBs hr
 obtain ⟨k,m,n,e1,e2,rfl⟩:=wOG hr2
 refine ⟨rfl,fun μ σ hE=>⟨_,rfl,fun o w ho=>?_⟩⟩
 have g1:=wAJ h1 hE;rw [e1] at g1
 have g2:=wAJ h2 hE;rw [e2] at g2
 exact hrun o σ w t x' y' t' k m n ho g1 g2
theorem p_lss {x y:AOd} {op:Op} (hc:wCs .lss x y op=true):OkP P op (wNh x y) :=
 wMj hc fun o σ w t x' y' t' k m n ho h1 h2=>(Runs.lss ho h1 h2).to (by rw [wHa])
theorem p_leq {x y:AOd} {op:Op} (hc:wCs .leq x y op=true):OkP P op (wNi x y) :=
 wMj hc fun o σ w t x' y' t' k m n ho h1 h2=>(Runs.leq ho h1 h2).to (by rw [wOC])
theorem p_gtr {x y:AOd} {op:Op} (hc:wCs .gtr x y op=true):OkP P op (wNj x y) :=
 wMj hc fun o σ w t x' y' t' k m n ho h1 h2=>(Runs.gtr ho h1 h2).to (by rw [wHa])
theorem p_geq {x y:AOd} {op:Op} (hc:wCs .geq x y op=true):OkP P op (wNk x y) :=
 wMj hc fun o σ w t x' y' t' k m n ho h1 h2=>(Runs.geq ho h1 h2).to (by rw [wOC])
theorem p_eql {x y:AOd} {op:Op} (hc:wCs .eql x y op=true):OkP P op (wNl x y) :=
 wMj hc fun o σ w t x' y' t' k m n ho h1 h2=>(Runs.eql ho h1 h2).to (by rw [wEQ])
theorem p_neq {x y:AOd} {op:Op} (hc:wCs .neq x y op=true):OkP P op (wNm x y) :=
 wMj hc fun o σ w t x' y' t' k m n ho h1 h2=>(Runs.neq ho h1 h2).to (by rw [wEQ];simp)
def wRM (x:AOd):Op->Bool
 | .unOp .neg _ y=>wCR x y
 | _=>false
theorem p_neg {x:AOd} {op:Op} (hc:wRM x op=true):OkP P op (wNn x):=by
 intro σA h v h' hr
 unfold wRM at hc
 split at hc
 ·obtain ⟨hr2,rfl⟩:=wBs hr
  obtain ⟨k,m,n,e1,e2,rfl,e3⟩:=wIi hr2
  rw [e2] at e1
  simp only at e1
  cases e1
  refine ⟨rfl,fun μ σ hE=>⟨_,rfl,fun o w ho=>?_⟩⟩
  have g2:=wAJ hc hE;rw [e2] at g2
  refine ⟨by rw [ho];rfl,?_⟩
  have:ev σ _=.int k n:=g2
  simp only [execOp,ho,this,Op.unary,Op.intArith,Sem.run_bind,Sem.run_pure,Result.andThen_ok]
  rw [show (0:Int) - n=Int.sub 0 n from rfl,e3]
 ·cases hc
def wRN (x:AOd):Op->Bool
 | .unOp .not _ y=>wCR x y
 | _=>false
theorem p_not {x:AOd} {op:Op} (hc:wRN x op=true):OkP P op (wKf x):=by
 intro σA h v h' hr
 unfold wRN at hc
 split at hc
 ·unfold wKf at hr
  split at hr
  ·rename_i hb;cases hr
   refine ⟨rfl,fun μ σ hE=>⟨_,rfl,fun o w ho=>?_⟩⟩
   have g:=wAJ hc hE;rw [hb] at g
   exact Runs.not ho g
  ·cases hr
 ·cases hc
def wOH:TypeDesc->Option IntKind
 | .int k=>some k
 | _=>none
def wRO (k:IntKind) (x:AOd):Op->Bool
 | .convert s t y=>wEb P s (fun d=>(wOH d).isSome) && (wEb P t (fun d=>match wOH d with | some k'=>keq k k' | none=>false) && wCR x y)
 | _=>false
theorem p_cvt {k:IntKind} {x:AOd} {op:Op} (hc:wRO (P:=P) k x op=true):OkP P op (wKg k x):=by
 intro σA h v h' hr
 unfold wRO at hc
 split at hc
 ·simp only [nA] at hc
  obtain ⟨c1,c2,c3⟩:=hc
  unfold wKg at hr
  split at hr
  ·rename_i k0 n hb
   obtain ⟨hi,hr⟩:=wBm hr
   cases hr
   refine ⟨rfl,fun μ σ hE=>⟨_,rfl,fun o w ho=>?_⟩⟩
   have g:=wAJ c3 hE;rw [hb] at g
   obtain ⟨d,d1,d2⟩:=wAq c1
   obtain ⟨e,e1,e2⟩:=wAq c2
   cases d <;> first | (cases d2;done) | skip
   cases e <;> first | (cases e2;done) | skip
   have:=wBp e2
   subst this
   have g':ev σ _=.int k0 n:=g
   exact ⟨by rw [ho];rfl,by simp [execOp,ho,g',convert,wAw d1,wAw e1,Conv.intToInt,wJJ hi]⟩
  ·cases hr
 ·cases hc
def wRP (f:Pos) (fi ca:List AOd):Op->Bool
 | .makeFunc (.func g) fi' ca'=>nD f.nat (g + 1) && (wKB fi fi'.toList && wKB ca ca'.toList)
 | _=>false
theorem p_mkf {f:Pos} {fi ca:List AOd} {op:Op} (hc:wRP f fi ca op=true):OkP P op (wMe f fi ca):=by
 intro σA h v h' hr
 cases hr
 unfold wRP at hc
 split at hc
 ·simp only [nA] at hc
  obtain ⟨c1,c2,c3⟩:=hc
  refine ⟨rfl,fun μ σ hE=>⟨_,⟨_,_,wGr c2 hE,wGr c3 hE,rfl⟩,fun o w ho=>?_⟩⟩
  have e:=nB c1
  refine ⟨by rw [ho];rfl,?_⟩
  simp [execOp,ho,Instr.makeFunc,e,<- kR]
 ·cases hc
def wRQ (i:Nat) (x:AOd):Op->Bool
 | .extract y j=>nD i j && wCR x y
 | _=>false
theorem p_ext {i:Nat} {x:AOd} {op:Op} (hc:wRQ i x op=true):OkP P op (wKm i x):=by
 intro σA h v h' hr
 unfold wRQ at hc
 split at hc
 ·simp only [nA] at hc
  have e:=nB hc.1
  subst e
  unfold wKm at hr
  split at hr
  ·rename_i l hb
   obtain ⟨hr2,rfl⟩:=wBs hr
   refine ⟨rfl,fun μ σ hE=>?_⟩
   have g:=wAJ hc.2 hE;rw [hb] at g
   obtain ⟨vs,g1,g2⟩:=g
   rw [wGb] at hr2
   obtain ⟨cv,g3,g4⟩:=wFL g1 hr2
   exact ⟨cv,g4,fun o w ho=>Runs.ext ho g2 (by simpa using g3)⟩
  ·cases hr
 ·cases hc
end
end
end Go.KX
namespace Go.KX
noncomputable section
open Go.RowKit Go.KL
section
variable {C:Chk} {P:Program} {μ μ':Mu} {w w':World} {h h':AH} {σ:Env} {σA:Tr AV} {t e:TypeId} {o:Oper}
def wRR (P:Program) (ne:Bool) (x y:AOd):Op->Bool
 | .binOp b t x' y' _=>(match ne with | true=>b == .neq | false=>b == .eql) && (wEb P t (fun d=>match d with | .bool=>true | _=>false) && (wCR x x' && wCR y y'))
 | _=>false
theorem wIj (ne b:Bool):(ne != b)=(match ne with | true=>!b | false=>b):=by cases ne <;> cases b <;> rfl
theorem p_eqb {ne:Bool} {x y:AOd} {op:Op} (hc:wRR P ne x y op=true):OkP P op (wKc ne x y):=by
 intro σA h v h' hr
 unfold wRR at hc
 split at hc
 ·simp only [nA] at hc
  obtain ⟨c0,c1,c2,c3⟩:=hc
  unfold wKc at hr
  split at hr
  ·rename_i a b e1 e2
   cases hr
   refine ⟨rfl,fun μ σ hE=>⟨_,rfl,fun o w ho=>?_⟩⟩
   have g1:=wAJ c2 hE;rw [e1] at g1
   have g2:=wAJ c3 hE;rw [e2] at g2
   obtain ⟨d,d1,d2⟩:=wAq c1
   cases d <;> first | (cases d2;done) | skip
   cases ne
   ·have:=eq_of_beq c0;subst this
    exact (Runs.eqB ho g1 g2 (wAw d1)).to (by rw [wIj])
   ·have:=eq_of_beq c0;subst this
    exact (Runs.neB ho g1 g2 (wAw d1)).to (by rw [wIj])
  ·cases hr
 ·cases hc
def nilD (k:Nat) (d:TypeDesc):Bool:=match k,d with
 | 0,.pointer _=>true
 | 1,.slice _=>true
 | 2,.map _ _=>true
 | 3,.func _ _ _=>true
 | _,_=>false
theorem wOI {k:Nat} {d:TypeDesc} {a b:AV} {r:Bool} {x y:Value} (hu:P.underlying t=some d) (hd:nilD k d=true) (hr:wMa k a b=some r) (hx:Rv μ a x) (hy:Rv μ b y) (w:World):(Op.equal t x y).run P w=.ok r w:=by
 unfold Op.equal Op.maxDepth
 rw [show (10000:Nat)=9999 + 1 from rfl,Op.equalIn]
 unfold wMa at hr
 split at hr <;> cases hr <;> simp only [Rv] at hx hy <;> (cases d <;> first | (cases hd;done) | skip) <;>
  (try obtain ⟨_,_,_,_,_,rfl⟩:=hx) <;> (try obtain ⟨_,_,_,_,rfl⟩:=hx) <;> (try obtain ⟨_,_,_,rfl⟩:=hx) <;> (try obtain ⟨_,_,rfl⟩:=hx) <;> (try subst hx) <;>
  (try obtain ⟨_,_,_,_,_,rfl⟩:=hy) <;> (try obtain ⟨_,_,_,_,rfl⟩:=hy) <;> (try obtain ⟨_,_,_,rfl⟩:=hy) <;> (try obtain ⟨_,_,rfl⟩:=hy) <;> (try subst hy) <;>
  simp only [Sem.run_bind,wAw hu,Result.andThen_ok,Sem.run_pure] <;> rfl
theorem wKv {k:Nat} {a b:AV} {r:Bool} {x y:Value} (hr:wMa k a b=some r) (hx:Rv μ a x) (hy:Rv μ b y) (op:BinOp) (p q:Operand) (w:World):(eqGuard op t p q x y).run P w=.ok () w:=by
 unfold wMa at hr
 split at hr <;> cases hr <;> simp only [Rv] at hx hy <;>
  (try obtain ⟨_,_,_,_,_,rfl⟩:=hx) <;> (try obtain ⟨_,_,_,_,rfl⟩:=hx) <;> (try obtain ⟨_,_,_,rfl⟩:=hx) <;> (try obtain ⟨_,_,rfl⟩:=hx) <;> (try subst hx) <;>
  (try obtain ⟨_,_,_,_,_,rfl⟩:=hy) <;> (try obtain ⟨_,_,_,_,rfl⟩:=hy) <;> (try obtain ⟨_,_,_,rfl⟩:=hy) <;> (try obtain ⟨_,_,rfl⟩:=hy) <;> (try subst hy) <;>
  simp only [eqGuard] <;> (cases op <;> rfl)
def wRS (P:Program) (k:Nat) (ne:Bool) (x y:AOd):Op->Bool
 | .binOp b t x' y' _=>(match ne with | true=>b == .neq | false=>b == .eql) && (wEb P t (nilD k) && (wCR x x' && wCR y y'))
 | _=>false
theorem p_eqn {k:Nat} {ne:Bool} {x y:AOd} {op:Op} (hc:wRS P k ne x y op=true):OkP P op (wKd k ne x y):=by
 intro σA h v h' hr
 unfold wRS at hc
 split at hc
 ·rename_i b t x' y' t'
  simp only [nA] at hc
  obtain ⟨c0,c1,c2,c3⟩:=hc
  unfold wKd at hr
  split at hr
  ·rename_i r e1
   cases hr
   refine ⟨rfl,fun μ σ hE=>⟨_,rfl,fun o w ho=>?_⟩⟩
   have g1:=wAJ c2 hE
   have g2:=wAJ c3 hE
   obtain ⟨d,d1,d2⟩:=wAq c1
   have g3:=wOI d1 d2 e1 g1 g2
   have g4:=fun op=>wKv (P:=P) (t:=t) e1 g1 g2 op x' y'
   refine ⟨by rw [ho];rfl,?_⟩
   generalize hX:ev σ x'=X at g1 g3 g4
   generalize hY:ev σ y'=Y at g2 g3 g4
   have nint:(∀ k n,X ≠ .int k n)/\(∀ k n,X ≠ .float k n)/\(∀ k n m,X ≠ .complex k n m)/\(∀ s,X ≠ .string s):=by
    unfold wMa at e1
    split at e1 <;> cases e1 <;> rename_i e2 e3 <;> rw [e2] at g1 <;> simp only [Rv] at g1 <;>
     (try obtain ⟨_,_,_,_,_,rfl⟩:=g1) <;> (try obtain ⟨_,_,_,_,rfl⟩:=g1) <;> (try obtain ⟨_,_,_,rfl⟩:=g1) <;> (try obtain ⟨_,_,rfl⟩:=g1) <;> (try subst g1) <;>
     exact ⟨by simp,by simp,by simp,by simp⟩
   obtain ⟨n1,n2,n3,n4⟩:=nint
   cases ne
   ·have:=eq_of_beq c0;subst this
    simp only [execOp,ho,Sem.run_bind,hX,hY,g4 .eql w,Result.andThen_ok]
    have:(binOp .eql t X Y).run P w=.ok (.bool r) w:=by
     cases X <;> first | exact absurd rfl (n1 _ _) | exact absurd rfl (n2 _ _) | exact absurd rfl (n3 _ _ _) | exact absurd rfl (n4 _) | (simp only [binOp,Sem.run_bind,g3 w,Result.andThen_ok];rfl)
    rw [this]
    simp [wIj]
   ·have:=eq_of_beq c0;subst this
    simp only [execOp,ho,Sem.run_bind,hX,hY,g4 .neq w,Result.andThen_ok]
    have:(binOp .neq t X Y).run P w=.ok (.bool (!r)) w:=by
     cases X <;> first | exact absurd rfl (n1 _ _) | exact absurd rfl (n2 _ _) | exact absurd rfl (n3 _ _ _) | exact absurd rfl (n4 _) | (simp only [binOp,Sem.run_bind,g3 w,Result.andThen_ok];rfl)
    rw [this]
    simp [wIj]
  ·cases hr
 ·cases hc
mutual
def Sh.depth:Sh->Nat
 | .int=>1
 | .bool=>1
 | .str fs=>wLk fs + 1
def wLk:List (Nat × Nat × Sh)->Nat
 | []=>0
 | (_,_,s) :: fs=>Nat.max s.depth (wLk fs)
end
mutual
def wKw (P:Program):Sh->TypeId->Bool
 | .int,t=>wEb P t fun d=>(wOH d).isSome
 | .bool,t=>wEb P t fun d=>match d with | .bool=>true | _=>false
 | .str fs,t=>(!P.stoodInHeld t) && wEb P t fun d=>match d with | .struct gs=>wMk P fs gs.toList | _=>false
def wMk (P:Program):List (Nat × Nat × Sh)->List Field->Bool
 | [],[]=>true
 | (off, sz, s) :: fs, g :: gs => (g.name != "_") && (nD g.offset off && (szT P g.type sz && (wKw P s g.type && wMk P fs gs)))
 | _,_=>false
end
theorem wOJ {s:Sh} (hc:wKw P s t=true) (w:World):(isAgg t).run P w=.ok (match s with | .str _=>true | _=>false) w:=by
 cases s with
 | int =>
  obtain ⟨d,h1,h2⟩:=wAq hc
  rw [wHb h1];cases d <;> first | rfl | cases h2
 | bool =>
  obtain ⟨d,h1,h2⟩:=wAq hc
  rw [wHb h1];cases d <;> first | rfl | cases h2
 | str fs =>
  simp only [wKw,nA] at hc
  obtain ⟨d,h1,h2⟩:=wAq hc.2
  rw [wHb h1];cases d <;> first | rfl | cases h2
theorem wKC {s:Sh} {l:List AV} {vs:List Value} {off sz:Nat} {a:AV} (hc:wKw P s t=true) (hz:szT P t sz=true) (hp:wPl s l off sz=some a) (hl:RvL μ l vs):∃ v,Rv μ a v/\∀ w,(part t vs.toArray off).run P w=.ok v w:=by
 have hag:=wOJ hc
 unfold wPl at hp
 split at hp
 ·split at hp
  ·rename_i r hs
   cases hp
   obtain ⟨h1,h2⟩:=wFM hs hl
   exact ⟨_,⟨_,h1,rfl⟩,fun w=>wJA hag (wDk hz) rfl⟩
  ·cases hp
 ·rename_i hne
  rw [wGb] at hp
  obtain ⟨v,h1,h2⟩:=wFL hl hp
  refine ⟨v,h2,fun w=>wFg (fun w=>?_) h1⟩
  rw [hag w]
  cases s <;> first | rfl | exact absurd rfl (hne _)
mutual
theorem wLl:∀ (s:Sh) (t:TypeId) (d:Nat) (a b:AV) (x y:Value) (r:Bool),wKw P s t=true->s.depth <= d->wPm s a b=some r->Rv μ a x->Rv μ b y->∀ w,(Op.equalIn d t x y).run P w=.ok r w
 | .int,t,d,a,b,x,y,r,hc,hd,hr,hx,hy,w=>by
  obtain ⟨d,rfl⟩:∃ e,d=e + 1:=⟨d - 1,by simp only [Sh.depth] at hd;omega⟩
  unfold wPm at hr
  split at hr <;> first | (cases hr;done) | skip
  all_goals (try (rename_i h0;cases h0))
  split at hr <;> cases hr
  rename_i hk
  obtain ⟨dd,d1,d2⟩:=wAq hc
  cases dd <;> first | (cases d2;done) | skip
  simp only [Rv] at hx hy
  subst hx hy
  have:=wBp hk;subst this
  simp [Op.equalIn,wAw d1,wEQ,wKU]
 | .bool,t,d,a,b,x,y,r,hc,hd,hr,hx,hy,w=>by
  obtain ⟨d,rfl⟩:∃ e,d=e + 1:=⟨d - 1,by simp only [Sh.depth] at hd;omega⟩
  unfold wPm at hr
  split at hr <;> first | (cases hr;done) | skip
  all_goals (try (rename_i h0;cases h0))
  cases hr
  obtain ⟨dd,d1,d2⟩:=wAq hc
  cases dd <;> first | (cases d2;done) | skip
  simp only [Rv] at hx hy
  subst hx hy
  simp [Op.equalIn,wAw d1]
 | .str fs,t,d,a,b,x,y,r,hc,hd,hr,hx,hy,w=>by
  simp only [Sh.depth] at hd
  obtain ⟨d,rfl⟩:∃ e,d=e + 1:=⟨d - 1,by omega⟩
  unfold wPm at hr
  split at hr <;> first | (cases hr;done) | skip
  all_goals (try (rename_i h0;cases h0))
  simp only [wKw,nA,nX] at hc
  obtain ⟨dd,d1,d2⟩:=wAq hc.2
  cases dd <;> first | (cases d2;done) | skip
  rename_i gs
  obtain ⟨xs,h1,rfl⟩:=hx
  obtain ⟨ys,h2,rfl⟩:=hy
  have hf:P.fieldsOf t=gs:=by unfold Program.fieldsOf;rw [d1]
  rw [run_equalIn_agg w d t _ _ (by rw [hf];exact d1) hc.1,hf]
  exact wLm fs gs.toList d _ _ xs ys r d2 (by omega) hr h1 h2 w
theorem wLm:∀ (fs:List (Nat × Nat × Sh)) (gs:List Field) (d:Nat) (l k:List AV) (xs ys:List Value) (r:Bool),wMk P fs gs=true->wLk fs <= d->wSq fs l k=some r->RvL μ l xs->RvL μ k ys ->
  ∀ w,(Op.eqFields d xs.toArray ys.toArray gs).run P w=.ok r w
 | [],[],d,l,k,xs,ys,r,hc,hd,hr,hx,hy,w=>by
  simp only [wSq] at hr;cases hr;rfl
 | (off,sz,s) :: fs,g :: gs,d,l,k,xs,ys,r,hc,hd,hr,hx,hy,w=>by
  simp only [wMk,nA] at hc
  obtain ⟨c1,c2,c3,c4,c5⟩:=hc
  have e:=nB c2
  subst e
  simp only [wSq] at hr
  split at hr
  ·rename_i a b ha hb
   obtain ⟨u,u1,u2⟩:=wKC c4 c3 ha hx
   obtain ⟨v,v1,v2⟩:=wKC c4 c3 hb hy
   have hne : g.name ≠ "_" := by simpa using c1
   have hd1:s.depth <= d:=nY (Nat.le_max_left _ _) hd
   have hd2:wLk fs <= d:=nY (Nat.le_max_right _ _) hd
   cases hq:wPm s a b with
   | none=>rw [hq] at hr;cases hr
   | some q =>
    have hE:=wLl s g.type d a b u v q c4 hd1 hq u1 v1
    rw [hq] at hr
    cases q with
    | true =>
     simp only at hr
     have hF:=wLm fs gs d l k xs ys r c5 hd2 hr hx hy
     simp [Op.eqFields,hne,u2,v2,hE,hF,Result.andThen]
    | false =>
     simp only [kO] at hr
     subst hr
     simp [Op.eqFields,hne,u2,v2,hE,Result.andThen]
  ·cases hr
 | [],_ :: _,d,l,k,xs,ys,r,hc,hd,hr,hx,hy,w=>by simp [wMk] at hc
 | _ :: _,[],d,l,k,xs,ys,r,hc,hd,hr,hx,hy,w=>by simp [wMk] at hc
end
theorem wPt {fs:List (Nat × Nat × Sh)} {r:Bool}:∀ {a b:AV},wPm (.str fs) a b=some r->∃ l k,a=.agg l/\b=.agg k:=by
 intro a b h
 cases a <;> cases b <;> first | exact ⟨_,_,rfl,rfl⟩ | (simp [wPm] at h;done)
def wRT (P:Program) (ne:Bool) (s:Sh) (x y:AOd):Op->Bool
 | .binOp b t x' y' _=>(match ne with | true=>b == .neq | false=>b == .eql) && (nu s.depth 10000 && (wKw P s t && ((match s with | .str _=>true | _=>false) && ((!P.eqGuardType P.depth t) && (wCR x x' && wCR y y')))))
 | _=>false
theorem p_eqs {ne:Bool} {s:Sh} {x y:AOd} {op:Op} (hc:wRT P ne s x y op=true):OkP P op (wKe ne s x y):=by
 intro σA h v h' hr
 unfold wRT at hc
 split at hc
 ·rename_i b t x' y' t'
  simp only [nA,nX] at hc
  obtain ⟨c0,c1,c2,c3,c4,c5,c6⟩:=hc
  unfold wKe at hr
  split at hr
  ·rename_i r e1
   cases hr
   refine ⟨rfl,fun μ σ hE=>⟨_,rfl,fun o w ho=>?_⟩⟩
   have g1:=wAJ c5 hE
   have g2:=wAJ c6 hE
   have g3:∀ w,(Op.equal t (ev σ x') (ev σ y')).run P w=.ok r w:=wLl s t 10000 _ _ _ _ r c2 (nK c1) e1 g1 g2
   cases s <;> first | (cases c3;done) | skip
   obtain ⟨l,k,h1,h2⟩:=wPt e1
   rw [h1] at g1;rw [h2] at g2
   obtain ⟨xs,_,g1⟩:=g1
   obtain ⟨ys,_,g2⟩:=g2
   rw [g1,g2] at g3
   refine ⟨by rw [ho];rfl,?_⟩
   cases ne
   ·have:=eq_of_beq c0;subst this
    simp [execOp,ho,g1,g2,binOp,eqGuard,c4,g3,wIj]
   ·have:=eq_of_beq c0;subst this
    simp [execOp,ho,g1,g2,binOp,eqGuard,c4,g3,wIj]
  ·cases hr
 ·cases hc
end
end
end Go.KX
namespace Go.KX
noncomputable section
open Go.RowKit Go.KL
section
variable {C:Chk} {P:Program} {μ μ':Mu} {w w':World} {h h':AH} {σ:Env} {σA:Tr AV} {t e:TypeId} {o:Oper}
def wRU (P:Program) (off:Nat) (x:AOd):Op->Bool
 | .fieldAddr t y i=>wEb P t (fun d=>match d with
   | .struct fs=>match fs[i]? with
    | some f=>nD f.offset off && (match P.info? f.type with | some j=>nU 0 j.size | none=>false)
    | none=>false
   | _=>false) && wCR x y
 | _=>false
theorem p_fad {off:Nat} {x:AOd} {op:Op} (hc:wRU P off x op=true):OkP P op (wKi off x):=by
 intro σA h v h' hr
 unfold wRU at hc
 split at hc
 ·rename_i t y i
  simp only [nA] at hc
  obtain ⟨c1,c2⟩:=hc
  unfold wKi at hr
  split at hr
  ·rename_i b oo hb
   cases hr
   refine ⟨rfl,fun μ σ hE=>?_⟩
   have g:=wAJ c2 hE;rw [hb] at g
   obtain ⟨c,g1,g2⟩:=g
   refine ⟨_,⟨c,g1,rfl⟩,fun o w ho=>?_⟩
   obtain ⟨d,d1,d2⟩:=wAq c1
   split at d2
   ·rename_i fs
    split at d2
    ·rename_i f hf
     simp only [nA] at d2
     have e:=nB d2.1
     subst e
     have d3:=d2.2
     split at d3
     ·rename_i j hj
      have hpos:0 < j.size:=by simpa [nG] using d3
      obtain ⟨n,hn⟩:∃ n,j.size=n + 1:=⟨j.size - 1,by omega⟩
      exact Runs.fa (n:=n) ho g2 (wAw d1) hf (fun w=>by rw [<- hn];simp [sizeOf,typeInfo,hj])
     ·cases d3
    ·cases d2
   ·cases d2
  ·cases hr
 ·cases hc
def wRV (P:Program) (off:Nat) (x:AOd):Op->Bool
 | .field t y i=>wEb P t (fun d=>match d with
   | .struct fs=>match fs[i]? with
    | some f=>nD f.offset off && wPr P f.type false
    | none=>false
   | _=>false) && wCR x y
 | _=>false
def wOK (P:Program) (off n:Nat) (x:AOd):Op->Bool
 | .field t y i=>wEb P t (fun d=>match d with
   | .struct fs=>match fs[i]? with
    | some f=>nD f.offset off && (wPr P f.type true && szT P f.type n)
    | none=>false
   | _=>false) && wCR x y
 | _=>false
theorem p_fld {off:Nat} {x:AOd} {op:Op} (hc:wRV P off x op=true):OkP P op (wKj off x):=by
 intro σA h v h' hr
 unfold wRV at hc
 split at hc
 ·rename_i t y i
  simp only [nA] at hc
  obtain ⟨c1,c2⟩:=hc
  unfold wKj at hr
  split at hr
  ·rename_i l hb
   obtain ⟨hr2,rfl⟩:=wBs hr
   refine ⟨rfl,fun μ σ hE=>?_⟩
   have g:=wAJ c2 hE;rw [hb] at g
   obtain ⟨vs,g1,g2⟩:=g
   rw [wGb] at hr2
   obtain ⟨cv,g3,g4⟩:=wFL g1 hr2
   refine ⟨cv,g4,fun o w ho=>?_⟩
   obtain ⟨d,d1,d2⟩:=wAq c1
   split at d2
   ·split at d2
    ·rename_i f hf
     simp only [nA] at d2
     have e:=nB d2.1
     subst e
     exact Runs.fld ho g2 (wAw d1) hf (wFg (wEj d2.2) g3)
    ·cases d2
   ·cases d2
  ·cases hr
 ·cases hc
theorem wDb {x:Option (List AV)} {v:AV} (hr:wIg x=some v):∃ l,x=some l/\v=.agg l:=by
 cases x <;> cases hr;exact ⟨_,rfl,rfl⟩
theorem wSz {off n:Nat} {x:AOd} {op:Op} (hc:wOK P off n x op=true):OkP P op (wHV off n x):=by
 intro σA h v h' hr
 unfold wOK at hc
 split at hc
 ·rename_i t y i
  simp only [nA] at hc
  obtain ⟨c1,c2⟩:=hc
  unfold wHV at hr
  split at hr
  ·rename_i l hb
   obtain ⟨hr2,rfl⟩:=wBs hr
   obtain ⟨r,hr3,rfl⟩:=wDb hr2
   refine ⟨rfl,fun μ σ hE=>?_⟩
   have g:=wAJ c2 hE;rw [hb] at g
   obtain ⟨vs,g1,g2⟩:=g
   obtain ⟨g3,g4⟩:=wFM hr3 g1
   refine ⟨_,⟨_,g3,rfl⟩,fun o w ho=>?_⟩
   obtain ⟨d,d1,d2⟩:=wAq c1
   split at d2
   ·split at d2
    ·rename_i f hf
     simp only [nA] at d2
     have e:=nB d2.1
     subst e
     exact Runs.fld ho g2 (wAw d1) hf (wJA (wEj d2.2.1) (wDk d2.2.2) rfl)
    ·cases d2
   ·cases d2
  ·cases hr
 ·cases hc
theorem wCN {a:AV} {n:Nat} (hr:wHP a=some n):a=.int .i64 n:=by
 unfold wHP at hr
 split at hr
 ·cases hr;rfl
 ·cases hr
def wRW (P:Program) (sz:Nat) (x y:AOd):Op->Bool
 | .indexAddr t x' y'=>wEb P t (fun d=>match d with
   | .slice e=>szT P e sz
   | _=>false) && (wCR x x' && wCR y y')
 | _=>false
theorem p_iad {sz:Nat} {x y:AOd} {op:Op} (hc:wRW P sz x y op=true):OkP P op (wKk sz x y):=by
 intro σA h v h' hr
 unfold wRW at hc
 split at hc
 ·rename_i t x' y'
  simp only [nA] at hc
  obtain ⟨c1,c2,c3⟩:=hc
  obtain ⟨d,d1,d2⟩:=wAq c1
  split at d2
  ·rename_i e
   unfold wKk at hr
   split at hr
   ·rename_i b off n c i hb hi
    obtain ⟨hlt,hr⟩:=wBm hr
    cases hr
    have hlt:i < n:=by simpa [nG] using hlt
    have hi:=wCN hi
    refine ⟨rfl,fun μ σ hE=>?_⟩
    have g:=wAJ c2 hE;rw [hb] at g
    have k:=wAJ c3 hE;rw [hi] at k
    obtain ⟨m,g1,g2,g3⟩:=g
    refine ⟨_,⟨m,g1,rfl⟩,fun o w ho=>?_⟩
    have:=Runs.ia (P:=P) (o:=o) (w:=w) (i:=(i:Int)) ho g3 k (wAw d1) (wDk d2) (by omega) (by omega)
    simpa using this
   ·rename_i b eo co n i hb hi
    obtain ⟨hlt,hr⟩:=wBm hr
    cases hr
    have hlt:i < n:=by simpa [nG] using hlt
    have hi:=wCN hi
    refine ⟨rfl,fun μ σ hE=>?_⟩
    have g:=wAJ c2 hE;rw [hb] at g
    have k:=wAJ c3 hE;rw [hi] at k
    obtain ⟨m,g1,g2,g3⟩:=g
    refine ⟨_,⟨m,g1,rfl⟩,fun o w ho=>?_⟩
    have:=Runs.ia (P:=P) (o:=o) (w:=w) (i:=(i:Int)) ho g3 k (wAw d1) (wDk d2) (by omega) (by omega)
    simpa using this
   ·cases hr
  ·cases d2
 ·cases hc
def wOL (P:Program) (sz n:Nat) (x y:AOd):Op->Bool
 | .indexAddr t x' y'=>wEb P t (fun d=>match d with
   | .array m e=>nD m n && szT P e sz
   | _=>false) && (wCR x x' && wCR y y')
 | _=>false
theorem wTA {sz n:Nat} {x y:AOd} {op:Op} (hc:wOL P sz n x y op=true):OkP P op (wHW sz n x y):=by
 intro σA h v h' hr
 unfold wOL at hc
 split at hc
 ·rename_i t x' y'
  simp only [nA] at hc
  obtain ⟨c1,c2,c3⟩:=hc
  obtain ⟨d,d1,d2⟩:=wAq c1
  split at d2
  ·rename_i m e
   simp only [nA] at d2
   have em:=nB d2.1
   subst em
   unfold wHW at hr
   split at hr
   ·rename_i b off i hb hi
    obtain ⟨hlt,hr⟩:=wBm hr
    cases hr
    have hlt:i < m:=by simpa [nG] using hlt
    have hi:=wCN hi
    refine ⟨rfl,fun μ σ hE=>?_⟩
    have g:=wAJ c2 hE;rw [hb] at g
    have k:=wAJ c3 hE;rw [hi] at k
    obtain ⟨q,g1,g3⟩:=g
    refine ⟨_,⟨q,g1,rfl⟩,fun o w ho=>?_⟩
    have:=Runs.iaA (P:=P) (o:=o) (w:=w) (i:=(i:Int)) ho g3 k (wAw d1) (wDk d2.2) (by omega) (by omega)
    simpa using this
   ·cases hr
  ·cases d2
 ·cases hc
def c_ix (P:Program) (n:Nat) (x y:AOd):Op->Bool
 | .index t x' y'=>wEb P t (fun d=>match d with
   | .array m e=>nD m n && (szT P e 1 && wPr P e false)
   | _=>false) && (wCR x x' && wCR y y')
 | _=>false
theorem p_ix {n:Nat} {x y:AOd} {op:Op} (hc:c_ix P n x y op=true):OkP P op (wRI n x y):=by
 intro σA h v h' hr
 unfold c_ix at hc
 split at hc
 ·rename_i t x' y'
  simp only [nA] at hc
  obtain ⟨c1,c2,c3⟩:=hc
  obtain ⟨d,d1,d2⟩:=wAq c1
  split at d2
  ·rename_i m e
   simp only [nA] at d2
   have em:=nB d2.1
   subst em
   unfold wRI at hr
   split at hr
   ·rename_i l i hb hi
    obtain ⟨hlt,hr⟩:=wBm hr
    obtain ⟨hr2,rfl⟩:=wBs hr
    have hlt:i < m:=by simpa [nG] using hlt
    have hi:=wCN hi
    refine ⟨rfl,fun μ σ hE=>?_⟩
    have g:=wAJ c2 hE;rw [hb] at g
    have k:=wAJ c3 hE;rw [hi] at k
    obtain ⟨vs,g1,g2⟩:=g
    rw [wGb] at hr2
    obtain ⟨cv,g3,g4⟩:=wFL g1 hr2
    refine ⟨cv,g4,fun o w ho=>?_⟩
    exact Runs.ixA (P:=P) (o:=o) (w:=w) (i:=(i:Int)) ho g2 k (wAw d1) (wDk d2.2.1) (by omega) (by omega) (wFg (wEj d2.2.2) (by simpa using g3))
   ·cases hr
  ·cases d2
 ·cases hc
def wRX (P:Program) (sz n:Nat) (x y:AOd):Op->Bool
 | .index t x' y'=>wEb P t (fun d=>match d with
   | .array m e=>nD m n && (szT P e sz && wPr P e true)
   | _=>false) && (wCR x x' && wCR y y')
 | _=>false
theorem p_ixA {sz n:Nat} {x y:AOd} {op:Op} (hc:wRX P sz n x y op=true):OkP P op (wKl sz n x y):=by
 intro σA h v h' hr
 unfold wRX at hc
 split at hc
 ·rename_i t x' y'
  simp only [nA] at hc
  obtain ⟨c1,c2,c3⟩:=hc
  obtain ⟨d,d1,d2⟩:=wAq c1
  split at d2
  ·rename_i m e
   simp only [nA] at d2
   have em:=nB d2.1
   subst em
   unfold wKl at hr
   split at hr
   ·rename_i l i hb hi
    obtain ⟨hlt,hr⟩:=wBm hr
    obtain ⟨hr2,rfl⟩:=wBs hr
    obtain ⟨r,hr3,rfl⟩:=wDb hr2
    have hlt:i < m:=by simpa [nG] using hlt
    have hi:=wCN hi
    refine ⟨rfl,fun μ σ hE=>?_⟩
    have g:=wAJ c2 hE;rw [hb] at g
    have k:=wAJ c3 hE;rw [hi] at k
    obtain ⟨vs,g1,g2⟩:=g
    obtain ⟨g3,g4⟩:=wFM hr3 g1
    refine ⟨_,⟨_,g3,rfl⟩,fun o w ho=>?_⟩
    exact Runs.ixA (P:=P) (o:=o) (w:=w) (i:=(i:Int)) ho g2 k (wAw d1) (wDk d2.2.1) (by omega) (by omega) (wJA (wEj d2.2.2) (wDk d2.2.1) (by simp))
   ·cases hr
  ·cases d2
 ·cases hc
def wQk:Option AOd->Option Operand->Bool
 | none,none=>true
 | some x,some y=>wCR x y
 | _,_=>false
theorem wOM {x:Option AOd} {y:Option Operand} {r:Option Nat} (hr:bnd σA x=some r) (hc:wQk x y=true) (hE:EnvR μ σA σ):(r=none/\y=none) \/ ∃ n z,r=some n/\y=some z/\ev σ z=.int .i64 n:=by
 cases x with
 | none =>
  cases y with
  | none=>cases hr;exact .inl ⟨rfl,rfl⟩
  | some _=>cases hc
 | some x =>
  cases y with
  | none=>cases hc
  | some y =>
   simp only [bnd] at hr
   split at hr
   ·rename_i n hn
    cases hr
    have:=wAJ (show wCR x y=true from hc) hE
    rw [wCN hn] at this
    exact .inr ⟨n,y,rfl,rfl,this⟩
   ·cases hr
def vI (n:Nat):Value:=.int .i64 (n:Int)
theorem wHc {P:Program} {n y:Nat} {code:BoundsCode} (hle:n <= y) (w:World):(Instr.sliceBound (vI n) y code).run P w=.ok n w:=by
 have h1:(n:Int) <= y:=by omega
 simp [Instr.sliceBound,vI,asIntOf,h1]
theorem wEu {P:Program} {s:Bool} {len cap:Nat} {lo hi mx:Option Nat} {l hh m:Nat} (hm:m=mx.getD cap) (hh':hh=hi.getD len) (hl:l=lo.getD 0) (h1:l <= hh) (h2:hh <= m) (h3:m <= cap) (hmh:mx.isSome=true->hi.isSome=true) (w:World) :
  (Instr.sliceBounds s len cap (lo.map vI) (hi.map vI) (mx.map vI)).run P w=.ok (l,hh,m) w:=by
 subst hm hh' hl
 unfold Instr.sliceBounds
 cases mx <;> cases hi <;> cases lo <;> simp only [kS,kU] at h1 h2 h3 <;> (try (simp at hmh;done)) <;> simp [wHc h1,wHc h2,wHc h3]
theorem wHd {x:Option AOd} {y:Option Operand} {r:Option Nat} (hr:bnd σA x=some r) (hc:wQk x y=true) (hE:EnvR μ σA σ):y.map (ev σ)=r.map vI:=by
 rcases wOM hr hc hE with ⟨rfl,rfl⟩ | ⟨n,z,rfl,rfl,h1⟩
 ·rfl
 ·simp [h1,vI]
theorem wFO (b off n:Nat):(Addr.add ⟨b,off,none⟩ n)=⟨b,off + n,none⟩:=wEL b off n
theorem wON {P:Program} {sz:Nat} {a v:AV} {x:Value} {lo hi mx:Option Nat} (hr0:wSr sz a (orD lo 0) hi mx=some v) (hx:Rv μ a x) (hmh:mx.isSome=true->hi.isSome=true) :
  ∃ A len cap cv l hh m,x=.slice A len cap/\Rv μ v cv/\(∀ s w,(Instr.sliceBounds s len cap (lo.map vI) (hi.map vI) (mx.map vI)).run P w=.ok (l,hh,m) w) /\
   cv=.slice (if m=l then A else A.map (·.add (l * sz))) (hh - l) (m - l):=by
 obtain ⟨l,hl,hr⟩:∃ l,lo.getD 0=l/\wSr sz a l hi mx=some v:=⟨_,rfl,by rw [<- wNb];exact hr0⟩
 clear hr0
 unfold wSr at hr
 split at hr
 ·obtain ⟨hb,hr⟩:=wBm hr
  cases hr
  simp only [nA] at hb
  obtain ⟨⟨b1,b2⟩,b3⟩:=hb
  have l0:=nB b1
  have hx:x=.slice none 0 0:=hx
  subst hx
  have h2:hi.getD 0=0:=by cases hi with | none=>rfl | some n=>exact nB b2
  have h3:mx.getD 0=0:=by cases mx with | none=>rfl | some n=>exact nB b3
  refine ⟨none,0,0,_,0,0,0,rfl,(rfl:Rv μ .snil _),fun s w=>wEu h3.symm h2.symm (by rw [hl,l0]) (nH _) (nH _) (nH _) hmh w,by simp⟩
 ·rename_i b off n c
  obtain ⟨d,g1,g2,rfl⟩:=hx
  simp only [wNb] at hr
  obtain ⟨hb,hr⟩:=wBm hr
  cases hr
  simp only [nA,nL] at hb
  obtain ⟨⟨b1,b2⟩,b3⟩:=hb
  refine ⟨_,n,c,_,l,hi.getD n,mx.getD c,rfl,⟨d,g1,by omega,rfl⟩,fun s w=>wEu rfl rfl hl.symm b1 b2 b3 hmh w,?_⟩
  by_cases e:mx.getD c=l
  ·simp [e]
  ·have:nD (mx.getD c) l=false:=by
    cases hq:nD (mx.getD c) l with
    | false=>rfl
    | true=>exact absurd (nB hq) e
   simp [e,this,wFO]
 ·rename_i b eo co n
  obtain ⟨d,g1,g2,rfl⟩:=hx
  simp only [wNb] at hr
  split at hr
  ·obtain ⟨hb,hr⟩:=wBm hr
   simp only [nA,nL] at hb
   obtain ⟨b1,b2⟩:=hb
   have fin:∀ cv,cv=Value.slice (if d.2 - eo=l then some ⟨d.1,co,none⟩ else (some (⟨d.1,co,none⟩:Addr)).map (·.add (l * sz))) (hi.getD n - l) (d.2 - eo - l)->Rv μ v cv ->
     ∃ A len cap cv l hh m,Value.slice (some ⟨d.1,co,none⟩) n (d.2 - eo)=.slice A len cap/\Rv μ v cv/\(∀ s w,(Instr.sliceBounds s len cap (lo.map vI) (hi.map vI) ((none:Option Nat).map vI)).run P w=.ok (l,hh,m) w) /\
      cv=.slice (if m=l then A else A.map (·.add (l * sz))) (hh - l) (m - l):=fun cv e hv =>
    ⟨_,n,d.2 - eo,cv,l,hi.getD n,d.2 - eo,rfl,hv,fun s w=>wEu rfl rfl hl.symm b1 (by simp only [kS];omega) (nH _) hmh w,e⟩
   split at hr
   ·cases hr
    refine fin _ rfl ⟨d,g1,by omega,?_⟩
    simp [Addr.add]
   ·rename_i l0
    split at hr
    ·rename_i hlt
     cases hr
     have hlt:l < n:=by simpa [nG] using hlt
     refine fin _ rfl ⟨d,g1,by omega,?_⟩
     rw [if_neg (by omega)]
     simp [wFO,Nat.sub_sub]
    ·rename_i hlt
     cases hr
     have hlt:¬ l < n:=by
      intro hq
      have:nU l n=true:=by rw [nG];exact hq
      rw [this] at hlt;cases hlt
     have e1:hi.getD n - l=0:=by omega
     refine fin _ rfl ?_
     rw [e1]
     by_cases e2:d.2 - eo=l
     ·rw [if_pos e2];exact ⟨d,g1,co,by congr 1;omega⟩
     ·rw [if_neg e2];exact ⟨d,g1,co + l * sz,by simp only [kV,wFO];congr 1;omega⟩
  ·rename_i m
   obtain ⟨hb,hr⟩:=wBm hr
   cases hr
   simp only [nA,nL] at hb
   obtain ⟨⟨b1,b2⟩,b3⟩:=hb
   refine ⟨_,n,d.2 - eo,_,l,hi.getD n,m,rfl,⟨d,g1,by omega,rfl⟩,fun s w=>wEu (mx:=some m) rfl rfl hl.symm b1 b2 (by simp only [kU];omega) hmh w,?_⟩
   by_cases e:m=l
   ·simp [e]
   ·have:nD m l=false:=by
     cases hq:nD m l with
     | false=>rfl
     | true=>exact absurd (nB hq) e
    simp [e,this,wFO]
 ·cases hr
def wRY (P:Program) (sz:Nat) (x:AOd) (lo hi mx:Option AOd):Op->Bool
 | .slice t y l m n=>wEb P t (fun d=>match d with
   | .slice e=>szT P e sz
   | _=>false) && (wCR x y && (wQk lo l && (wQk hi m && (wQk mx n && (!mx.isSome || hi.isSome)))))
 | _=>false
theorem p_slc {sz:Nat} {x:AOd} {lo hi mx:Option AOd} {op:Op} (hc:wRY P sz x lo hi mx op=true):OkP P op (wKh sz x lo hi mx):=by
 intro σA h v h' hr
 unfold wRY at hc
 split at hc
 ·rename_i t y l m n
  simp only [nA] at hc
  obtain ⟨c1,c2,c3,c4,c5,c6⟩:=hc
  obtain ⟨d,d1,d2⟩:=wAq c1
  split at d2
  ·rename_i e
   unfold wKh at hr
   split at hr
   ·rename_i rl rh rm h1 h2 h3
    obtain ⟨hr2,rfl⟩:=wBs hr
    refine ⟨rfl,fun μ σ hE=>?_⟩
    have hmh:rm.isSome=true->rh.isSome=true:=by
     intro hs
     rcases wOM h3 c5 hE with ⟨rfl,_⟩ | ⟨_,z,rfl,rfl,_⟩
     ·cases hs
     ·cases mx with
      | none=>simp [bnd] at h3
      | some _ =>
       cases hi with
       | none=>simp at c6
       | some _ =>
        rcases wOM h2 c4 hE with ⟨rfl,e0⟩ | ⟨_,_,rfl,_⟩
        ·subst e0;simp [wQk] at c4
        ·rfl
    obtain ⟨A,len,cap,cv,ll,hh,mm,e1,e2,e3,e4⟩:=wON (P:=P) hr2 (wAJ c2 hE) hmh
    refine ⟨cv,e2,fun o w ho=>⟨by rw [ho];rfl,?_⟩⟩
    have b1:=wHd h1 c3 hE
    have b2:=wHd h2 c4 hE
    have b3:=wHd h3 c5 hE
    simp [execOp,ho,Instr.sliceAt,Instr.slice,wAw d1,e1,b1,b2,b3,e3,wDk d2,e4]
   ·cases hr
  ·cases d2
 ·cases hc
def wOO (P:Program) (sz n:Nat) (x:AOd) (lo hi:Option AOd):Op->Bool
 | .slice t y l m none=>wEb P t (fun d=>match d with
   | .array k e=>nD k n && szT P e sz
   | _=>false) && (wCR x y && (wQk lo l && wQk hi m))
 | _=>false
theorem wTB {sz n:Nat} {x:AOd} {lo hi:Option AOd} {op:Op} (hc:wOO P sz n x lo hi op=true):OkP P op (wHU sz n x lo hi):=by
 intro σA h v h' hr
 unfold wOO at hc
 split at hc
 ·rename_i t y l m
  simp only [nA] at hc
  obtain ⟨c1,c2,c3,c4⟩:=hc
  obtain ⟨d,d1,d2⟩:=wAq c1
  split at d2
  ·rename_i k e
   simp only [nA] at d2
   have ek:=nB d2.1
   subst ek
   unfold wHU at hr
   split at hr
   ·rename_i rl rh b off h1 h2 hb
    obtain ⟨hr2,rfl⟩:=wBs hr
    refine ⟨rfl,fun μ σ hE=>?_⟩
    have g:=wAJ c2 hE;rw [hb] at g
    obtain ⟨c,g1,g2⟩:=g
    obtain ⟨A,len,cap,cv,ll,hh,mm,e1,e2,e3,e4⟩:=wON (P:=P) (μ:=μ) (x:=.slice (some ⟨c.1,off,none⟩) k k) hr2 ⟨c,g1,nH _,rfl⟩ (by intro hs;cases hs)
    cases e1
    refine ⟨cv,e2,fun o w ho=>⟨by rw [ho];rfl,?_⟩⟩
    have b1:=wHd h1 c3 hE
    have b2:=wHd h2 c4 hE
    have e3':=e3 false
    simp only [Option.map_none] at e3'
    simp [execOp,ho,Instr.sliceAt,wAw d1,g2,Instr.sureAddr,b1,b2,e3',wDk d2.2,e4]
    split <;> simp
   ·cases hr
  ·cases d2
 ·cases hc
end
end
end Go.KX
namespace Go.KX
noncomputable section
open Go.RowKit Go.KL
section
variable {C:Chk} {P:Program} {μ μ':Mu} {w w':World} {h h':AH} {σ:Env} {σA:Tr AV} {t e:TypeId} {o:Oper}
def wKD (place:Nat->Option (Nat × Nat)):List (Nat × Nat × AOd)->List (Nat × Operand)->Bool
 | [],[]=>true
 | (off,n,x) :: ps,(i,y) :: qs=>(match place i with | some (o,s)=>nD o off && nD s n | none=>false) && (wCR x y && wKD place ps qs)
 | _,_=>false
theorem wHe {place:Nat->Option (Nat × Nat)} (hE:EnvR μ σA σ):∀ {ps:List (Nat × Nat × AOd)} {qs:List (Nat × Operand)} {cs r:List AV} {CS:List Value},wJE σA cs ps=some r->wKD place ps qs=true->RvL μ cs CS ->
  ∃ R,lay place CS (qs.map fun (p:Nat × Operand)=>(p.1,ev σ p.2))=some R/\RvL μ r R/\R.length=CS.length
 | [],[],cs,r,CS,hr,_,hl=>by
  simp only [wJE] at hr;cases hr;exact ⟨CS,rfl,hl,rfl⟩
 | (off,n,x) :: ps,(i,y) :: qs,cs,r,CS,hr,hc,hl=>by
  simp only [wKD,nA] at hc
  obtain ⟨c1,c2,c3⟩:=hc
  split at c1
  ·rename_i o s hp
   simp only [nA] at c1
   have e1:=nB c1.1
   have e2:=nB c1.2
   subst e1 e2
   simp only [wJE] at hr
   split at hr
   ·rename_i hn
    have hn:=nB hn
    split at hr
    ·rename_i cs' ho
     obtain ⟨vs,v1,v2⟩:=wGq (wAJ c2 hE)
     obtain ⟨g1,g2⟩:=wJH ho hl v1
     have hlen:vs.length=s:=by rw [wDD v1,<- wEi,hn]
     obtain ⟨R,r1,r2,r3⟩:=wHe hE hr c3 g2
     refine ⟨R,?_,r2,by rw [r3,wCq]⟩
     rw [nI,lay,hp]
     simp only [v2,kP,hlen,beq_self_eq_true,Bool.true_and]
     rw [if_pos (by rw [nL];omega)]
     exact r1
    ·cases hr
   ·cases hr
  ·cases c1
 | [],_ :: _,cs,r,CS,hr,hc,hl=>by simp [wKD] at hc
 | _ :: _,[],cs,r,CS,hr,hc,hl=>by simp [wKD] at hc
def plL (P:Program):List Field->Option (List (Nat × Nat))
 | []=>some []
 | f :: fs=>match P.info? f.type,plL P fs with
  | some i,some l=>some ((f.offset,i.size) :: l)
  | _,_=>none
theorem wTC:∀ {fs:List Field} {pl:List (Nat × Nat)},plL P fs=some pl->wQd P fs.toArray pl:=by
 intro fs pl hp w
 rw [List.mapM_toArray]
 have key:∀ (fs:List Field) (pl:List (Nat × Nat)),plL P fs=some pl->((fs.mapM fun f=>do pure (f.offset,<- sizeOf f.type):Sem (List (Nat × Nat)))).run P w=.ok pl w:=by
  intro fs
  induction fs with
  | nil=>intro pl hp;cases hp;simp
  | cons f fs ih =>
   intro pl hp
   unfold plL at hp
   split at hp
   ·rename_i i l h1 h2
    cases hp
    have hs:(sizeOf f.type).run P w=.ok i.size w:=by simp [sizeOf,typeInfo,h1]
    simp only [List.mapM_cons,Sem.run_bind,hs,Result.andThen_ok,Sem.run_pure,ih l h2]
   ·cases hp
 have:=key fs pl hp
 simp only [Sem.run_map,this,Result.andThen_ok]
def wRZ (P:Program) (z:List AV) (ps:List (Nat × Nat × AOd)):Op->Bool
 | .build t qs=>zT P t z && wEb P t (fun d=>match d with
   | .struct fs=>match plL P fs.toList with
    | some pl=>wKD (fun i=>pl[i]?) ps qs.toList
    | none=>false
   | .array _ e=>match P.info? e with
    | some j=>wKD (fun i=>some (i * j.size,j.size)) ps qs.toList
    | none=>false
   | _=>false)
 | _=>false
theorem p_bld {z:List AV} {ps:List (Nat × Nat × AOd)} {op:Op} (hc:wRZ P z ps op=true):OkP P op (wNo z ps):=by
 intro σA h v h' hr
 unfold wRZ at hc
 split at hc
 ·rename_i t qs
  simp only [nA] at hc
  obtain ⟨c1,c2⟩:=hc
  obtain ⟨hr2,rfl⟩:=wBs hr
  obtain ⟨r,hr3,rfl⟩:=wDb hr2
  obtain ⟨i,zv,z1,z2,z3⟩:=wFN c1
  obtain ⟨d,d1,d2⟩:=wAq c2
  refine ⟨rfl,fun μ σ hE=>?_⟩
  split at d2
  ·rename_i fs
   split at d2
   ·rename_i pl hpl
    obtain ⟨R,r1,r2,_⟩:=wHe hE hr3 d2 (z3 μ)
    refine ⟨_,⟨R,r2,rfl⟩,fun o w ho=>?_⟩
    exact Runs.build (P:=P) (ps:=qs.toList) (z:=zv.cells.toList) ho rfl (wDl z1 z2) ⟨fs,wAw d1,wTC hpl⟩ (by simp) r1
   ·cases d2
  ·rename_i n e
   split at d2
   ·rename_i j hj
    obtain ⟨R,r1,r2,_⟩:=wHe hE hr3 d2 (z3 μ)
    refine ⟨_,⟨R,r2,rfl⟩,fun o w ho=>?_⟩
    exact Runs.buildA (P:=P) (ps:=qs.toList) (z:=zv.cells.toList) ho rfl (wDl z1 z2) (wAw d1) (fun w=>by simp [sizeOf,typeInfo,hj]) (by simp) r1
   ·cases d2
  ·cases d2
 ·cases hc
def wMl (P:Program) (b:Builtin) (x:AOd):Op->Bool
 | .call c=>match c.callee with
  | .builtin b'=>(b' == b) && (match c.args.toList,c.argTypes.toList with
   | [y],[t]=>wEb P t (fun d=>match d with | .slice _=>true | _=>false) && wCR x y
   | _,_=>false)
  | _=>false
 | _=>false
theorem wLn {b:Builtin} {x:AOd} {op:Op} (hc:wMl P b x op=true):∃ y t e,op=.call { callee:=.builtin b,args:=#[y],argTypes:=#[t] }/\P.underlying t=some (.slice e)/\wCR x y=true:=by
 unfold wMl at hc
 split at hc
 ·rename_i c
  obtain ⟨ce,args,tys⟩:=c
  simp only at hc
  split at hc
  ·rename_i b'
   simp only [nA,beq_iff_eq] at hc
   obtain ⟨rfl,h2⟩:=hc
   split at h2
   ·rename_i y t h3 h4
    simp only [nA] at h2
    obtain ⟨d,d1,d2⟩:=wAq h2.1
    cases d <;> first | (cases d2;done) | skip
    refine ⟨y,t,_,?_,d1,h2.2⟩
    congr 2
    ·exact nJ (by simpa using h3)
    ·exact nJ (by simpa using h4)
   ·cases h2
  ·cases hc
 ·cases hc
theorem p_len {x:AOd} {op:Op} (hc:wMl P .len x op=true):OkP P op (wKn x):=by
 intro σA h v h' hr
 obtain ⟨y,t,e,rfl,d1,c2⟩:=wLn hc
 unfold wKn at hr
 split at hr <;> cases hr <;> rename_i hb
 ·refine ⟨rfl,fun μ σ hE=>⟨_,rfl,fun o w ho=>?_⟩⟩
  have g:=wAJ c2 hE;rw [hb] at g
  exact Runs.len ho g (wAw d1)
 ·refine ⟨rfl,fun μ σ hE=>⟨_,rfl,fun o w ho=>?_⟩⟩
  have g:=wAJ c2 hE;rw [hb] at g
  obtain ⟨c,_,_,g⟩:=g
  exact Runs.len ho g (wAw d1)
 ·refine ⟨rfl,fun μ σ hE=>⟨_,rfl,fun o w ho=>?_⟩⟩
  have g:=wAJ c2 hE;rw [hb] at g
  obtain ⟨c,_,_,g⟩:=g
  exact Runs.len ho g (wAw d1)
 ·refine ⟨rfl,fun μ σ hE=>⟨_,rfl,fun o w ho=>?_⟩⟩
  have g:=wAJ c2 hE;rw [hb] at g
  obtain ⟨c,_,q,g⟩:=g
  exact Runs.len ho g (wAw d1)
theorem Runs.cap {t e:TypeId} {x:Operand} {a:Option Addr} {n c:Nat} (ho:o.op=.call { callee:=.builtin .cap,args:=#[x],argTypes:=#[t] }) (hx:ev σ x=.slice a n c)
  (ht:∀ w,(underlying t).run P w=.ok (.slice e) w):Runs P σ w o (.int .i64 c) w :=
 ⟨by rw [ho];rfl,by simp [execOp,ho,resolve,invoke,builtin,Builtin.cap_,hx,ht,goInt]⟩
theorem p_cap {x:AOd} {op:Op} (hc:wMl P .cap x op=true):OkP P op (wKo x):=by
 intro σA h v h' hr
 obtain ⟨y,t,e,rfl,d1,c2⟩:=wLn hc
 unfold wKo at hr
 split at hr <;> cases hr <;> rename_i hb
 ·refine ⟨rfl,fun μ σ hE=>⟨_,rfl,fun o w ho=>?_⟩⟩
  have g:=wAJ c2 hE;rw [hb] at g
  exact Runs.cap ho g (wAw d1)
 ·refine ⟨rfl,fun μ σ hE=>⟨_,rfl,fun o w ho=>?_⟩⟩
  have g:=wAJ c2 hE;rw [hb] at g
  obtain ⟨c,_,_,g⟩:=g
  exact Runs.cap ho g (wAw d1)
def wSb (b:Builtin) (x y:AOd):Op->Bool
 | .call c=>match c.callee with
  | .builtin b'=>(b' == b) && (match c.args.toList with
   | [x',y']=>wCR x x' && wCR y y'
   | _=>false)
  | _=>false
 | _=>false
theorem wOP {b:Builtin} {x y:AOd} {op:Op} (hc:wSb b x y op=true):∃ x' y' tys,op=.call { callee:=.builtin b,args:=#[x',y'],argTypes:=tys }/\wCR x x'=true/\wCR y y'=true:=by
 unfold wSb at hc
 split at hc
 ·rename_i c
  obtain ⟨ce,args,tys⟩:=c
  simp only at hc
  split at hc
  ·rename_i b'
   simp only [nA,beq_iff_eq] at hc
   obtain ⟨rfl,h2⟩:=hc
   split at h2
   ·rename_i x' y' h3
    simp only [nA] at h2
    refine ⟨x',y',tys,?_,h2.1,h2.2⟩
    congr 2
    exact nJ (by simpa using h3)
   ·cases h2
  ·cases hc
 ·cases hc
theorem p_min {x y:AOd} {op:Op} (hc:wSb .min x y op=true):OkP P op (wNp x y):=by
 intro σA h v h' hr
 obtain ⟨x',y',tys,rfl,c1,c2⟩:=wOP hc
 obtain ⟨hr2,rfl⟩:=wBs hr
 split at hr2
 ·rename_i a b e1 e2
  cases hr2
  refine ⟨rfl,fun μ σ hE=>⟨_,rfl,fun o w ho=>?_⟩⟩
  have g1:=wAJ c1 hE;rw [e1] at g1
  have g2:=wAJ c2 hE;rw [e2] at g2
  refine (Runs.min ho g1 g2).to ?_
  have:(match zlt b a with | true=>b | false=>a)=Min.min a b:=by
   rw [wHa,Int.min_def]
   by_cases hq:b < a
   ·simp [hq,Int.not_le.2 hq]
   ·simp [hq,Int.not_lt.1 hq]
  exact congrArg (no .i64) this.symm
 ·cases hr2
theorem p_max {x y:AOd} {op:Op} (hc:wSb .max x y op=true):OkP P op (wNq x y):=by
 intro σA h v h' hr
 obtain ⟨x',y',tys,rfl,c1,c2⟩:=wOP hc
 obtain ⟨hr2,rfl⟩:=wBs hr
 split at hr2
 ·rename_i a b e1 e2
  cases hr2
  refine ⟨rfl,fun μ σ hE=>⟨_,rfl,fun o w ho=>?_⟩⟩
  have g1:=wAJ c1 hE;rw [e1] at g1
  have g2:=wAJ c2 hE;rw [e2] at g2
  refine (Runs.max ho g1 g2).to ?_
  have:(match zlt a b with | true=>b | false=>a)=Max.max a b:=by
   rw [wHa,Int.max_def]
   by_cases hq:a < b
   ·simp [hq,Int.le_of_lt hq]
   ·by_cases hq2:a <= b
    ·have:a=b:=by omega
     simp [this]
    ·simp [hq,hq2]
  exact congrArg (no .i64) this.symm
 ·cases hr2
def OkL (C:Chk) (P:Program) (op:Op) (f:Tr AV->AH->Option (AV × AH)):Prop :=
 ∀ σA h v h',f σA h=some (v,h')->h'=h/\∀ μ σ w,EnvR μ σA σ->Sim C P μ h w->∃ cv,Rv μ v cv/\∀ (o:Oper),o.op=op->wHD P σ w o cv
theorem wEv {b:Pos} {l:List AV} (hr:wDa h b=some l) (S:Sim C P μ h w):∃ c vs,μ b=some c/\RvL μ l vs/\∀ w',Keep w w' Non->∀ j v,vs[j]?=some v->w'.cell? ⟨c.1,j,none⟩=some v:=by
 unfold wDa at hr
 split at hr
 ·rename_i B hB
  obtain ⟨c,h1,h2⟩:=S.at_ b B hB
  cases B <;> simp only [wLf] at hr <;> first | (cases hr;done) | cases hr
  ·obtain ⟨vs,h3,h4⟩:=h2
   exact ⟨c,vs,h1,h3,fun w' K j v hv=>(h4.non K).cell hv⟩
  ·obtain ⟨vs,h3,h4⟩:=h2
   refine ⟨c,vs,h1,h3,fun w' K j v hv=>?_⟩
   obtain ⟨cur,g1,g2,g3,g4,g5⟩:=RowAt.cells h4
   have g1':=(K.block _ (wAR g1) id).trans g1
   have:cur.toList[j]?=some v:=by
    rw [<- g5,kL] at hv
    split at hv
    ·exact hv
    ·cases hv
   simp only [World.cell?,g1']
   simpa using this
 ·cases hr
def wTD (P:Program) (x:AOd):Op->Bool
 | .load t y=>wPr P t false && wCR x y
 | _=>false
theorem l_ld {x:AOd} {op:Op} (hc:wTD P x op=true):OkL C P op (wPc x):=by
 intro σA h v h' hr
 unfold wTD at hc
 split at hc
 ·simp only [nA] at hc
  unfold wPc at hr
  split at hr
  ·rename_i b off hb
   split at hr
   ·rename_i l hl
    obtain ⟨hr2,rfl⟩:=wBs hr
    refine ⟨rfl,fun μ σ w hE S=>?_⟩
    obtain ⟨c,vs,h1,h2,h3⟩:=wEv hl S
    have g:=wAJ hc.2 hE;rw [hb] at g
    obtain ⟨c',g1,g2⟩:=g
    rw [h1] at g1;cases g1
    rw [wGb] at hr2
    obtain ⟨cv,g3,g4⟩:=wFL h2 hr2
    exact ⟨cv,g4,fun o ho w' K=>Runs.ld ho g2 (wEj hc.1) (h3 w' K _ _ g3)⟩
   ·cases hr
  ·cases hr
 ·cases hc
def wOQ (P:Program) (n:Nat) (x:AOd):Op->Bool
 | .load t y=>(wPr P t true && szT P t n) && wCR x y
 | _=>false
theorem l_ldA {n:Nat} {x:AOd} {op:Op} (hc:wOQ P n x op=true):OkL C P op (wIU n x):=by
 intro σA h v h' hr
 unfold wOQ at hc
 split at hc
 ·simp only [nA] at hc
  unfold wIU at hr
  split at hr
  ·rename_i b off hb
   split at hr
   ·rename_i l hl
    obtain ⟨hr2,rfl⟩:=wBs hr
    obtain ⟨r,hr3,rfl⟩:=wDb hr2
    refine ⟨rfl,fun μ σ w hE S=>?_⟩
    obtain ⟨c,vs,h1,h2,h3⟩:=wEv hl S
    have g:=wAJ hc.2 hE;rw [hb] at g
    obtain ⟨c',g1,g2⟩:=g
    rw [h1] at g1;cases g1
    obtain ⟨g3,g4⟩:=wFM hr3 h2
    refine ⟨_,⟨_,g3,rfl⟩,fun o ho w' K=>Runs.ldA ho g2 (wEj hc.1.1) (wDk hc.1.2) (by simp;omega) fun j u hu=>?_⟩
    exact h3 w' K _ _ (wFj rfl j u hu)
   ·cases hr
  ·cases hr
 ·cases hc
def OkE (C:Chk) (P:Program) (op:Op) (f:Tr AV->AH->Option (AV × AH)):Prop :=
 ∀ σA h v h',f σA h=some (v,h')->∀ μ σ w,EnvR μ σA σ->Sim C P μ h w->∀ (o:Oper),o.op=op->∃ μ' w' cv,Ext μ h.fl.nat w μ' w'/\Sim C P μ' h' w'/\Rv μ' v cv/\h'.fl=h.fl/\Runs P σ w o cv w'
def OkU (C:Chk) (P:Program) (op:Op) (f:Tr AV->AH->Option (AV × AH)):Prop :=
 ∀ σA h v h',f σA h=some (v,h')->∀ μ σ w,EnvR μ σA σ->Sim C P μ h w->∀ (o:Oper),o.op=op->∃ μ' w',Ext μ h.fl.nat w μ' w'/\Sim C P μ' h' w'/\v=u/\h'.fl=h.fl/\Does P σ w o w'
theorem OkP.toL {op:Op} {f:Tr AV->AH->Option (AV × AH)} (hp:OkP P op f):OkL C P op f:=by
 intro σA h v h' hr
 obtain ⟨h1,h2⟩:=hp σA h v h' hr
 exact ⟨h1,fun μ σ w hE _=>let ⟨cv,g1,g2⟩:=h2 μ σ hE;⟨cv,g1,fun o ho w' _=>g2 o w' ho⟩⟩
theorem OkL.toE {op:Op} {f:Tr AV->AH->Option (AV × AH)} (hp:OkL C P op f):OkE C P op f:=by
 intro σA h v h' hr μ σ w hE S o ho
 obtain ⟨rfl,h2⟩:=hp σA h v h' hr
 obtain ⟨cv,g1,g2⟩:=h2 μ σ w hE S
 exact ⟨μ,w,cv,Ext.refl μ _ w,S,g1,rfl,g2 o ho w (Keep.refl w _)⟩
theorem wFo {T:TypeId} {z:List AV} {cs:List Value} (S:Sim C P μ h w) (hz:RvL μ z cs):∃ μ',Ext μ h.fl.nat w μ' (w.alloc (.cells cs.toArray T))/\Sim C P μ' (h.push (.cells T z)) (w.alloc (.cells cs.toArray T))/\(h.push (.cells T z)).fl=h.fl/\μ' h.nx=some ⟨w.heap.size,0,g0⟩:=by
 have hle:=Mu.add_le (c:=⟨w.heap.size,0,g0⟩) (S.nx h.nx (nH _))
 obtain ⟨h1,h2,h3,h4⟩:=S.push (w':=w.alloc (.cells cs.toArray T)) (c:=⟨w.heap.size,0,g0⟩) (B:=.cells T z) (wBF w _) (nH _) (by rw [wId];exact Nat.lt_succ_self _) ⟨cs,hz.mono hle,wEC w cs T⟩
 exact ⟨_,h2,h1,h3,h4⟩
def wOR (P:Program) (T:Nat) (z:List AV):Op->Bool
 | .alloc t=>nD T t && zT P t z
 | _=>false
theorem e_new {T:Nat} {z:List AV} {op:Op} (hc:wOR P T z op=true):OkE C P op (wRG T z):=by
 intro σA h v h' hr μ σ w hE S o ho
 cases hr
 unfold wOR at hc
 split at hc
 ·simp only [nA] at hc
  have e:=nB hc.1
  subst e
  obtain ⟨i,zv,z1,z2,z3⟩:=wFN hc.2
  obtain ⟨μ',h1,h2,h3,h4⟩:=wFo (T:=T) S (z3 μ)
  refine ⟨μ',_,_,h1,h2,⟨_,h4,rfl⟩,h3,by rw [ho];rfl,?_⟩
  simp [execOp,ho,Instr.alloc,wDl z1 z2,newVar,newRow,newObj,Sem.run]
 ·cases hc
def wOS (T:Nat) (x:AOd):Op->Bool
 | .box t y=>nD T t && wCR x y
 | _=>false
theorem e_box {T:Nat} {x:AOd} {op:Op} (hc:wOS T x op=true):OkE C P op (wMd T x):=by
 intro σA h v h' hr μ σ w hE S o ho
 cases hr
 unfold wOS at hc
 split at hc
 ·simp only [nA] at hc
  have e:=nB hc.1
  subst e
  obtain ⟨vs,v1,v2⟩:=wGq (wAJ hc.2 hE)
  obtain ⟨μ',h1,h2,h3,h4⟩:=wFo (T:=T) S v1
  refine ⟨μ',_,_,h1,h2,⟨_,h4,rfl⟩,h3,by rw [ho];rfl,?_⟩
  simp [execOp,ho,Instr.box,newVar,newRow,newObj,v2,Sem.run]
 ·cases hc
theorem wRa (S:Sim C P μ h w):∃ μ',Ext μ h.fl.nat w μ' (w.alloc (.map #[] 0))/\Sim C P μ' (h.push .map0) (w.alloc (.map #[] 0))/\(h.push .map0).fl=h.fl/\μ' h.nx=some ⟨w.heap.size,0,g0⟩:=by
 obtain ⟨h1,h2,h3,h4⟩:=S.push (w':=w.alloc (.map #[] 0)) (c:=⟨w.heap.size,0,g0⟩) (B:=.map0) (wBF w _) (nH _) (by rw [wId];exact Nat.lt_succ_self _) ⟨0,heap_alloc_new w _⟩
 exact ⟨_,h2,h1,h3,h4⟩
def wOT:Op->Bool
 | .makeMap _ none=>true
 | _=>false
theorem e_mkm {op:Op} (hc:wOT op=true):OkE C P op wRH:=by
 intro σA h v h' hr μ σ w hE S o ho
 cases hr
 unfold wOT at hc
 split at hc
 ·obtain ⟨μ',h1,h2,h3,h4⟩:=wRa S
  refine ⟨μ',_,_,h1,h2,⟨_,h4,rfl⟩,h3,by rw [ho];rfl,?_⟩
  simp [execOp,ho,Instr.makeMap,newObj,Sem.run,Result.andThen]
 ·cases hc
theorem wFP {zc:Array Value} {n:Nat}:∀ c,((nT (c * zc.size)).map (zc[· % zc.size]!)).toList=(nP c zc.toList).flatten \/ False:=by
 intro c
 left
 induction c with
 | zero=>simp
 | succ c ih =>
  rw [kR,Array.toList_range] at ih ⊢
  rw [Nat.succ_mul,List.range_add,List.map_append,ih,List.replicate_succ',List.flatten_append]
  congr 1
  simp only [List.map_map,List.flatten_singleton]
  apply List.ext_getElem
  ·simp
  ·intro i h1 h2
   simp at h1
   simp [Nat.add_mul_mod_self_right,Nat.mod_eq_of_lt h1,Nat.add_comm (c * zc.size) i,h1]
def wOU (P:Program) (T sz by_:Nat) (z:List AV) (x y:AOd):Op->Bool
 | .makeSlice t x' y'=>wEb P t (fun d=>match d with | .slice e=>nD e T | _=>false) && (szT P T sz && (byT P T by_ && (zT P T z && (nD (len z) sz && (wCR x x' && wCR y y')))))
 | _=>false
theorem e_mks {T sz by_:Nat} {z:List AV} {x y:AOd} {op:Op} (hc:wOU P T sz by_ z x y op=true):OkE C P op (wHT T sz by_ z x y):=by
 intro σA h v h' hr μ σ w hE S o ho
 unfold wOU at hc
 split at hc
 ·rename_i t x' y'
  simp only [nA] at hc
  obtain ⟨c1,c2,c3,c4,c5,c6,c7⟩:=hc
  obtain ⟨d,d1,d2⟩:=wAq c1
  split at d2 <;> first | (cases d2;done) | skip
  have e:=nB d2
  subst e
  rename_i e
  obtain ⟨i,i1,i2⟩:=wGs c2
  obtain ⟨i',j1,j2⟩:=wGt c3
  obtain ⟨i'',zv,k1,k2,k3⟩:=wFN c4
  rw [i1] at j1 k1;cases j1;cases k1
  have hz:=nB c5
  unfold wHT at hr
  split at hr
  ·rename_i l c hl hcc
   obtain ⟨hb,hr⟩:=wBm hr
   cases hr
   simp only [nA,nL] at hb
   obtain ⟨⟨⟨b1,b2⟩,b3⟩,b4⟩:=hb
   have hx:=wAJ c6 hE;rw [wCN hl] at hx
   have hy:=wAJ c7 hE;rw [wCN hcc] at hy
   have hx:ev σ x'=.int .i64 (l:Int):=hx
   have hy:ev σ y'=.int .i64 (c:Int):=hy
   have zlen:zv.cells.size=sz:=by rw [<- hz,wEi,<- wDD (k3 μ)];simp
   have hrun:=run_makeSlice (P:=P) w t e i zv d1 i1 k2 .i64 .i64 (l:Int) (c:Int) (by omega) (by omega) (by rw [i2,ng];exact b2) (by rw [j2];have hb:=Int.ofNat_le.2 b3;rw [Int.natCast_mul] at hb;exact hb) (by omega)
   simp only [ng,i2] at hrun
   have hcells:(madeCells zv.cells (c * sz))=((nP c zv.cells.toList).flatten).toArray:=by
    apply nJ
    have:=wFP (zc:=zv.cells) (n:=0) c
    simp only [or_false] at this
    rw [zlen] at this
    show ((nT (c * sz)).map (zv.cells[· % zv.cells.size]!)).toList=_
    rw [zlen,this]
   rw [hcells] at hrun
   obtain ⟨μ',h1,h2,h3,h4⟩:=wFo (T:=e) S (wHZ (k3 μ) c)
   refine ⟨μ',_,_,h1,h2,⟨_,h4,b1,rfl⟩,h3,by rw [ho];rfl,?_⟩
   simp [execOp,ho,hx,hy,hrun,Result.andThen]
  ·cases hr
 ·cases hc
def wKE (P:Program) (T n:Nat) (z:List AV) (ps:List (Nat × Nat × AOd)):Op->Bool
 | .buildSlice t m qs=>nD m n && (wEb P t (fun d=>match d with | .slice e=>nD e T | _=>false) && (match P.info? T with
   | some i=>nu (n * i.size) 16777216 && (wKD (fun k=>some (k * i.size,i.size)) ps qs.toList && (match i.zero with
    | some v=>wPq z ((nt (n * i.size)).map fun k=>v.cells[k % v.cells.size]!)
    | none=>false))
   | none=>false))
 | _=>false
theorem wTE {T n:Nat} {z:List AV} {ps:List (Nat × Nat × AOd)} {op:Op} (hc:wKE P T n z ps op=true):OkE C P op (wEg T n z ps):=by
 intro σA h v h' hr μ σ w hE S o ho
 unfold wKE at hc
 split at hc
 ·rename_i t m qs
  simp only [nA] at hc
  obtain ⟨c1,c2,c3⟩:=hc
  have e:=nB c1
  subst e
  obtain ⟨d,d1,d2⟩:=wAq c2
  split at d2 <;> first | (cases d2;done) | skip
  have e:=nB d2
  subst e
  rename_i e
  split at c3
  ·rename_i i hi
   simp only [nA,nL] at c3
   obtain ⟨c3,c4,c5⟩:=c3
   split at c5
   ·rename_i zv hz
    unfold wEg at hr
    split at hr
    ·rename_i r hr3
     cases hr
     obtain ⟨R,r1,r2,r3⟩:=wHe hE hr3 c4 (wGN μ c5)
     have hf:=wDZ _ _ _ _ r1
     obtain ⟨μ',h1,h2,h3,h4⟩:=wFo (T:=e) S r2
     refine ⟨μ',_,_,h1,h2,⟨_,h4,nH _,rfl⟩,h3,by rw [ho];rfl,?_⟩
     have hs:∀ w,(sizeOf e).run P w=.ok i.size w:=fun w=>by simp [sizeOf,typeInfo,hi]
     have hn':¬ m * i.size > 2 ^ 24:=by omega
     have hq:(qs.map fun (p:Nat × Operand)=>(p.1,ev σ p.2)).toList=qs.toList.map fun (p:Nat × Operand)=>(p.1,ev σ p.2):=by simp
     by_cases h0:m * i.size=0
     ·rw [h0] at hf
      simp only [List.range_zero,nw] at hf
      have hr0:(nT 0).map (fun x=>(#[]:Array Value)[x % (#[]:Array Value).size]!)=#[]:=by rw [show (nT 0)=#[] from rfl,Array.map_empty]
      have hn0:¬ (0:Nat) > 2 ^ 24:=by decide
      simp only [execOp,ho,Instr.buildSlice,Sem.run_bind,wAw d1,hs,Result.andThen_ok,h0,if_neg hn0,if_true,Sem.run_pure,hq,hr0,hf]
      simp [newRow,newObj,Sem.run,Result.andThen]
     ·have hzs:(nT (m * i.size)).map (zv.cells[· % zv.cells.size]!)=((nt (m * i.size)).map fun k=>zv.cells[k % zv.cells.size]!).toArray:=by rw [<- kM,List.map_toArray]
      simp only [execOp,ho,Instr.buildSlice,Sem.run_bind,wAw d1,hs,wDl hi hz,Result.andThen_ok,if_neg hn',if_neg h0,Sem.run_pure,hq,hzs,hf]
      simp [newRow,newObj,Sem.run,Result.andThen]
    ·cases hr
   ·cases c5
  ·cases c3
 ·cases hc
end
end
end Go.KX
namespace Go.KX
noncomputable section
open Go.RowKit Go.KL
section
variable {C:Chk} {P:Program} {μ μ':Mu} {w w':World} {h h':AH} {σ:Env} {σA:Tr AV} {t e:TypeId} {o:Oper}
theorem wFp {b:Pos} {off:Nat} {vs:List AV} {VS:List Value} {c:Cl} (hr:setAt h b off vs=some h') (S:Sim C P μ h w) (hv:RvL μ vs VS) (h1:∀ v ∈ VS,one v=true) (hc:μ b=some c) :
  ∃ w',(storeCells ⟨c.1,off,none⟩ VS).run P w=.ok () w'/\Sim C P μ h' w'/\Ext μ h.fl.nat w μ w'/\h'.fl=h.fl:=by
 unfold setAt at hr
 split at hr
 ·rename_i T l hB
  split at hr
  ·rename_i l' hl
   obtain ⟨c',g1,vs0,g2,g3⟩:=S.at_ b _ hB
   rw [hc] at g1;cases g1
   obtain ⟨k1,k2⟩:=wJH hl g2 hv
   obtain ⟨w',q1,q2,q3,q4⟩:=wDI (P:=P) off VS 0 vs0 w g3 k1 h1
   obtain ⟨s1,s2,s3⟩:=S.put hr hB trivial hc q3 (B':=.cells T l') ⟨_,k2,q2⟩
   exact ⟨w',q1,s1,s2,s3⟩
  ·cases hr
 ·rename_i T sz l hB
  split at hr
  ·rename_i l' hl
   obtain ⟨c',g1,vs0,g2,g3⟩:=S.at_ b _ hB
   rw [hc] at g1;cases g1
   obtain ⟨k1,k2⟩:=wJH hl g2 hv
   obtain ⟨cur,r1,r2,r3,r4,r5⟩:=RowAt.cells g3
   have hB':Blk w c.1 T cur.toList:=by unfold Blk;rw [r1]
   have hcl:vs0.length <= cur.toList.length:=by rw [<- r5];simp;omega
   obtain ⟨w',q1,q2,q3,q4⟩:=wDI (P:=P) off VS 0 cur.toList w hB' (by omega) h1
   obtain ⟨s1,s2,s3⟩:=S.put hr hB trivial hc q3 (B':=.row T sz l') ⟨_,k2,.inr ⟨c.1,(wFb cur.toList (off + 0) VS).toArray,rfl,q2,by rw [wCq];exact r2,r3,by simp [wCq,r4],by
    rw [wCq,Nat.add_zero]
    show (wFb cur.toList off VS).take vs0.length=_
    rw [wJq _ _ _ _ k1,r5]⟩⟩
   exact ⟨w',q1,s1,s2,s3⟩
  ·cases hr
 ·cases hr
def c_st (P:Program) (n:Nat) (x y:AOd):Op->Bool
 | .store t x' y'=>szT P t n && (wCR x x' && wCR y y')
 | _=>false
theorem u_st {n:Nat} {x y:AOd} {op:Op} (hc:c_st P n x y op=true):OkU C P op (wQe n x y):=by
 intro σA h v h' hr μ σ w hE S o ho
 unfold c_st at hc
 split at hc
 ·rename_i t x' y'
  simp only [nA] at hc
  obtain ⟨c1,c2,c3⟩:=hc
  unfold wQe at hr
  split at hr
  ·rename_i b off hb
   split at hr
   ·rename_i hk
    simp only [nA] at hk
    split at hr
    ·rename_i h1 hs
     cases hr
     have g:=wAJ c2 hE;rw [hb] at g
     obtain ⟨c,g1,g2⟩:=g
     obtain ⟨VS,v1,v2⟩:=wGq (wAJ c3 hE)
     obtain ⟨w',q1,q2,q3,q4⟩:=wFp hs S v1 (wEP v1 hk.2) g1
     have hn:=nB hk.1
     have hlen:VS.length=n:=by rw [wDD v1,<- wEi,hn]
     refine ⟨μ,w',q3,q2,rfl,q4,by rw [ho];rfl,?_⟩
     simp [execOp,ho,Instr.storeAt,g2,Instr.sureAddr,storeVar,v2,wDk c1,hlen,q1]
    ·cases hr
   ·cases hr
  ·cases hr
 ·cases hc
theorem wJK {sz m:Nat} {a:AV} {l:List AV} {y:Value} (hr:slice h sz a=some (m,l)) (S:Sim C P μ h w) (hy:Rv μ a y) :
  ∃ A c VS,y=.slice A m c/\RvL μ l VS/\VS.length=m * sz/\(m=0 \/ ∃ ad,A=some ad/\∀ j u,VS[j]?=some u->w.cell? (ad.add j)=some u):=by
 have key:∀ (b:Pos) (off m:Nat) (c:Cl) (l0 r:List AV),μ b=some c->wDa h b=some l0->sub l0 off (m * sz)=some r->∃ VS,RvL μ r VS/\VS.length=m * sz/\∀ j u,VS[j]?=some u->w.cell? ((⟨c.1,off,none⟩:Addr).add j)=some u:=by
  intro b off m c l0 r hc hl hs
  obtain ⟨c',vs,h1,h2,h3⟩:=wEv hl S
  rw [hc] at h1;cases h1
  obtain ⟨g1,g2⟩:=wFM hs h2
  exact ⟨_,g1,by simp;omega,fun j u hu=>by rw [wFO];exact h3 w (Keep.refl w _) _ _ (wFj rfl j u hu)⟩
 unfold slice at hr
 split at hr
 ·cases hr
  have hy:y=.slice none 0 0:=hy
  exact ⟨none,0,[],hy,rfl,by simp,.inl rfl⟩
 ·cases hr
  obtain ⟨d,_,q,rfl⟩:=hy
  exact ⟨_,_,[],rfl,rfl,by simp,.inl rfl⟩
 ·split at hr
  ·rename_i l0 hl
   split at hr
   ·rename_i r hs
    cases hr
    obtain ⟨d,h1,_,rfl⟩:=hy
    obtain ⟨VS,v1,v2,v3⟩:=key _ _ _ _ _ _ h1 hl hs
    exact ⟨_,_,VS,rfl,v1,v2,.inr ⟨_,rfl,v3⟩⟩
   ·cases hr
  ·cases hr
 ·split at hr
  ·rename_i l0 hl
   split at hr
   ·rename_i r hs
    cases hr
    obtain ⟨d,h1,_,rfl⟩:=hy
    obtain ⟨VS,v1,v2,v3⟩:=key _ _ _ _ _ _ h1 hl hs
    exact ⟨_,_,VS,rfl,v1,v2,.inr ⟨_,rfl,v3⟩⟩
   ·cases hr
  ·cases hr
 ·cases hr
theorem wHf {A A2:Option Addr} {n c c2 ty:Nat} {inf:TypeInfo} (ht:P.underlying t=some (.slice e)) (hi:P.info? e=some inf) (hnc:n <= c):(Builtin.append_ #[t,t] ty #[.slice A n c,.slice A2 0 c2]).run P w=.ok (.slice A n c) w:=by
 have hs:∀ w,(sizeOf e).run P w=.ok inf.size w:=fun w=>by simp [sizeOf,typeInfo,hi]
 cases A <;> cases A2 <;> simp [Builtin.append_,wAw ht,hs,Builtin.lenOf,Builtin.firstCells,hnc,storeCells,loadCells,loadCellsFrom]
theorem wOV {T sz c:Nat} {l:List AV} {cs:List Value} {cur:Array Value} (S:Sim C P μ h w) (K:Keep w w' Non) (hl:RvL μ l cs) (hn:w'.heap[w.heap.size]?=some (.cells cur T (0,0))) (h1:cs.length <= c * sz) (h2:c <= maxLen) (h3:cur.size=c * sz) (h4:cur.toList.take cs.length=cs) :
  ∃ μ',Ext μ h.fl.nat w μ' w'/\Sim C P μ' (h.push (.row T sz l)) w'/\(h.push (.row T sz l)).fl=h.fl/\μ' h.nx=some ⟨w.heap.size,c,g0⟩:=by
 have hle:=Mu.add_le (c:=⟨w.heap.size,c,g0⟩) (S.nx h.nx (nH _))
 obtain ⟨q1,q2,q3,q4⟩:=S.push (w':=w') (c:=⟨w.heap.size,c,g0⟩) (B:=.row T sz l) K (nH _) (wAR hn) ⟨cs,hl.mono hle,.inr ⟨_,cur,rfl,hn,h1,h2,h3,h4⟩⟩
 exact ⟨_,q2,q1,q3,q4⟩
def wPu (P:Program) (T sz by_:Nat) (x y:AOd):Op->Bool
 | .call c=>match c.callee with
  | .builtin b=>(b == .append) && (match c.args.toList,c.argTypes.toList with
   | [x',y'],[t,t']=>nD t t' && (wEb P t (fun d=>match d with | .slice e=>nD e T | _=>false) && (wCR x x' && (wCR y y' && (szT P T sz && (byT P T by_ && (match P.info? T with
    | some i=>match i.zero with | some v=>nD v.cells.size sz && (nU 0 sz && nU 0 by_) | none=>false
    | none=>false))))))
   | _,_=>false)
  | _=>false
 | _=>false
theorem wPv {T sz by_:Nat} {x y:AOd} {op:Op} (hc:wPu P T sz by_ x y op=true) :
  ∃ x' y' t i z,op=.call { callee:=.builtin .append,args:=#[x',y'],argTypes:=#[t,t] }/\P.underlying t=some (.slice T)/\wCR x x'=true/\wCR y y'=true/\P.info? T=some i/\i.zero=some z/\i.size=sz/\i.bytes=by_/\z.cells.size=sz/\0 < sz/\0 < by_:=by
 unfold wPu at hc
 split at hc
 ·rename_i c
  obtain ⟨ce,args,tys⟩:=c
  simp only at hc
  split at hc
  ·rename_i b
   simp only [nA,beq_iff_eq] at hc
   obtain ⟨rfl,h2⟩:=hc
   split at h2
   ·rename_i x' y' t t' h3 h4
    simp only [nA] at h2
    obtain ⟨a1,a2,a3,a4,a5,a6,a7⟩:=h2
    have e:=nB a1
    subst e
    obtain ⟨d,d1,d2⟩:=wAq a2
    split at d2 <;> first | (cases d2;done) | skip
    have e:=nB d2
    subst e
    obtain ⟨i,i1,i2⟩:=wGs a5
    obtain ⟨j,j1,j2⟩:=wGt a6
    rw [i1] at j1;cases j1
    rw [i1] at a7
    simp only at a7
    split at a7
    ·rename_i z hz
     simp only [nA,nG] at a7
     refine ⟨x',y',t,i,z,?_,d1,a3,a4,i1,hz,i2,j2,nB a7.1,a7.2.1,a7.2.2⟩
     congr 2
     ·exact nJ (by simpa using h3)
     ·exact nJ (by simpa using h4)
    ·cases a7
   ·cases h2
  ·cases hc
 ·cases hc
theorem wTF (v:Value) (h1:one v=true):v.oneCell'=true:=by cases v <;> first | rfl | cases h1
theorem e_app {T sz by_:Nat} {x y:AOd} {op:Op} (hc:wPu P T sz by_ x y op=true):OkE C P op (wJt T sz by_ x y):=by
 intro σA h v h' hr μ σ w hE S o ho
 obtain ⟨x',y',t,i,z,rfl,ht,c1,c2,hi,hz,i2,j2,hzs,hsz,hby⟩:=wPv hc
 unfold wJt at hr
 split at hr
 ·rename_i m news hs
  obtain ⟨hones,hr'⟩:=wBm hr
  clear hr;have hr:=hr';clear hr'
  obtain ⟨A2,cc2,NS,e2,n1,n2,n3⟩:=wJK hs S (wAJ c2 hE)
  have hx:=wAJ c1 hE
  have h1:∀ u ∈ NS,u.oneCell'=true:=fun u hu=>wTF u (wEP n1 hones u hu)
  have fin:∀ {μ':Mu} {w':World} {cv:Value},Ext μ h.fl.nat w μ' w'->Sim C P μ' h' w'->Rv μ' v cv->h'.fl=h.fl->(Builtin.append_ #[t,t] o.type #[ev σ x',ev σ y']).run P w=.ok cv w' ->
    ∃ μ' w' cv,Ext μ h.fl.nat w μ' w'/\Sim C P μ' h' w'/\Rv μ' v cv/\h'.fl=h.fl/\Runs P σ w o cv w':=fun a b c d f =>
   ⟨_,_,_,a,b,c,d,by rw [ho];rfl,by simp [execOp,ho,resolve,invoke,builtin,f]⟩
  unfold app at hr
  split at hr
  ·have zero:∀ {A:Option Addr} {n c:Nat},ev σ x'=.slice A n c->n <= c->Rv μ v (.slice A n c)->h'=h->∃ μ' w' cv,Ext μ h.fl.nat w μ' w'/\Sim C P μ' h' w'/\Rv μ' v cv/\h'.fl=h.fl/\Runs P σ w o cv w':=by
    intro A n c hA hnc hv hh
    subst hh
    exact fin (Ext.refl μ _ w) S hv rfl (by rw [hA,e2];exact wHf ht hi hnc)
   split at hr <;> cases hr <;> rename_i hb <;> rw [hb] at hx
   ·have g:ev σ x'=.slice none 0 0:=hx
    exact zero g (nH _) rfl rfl
   ·obtain ⟨d,g1,g2,g3⟩:=hx
    exact zero g3 g2 ⟨d,g1,g2,rfl⟩ rfl
   ·obtain ⟨d,g1,g2,g3⟩:=hx
    exact zero g3 (by omega) ⟨d,g1,g2,rfl⟩ rfl
  ·rename_i m
   obtain ⟨ad,rfl,hcell⟩:∃ ad,A2=some ad/\∀ j u,NS[j]?=some u->w.cell? (ad.add j)=some u:=by
    rcases n3 with h0 | h0
    ·cases h0
    ·exact h0
   have maxb:(140737488355328:Nat) <= maxLen:=by decide
   have lenb:∀ n:Nat,n * by_ <= 140737488355328->n <= 140737488355328:=fun n hn=>nY (nz _ hby) hn
   split at hr
   ·rename_i hb
    rw [hb] at hx
    have hx:ev σ x'=.slice none 0 0:=hx
    obtain ⟨hble,hr'⟩:=wBm hr
    clear hr;have hr:=hr';clear hr'
    cases hr
    have hble:=nK hble
    obtain ⟨A',c',w',r1,r2,r3,r4⟩:=wDJ (P:=P) (w:=w) (A:=none) (c:=0) (n:=0) (cs:=[]) (ty:=o.type) (c2:=cc2) ht hi hz i2 hzs hsz (.inl ⟨rfl,rfl,rfl⟩) (by simp) n2 (.inr ⟨ad,rfl,hcell⟩) h1 (by rw [j2,Nat.zero_add];exact hble) (by omega)
    rcases r2 with ⟨_,_,q⟩ | ⟨b,cur,rfl,q1,q2,q3,q4,q5⟩
    ·exfalso
     have:([] ++ NS).length=0:=by rw [q];rfl
     rw [nV,n2] at this
     have:=Nat.mul_pos (Nat.succ_pos m) hsz
     omega
    ·have hb:w.heap.size <= b:=by
      rcases r4 b rfl with q | q
      ·cases q
      ·exact q
     have K:Keep w w' Non:=r3.weak fun i _ q=>by cases q
     rw [nV] at q2 q5
     have hle:=Mu.add_le (c:=⟨b,c',g0⟩) (S.nx h.nx (nH _))
     obtain ⟨s1,s2,s3,s4⟩:=S.push (w':=w') (c:=⟨b,c',g0⟩) (B:=.row T sz news) K hb (wAR q1) ⟨NS,n1.mono hle,.inr ⟨_,cur,rfl,q1,q2,q3,q4,q5⟩⟩
     refine fin s2 s1 ⟨_,s4,?_,?_⟩ s3 (by rw [hx,e2];exact r1)
     ·rw [n2] at q2
      have:=nb q2 hsz
      simpa using this
     ·simp
   ·rename_i b off n c hb
    rw [hb] at hx
    obtain ⟨d,g1,g2,g3⟩:=hx
    split at hr
    ·rename_i hle
     have hle:=nK hle
     split at hr
     ·rename_i h1' hset
      cases hr
      obtain ⟨w',q1,q2,q3,q4⟩:=wFp hset S n1 (wEP n1 hones) g1
      refine fin q3 q2 ⟨d,g1,hle,rfl⟩ q4 ?_
      rw [g3,e2]
      have hf:=run_firstCells_some (P:=P) w i.size (m + 1) ad (m + 1) cc2 NS (by rw [i2];exact n2) hcell
      rw [i2] at hf
      simp [Builtin.append_,wAw ht,sizeOf,typeInfo,hi,Builtin.lenOf,hle,hf,wFO,i2,q1]
     ·cases hr
    ·rename_i hlt
     obtain ⟨hble,hr'⟩:=wBm hr
     clear hr;have hr:=hr';clear hr'
     have hble:=nK hble
     split at hr
     ·rename_i nn olds hold
      cases hr
      have hgt:c < n + (m + 1):=by
       rcases nv c (n + (m + 1)) with q | q
       ·exact q
       ·have q':nu (n + (m + 1)) c=true:=by rw [nL];exact q
        rw [q'] at hlt;cases hlt
      obtain ⟨A1,cc1,OS,k1,k2,k3,k4⟩:=wJK hold S (show Rv μ (.sl b off n c) _ from ⟨d,g1,g2,rfl⟩)
      cases k1
      have hlen:=lenb _ hble
      have olds':∀ j v,OS[j]?=some v->w.cell? ((⟨d.1,off,none⟩:Addr).add j)=some v:=by
       rcases k4 with q | ⟨ad',q1,q2⟩
       ·intro j v hv
        have hnil:OS=[]:=nW (by rw [k3,q];simp)
        rw [hnil] at hv
        simp at hv
       ·cases q1;exact q2
      have hr:=run_append_grow (P:=P) w t o.type T i z ht hi hz ⟨d.1,off,none⟩ n c OS (by rw [i2];exact k3) olds' ad (m + 1) cc2 NS (by rw [i2];exact n2) hcell hgt (by omega) (growslice_fits hgt (by rw [j2];exact hble))
      have hge:=grownCap_ge w (n + (m + 1)) c T
      have hcm:grownCap w (n + (m + 1)) c T <= maxLen:=grownCap_le_maxLen w (n + (m + 1)) c T (by omega)
      have hlen2:(OS ++ NS).length=(n + (m + 1)) * sz:=by rw [np,k3,n2,kC]
      obtain ⟨μ',s1,s2,s3,s4⟩:=wOV (T:=T) (sz:=sz) (c:=grownCap w (n + (m + 1)) c T) (w':=w.drew.alloc (.cells (OS.toArray ++ NS.toArray ++ Builtin.zeroCells z.cells (grownCap w (n + (m + 1)) c T - (n + (m + 1)))) T)) (cur:=OS.toArray ++ NS.toArray ++ Builtin.zeroCells z.cells (grownCap w (n + (m + 1)) c T - (n + (m + 1)))) S
       ((Keep.drew w).non (wBF w.drew _)) (wEO k2 n1) (heap_alloc_new w.drew _) (by rw [hlen2];exact kG _ hge) hcm
       (by
        simp only [kQ,kP,size_zeroCells,hzs,k3,n2,<- kC]
        congr 1
        omega)
       (by simp only [kJ,nh];rw [<- nh];exact List.take_left)
      refine fin s1 s2 ⟨_,s4,?_,?_⟩ s3 (by rw [g3,e2];exact hr)
      ·simpa using hge
      ·simp
     ·cases hr
   ·rename_i b eo co n hb
    rw [hb] at hx
    obtain ⟨d,g1,g2,g3⟩:=hx
    split at hr
    ·rename_i T' sz' l hB
     split at hr
     ·rename_i hin
      simp only [nA] at hin
      obtain ⟨p1,p2,p3,p4⟩:=hin
      have p1:=nK p1
      have p2:=nB p2
      have p3:=nB p3
      have p4:=nB p4
      subst p2 p3 p4
      split at hr
      ·rename_i h1' hset
       cases hr
       obtain ⟨d',k1,OS,k2,k3⟩:=S.at_ b _ hB
       rw [g1] at k1;cases k1
       obtain ⟨cur,r1,r2,_⟩:=RowAt.cells k3
       have hle:n + (m + 1) <= d.2:=by
        rw [wEi,<- wDD k2] at p1
        exact nb (nY p1 r2) hsz
       obtain ⟨w',q1,q2,q3,q4⟩:=wFp hset S n1 (wEP n1 hones) g1
       refine fin q3 q2 ⟨d,g1,by omega,rfl⟩ q4 ?_
       rw [g3,e2]
       have hf:=run_firstCells_some (P:=P) w i.size (m + 1) ad (m + 1) cc2 NS (by rw [i2];exact n2) hcell
       rw [i2] at hf
       simp [Builtin.append_,wAw ht,sizeOf,typeInfo,hi,Builtin.lenOf,hle,hf,wFO,i2,q1]
      ·cases hr
     obtain ⟨hcond,hr'⟩:=wBm hr
     clear hr;have hr:=hr';clear hr'
     simp only [nA] at hcond
     obtain ⟨⟨⟨⟨⟨q1,q2⟩,q3⟩,q4⟩,q5⟩,q6⟩:=hcond
     have q1:=nB q1
     have q2:=nB q2
     have q3:=nB q3
     have q4:=nB q4
     have q5:=nB q5
     have hble:=nK q6
     subst q1 q2 q3 q4
     split at hr
     ·rename_i h1' hput
      cases hr
      obtain ⟨d',k1,OS,k2,k3⟩:=S.at_ b _ hB
      rw [g1] at k1;cases k1
      have hol:OS.length=n * sz:=by rw [wDD k2,<- wEi,<- q5]
      obtain ⟨A',c',w',r1,r2,r3,r4⟩:=wDJ (P:=P) (w:=w) (A:=some ⟨d.1,0,none⟩) (c:=d.2) (n:=n) (cs:=OS) (ty:=o.type) (c2:=cc2) ht hi hz i2 hzs hsz k3 hol n2 (.inr ⟨ad,rfl,hcell⟩) h1 (by rw [j2];exact hble) (by omega)
      rcases r2 with ⟨_,_,q⟩ | ⟨b',cur,rfl,p1,p2,p3,p4,p5⟩
      ·exfalso
       have:(OS ++ NS).length=0:=by rw [q];rfl
       rw [np,n2] at this
       have:=Nat.mul_pos (Nat.succ_pos m) hsz
       omega
      ·have hb':b'=d.1 \/ w.heap.size <= b':=by
        rcases r4 b' rfl with q | q
        ·cases q;exact .inl rfl
        ·exact .inr q
       have K:Keep w w' (·=d.1):=r3.weak fun i _ q=>by cases q;rfl
       have hle:=Mu.add_le (c:=⟨b',c',g0⟩) (S.nx h.nx (nH _))
       have hnx:h.nx=h.nx:=rfl
       obtain ⟨s1,s2,s3,s4⟩:=S.move (w':=w') (d:=⟨b',c',g0⟩) (B':=.row T sz (l ++ news)) hput hB trivial g1 K hb' (wAR p1) ⟨OS ++ NS,(wEO k2 n1).mono hle,.inr ⟨_,cur,rfl,p1,p2,p3,p4,p5⟩⟩
       refine fin s2 s1 ⟨_,s4,?_,?_⟩ s3 (by rw [g3,e2];simpa using r1)
       ·rw [np,hol,n2,<- kC] at p2
        have:=nb p2 hsz
        simpa using this
       ·simp
     ·cases hr
    ·cases hr
   ·cases hr
 ·cases hr
def wRb (P:Program) (sz:Nat) (x y:AOd):Op->Bool
 | .call c=>match c.callee with
  | .builtin b=>(b == .copy) && (match c.args.toList,c.argTypes.toList with
   | [x',y'],t :: _=>wEb P t (fun d=>match d with | .slice e=>szT P e sz | _=>false) && (wCR x x' && wCR y y')
   | _,_=>false)
  | _=>false
 | _=>false
theorem e_cpy {sz:Nat} {x y:AOd} {op:Op} (hc:wRb P sz x y op=true):OkE C P op (wJu sz x y):=by
 intro σA h v h' hr μ σ w hE S o ho
 unfold wRb at hc
 split at hc
 ·rename_i c
  obtain ⟨ce,args,tys⟩:=c
  simp only at hc
  split at hc
  ·rename_i b
   simp only [nA,beq_iff_eq] at hc
   obtain ⟨rfl,h2⟩:=hc
   split at h2
   ·rename_i x' y' t ts h3 h4
    simp only [nA] at h2
    obtain ⟨a1,a2,a3⟩:=h2
    obtain ⟨d,d1,d2⟩:=wAq a1
    split at d2 <;> first | (cases d2;done) | skip
    rename_i e
    have ea:args=#[x',y']:=nJ (by simpa using h3)
    have et:tys[0]?=some t:=by rw [<- kD,h4];rfl
    unfold wJu at hr
    split at hr
    ·rename_i b off n cc m news hx hs
     split at hr
     ·rename_i vs hsub
      obtain ⟨hones,hr'⟩:=wBm hr
      clear hr;have hr:=hr';clear hr'
      split at hr
      ·rename_i h1' hset
       cases hr
       have g:=wAJ a2 hE;rw [hx] at g
       obtain ⟨c0,g1,_,g3⟩:=g
       obtain ⟨A2,cc2,NS,e2,n1,n2,n3⟩:=wJK hs S (wAJ a3 hE)
       generalize hk:(if nu m n=true then m else n)=k at hsub ⊢
       have hmin:Nat.min m n=k:=by
        rw [<- hk]
        by_cases q:m <= n
        ·rw [if_pos (by rw [nL];exact q)];exact Nat.min_eq_left q
        ·rw [if_neg (by rw [nL];exact q)];exact Nat.min_eq_right (by omega)
       obtain ⟨k1,k2⟩:=wFM hsub n1
       rw [List.drop_zero] at k1
       obtain ⟨w',q1,q2,q3,q4⟩:=wFp hset S k1 (wEP k1 hones) g1
       refine ⟨μ,w',_,q3,q2,rfl,q4,by rw [ho];rfl,?_⟩
       have hf:∀ (w1:World),w1=w->(Builtin.firstCells sz k (.slice A2 m cc2)).run P w1=.ok (NS.take (k * sz)).toArray w1:=by
        intro w1 hw1
        subst hw1
        cases A2 with
        | none =>
         have hm:m=0:=by
          rcases n3 with q | ⟨_,q,_⟩
          ·exact q
          ·cases q
         have hN:NS=[]:=nW (by rw [n2,hm];simp)
         subst hN
         simp [Builtin.firstCells]
        | some ad =>
         have hcell:∀ j u,(NS.take (k * sz))[j]?=some u->w1.cell? (ad.add j)=some u:=by
          intro j u hu
          rw [kL] at hu
          split at hu
          ·rcases n3 with q | ⟨ad',q,q'⟩
           ·have hN:NS=[]:=nW (by rw [n2,q];simp)
            subst hN;simp at hu
           ·cases q;exact q' j u hu
          ·cases hu
         exact run_firstCells_some (P:=P) w1 sz k ad m cc2 (NS.take (k * sz)) (by rw [List.length_take];omega) hcell
       have hs2:=wDk d2
       simp [execOp,ho,ea,et,resolve,invoke,builtin,Builtin.copy_,wAw d1,g3,e2,Builtin.lenOf,hmin,hs2,hf w rfl,q1,goInt,Result.andThen]
      ·cases hr
     ·cases hr
    ·cases hr
   ·cases h2
  ·cases hc
 ·cases hc
def wRc (P:Program) (z:List AV) (x:AOd):Op->Bool
 | .call c=>match c.callee with
  | .builtin b=>(b == .clear) && (match c.args.toList,c.argTypes.toList with
   | [x'],[t]=>wEb P t (fun d=>match d with | .slice e=>zT P e z | _=>false) && wCR x x'
   | _,_=>false)
  | _=>false
 | _=>false
theorem wDs {zc:Array Value} (c:Nat):(Builtin.zeroCells zc c).toList=(nP c zc.toList).flatten:=by
 have:=wFP (zc:=zc) (n:=0) c
 simp only [or_false] at this
 exact this
def wRd (P:Program) (T sz by_:Nat) (z:List AV) (x y:AOd):Op->Bool
 | .call c=>match c.callee with
  | .builtin b=>(b == .append) && (match c.args.toList,c.argTypes.toList with
   | [x',y'],[t,t']=>wEb P t (fun d=>match d with | .slice e=>nD e T | _=>false) && (wEb P t' (fun d=>match d with | .int _=>true | _=>false) && (wCR x x' && (wCR y y' && (szT P T sz && (byT P T by_ && (zT P T z && (nD (len z) sz && (nU 0 sz && nU 0 by_))))))))
   | _,_=>false)
  | _=>false
 | _=>false
theorem e_apz {T sz by_:Nat} {z:List AV} {x y:AOd} {op:Op} (hc:wRd P T sz by_ z x y op=true):OkE C P op (wJy T sz by_ z x y):=by
 intro σA h v h' hr μ σ w hE S o ho
 unfold wRd at hc
 split at hc <;> first | (cases hc;done) | skip
 rename_i c
 obtain ⟨ce,args,tys⟩:=c
 simp only at hc
 split at hc <;> first | (cases hc;done) | skip
 rename_i b
 simp only [nA,beq_iff_eq] at hc
 obtain ⟨rfl,h2⟩:=hc
 split at h2 <;> first | (cases h2;done) | skip
 rename_i x' y' t t' h3 h4
 simp only [nA] at h2
 obtain ⟨a1,a2,a3,a4,a5,a6,a7,a8,a9,a10⟩:=h2
 have hargs:args=#[x',y']:=nJ (by simpa using h3)
 have htys:tys=#[t,t']:=nJ (by simpa using h4)
 subst hargs htys
 obtain ⟨d,d1,d2⟩:=wAq a1
 split at d2 <;> first | (cases d2;done) | skip
 have e:=nB d2
 subst e
 rename_i e
 obtain ⟨dn,n1,n2⟩:=wAq a2
 split at n2 <;> first | (cases n2;done) | skip
 rename_i kn
 obtain ⟨i,i1,i2⟩:=wGs a5
 obtain ⟨i',j1,j2⟩:=wGt a6
 obtain ⟨i'',zv,k1,k2,k3⟩:=wFN a7
 rw [i1] at j1 k1;cases j1;cases k1
 have hz:=nB a8
 have hsz:0 < sz:=by simpa [nG] using a9
 have hx:=wAJ a3 hE
 have hy:=wAJ a4 hE
 have fin:∀ {μ':Mu} {w':World} {cv:Value},Ext μ h.fl.nat w μ' w'->Sim C P μ' h' w'->Rv μ' v cv->h'.fl=h.fl->(Builtin.append_ #[t,t'] o.type #[ev σ x',ev σ y']).run P w=.ok cv w' ->
   ∃ μ' w' cv,Ext μ h.fl.nat w μ' w'/\Sim C P μ' h' w'/\Rv μ' v cv/\h'.fl=h.fl/\Runs P σ w o cv w':=fun a b c d f =>
  ⟨_,_,_,a,b,c,d,by rw [ho];rfl,by simp [execOp,ho,resolve,invoke,builtin,f]⟩
 have zlen:zv.cells.size=sz:=by rw [<- hz,wEi,<- wDD (k3 μ)];simp
 unfold wJy at hr
 split at hr
 ·rename_i nn hxs hn
  rw [hxs] at hx
  rw [wCN hn] at hy
  have hx:ev σ x'=.slice none 0 0:=hx
  have hy:ev σ y'=.int .i64 (nn:Int):=hy
  cases nn with
  | zero =>
   cases hr
   refine fin (Ext.refl μ _ w) S rfl rfl ?_
   rw [hx,hy]
   simp [Builtin.append_,run_underlying d1,run_underlying n1,sizeOf,typeInfo,i1,asInt,asIntOf,IntKind.wrap_i64]
  | succ m =>
   obtain ⟨hble,hr⟩:=wBm hr
   have hble:=nK hble
   cases hr
   have hby:0 < by_:=by simpa [nG] using a10
   have hnb:m + 1 <= 140737488355328:=nY (nz _ hby) hble
   have hrun:=Go.Lib.run_append_nil_zeros (P:=P) w t t' o.type e i zv .i64 kn d1 n1 i1 k2 (m + 1) (by omega) (by rw [i2];exact hsz) (by omega) (by rw [j2];omega)
   have hge:=grownCap_ge w (m + 1) 0 e
   have maxb:(140737488355328:Nat) <= maxLen:=by decide
   have hcm:grownCap w (m + 1) 0 e <= maxLen:=grownCap_le_maxLen w (m + 1) 0 e (by omega)
   have hcs:((nP (m + 1) zv.cells.toList).flatten).length=(m + 1) * sz:=by rw [<- wDs];simp [size_zeroCells,zlen]
   obtain ⟨μ',s1,s2,s3,s4⟩:=wOV (T:=e) (sz:=sz) (c:=grownCap w (m + 1) 0 e) (w':=w.drew.alloc (.cells (Builtin.zeroCells zv.cells (m + 1) ++ Builtin.zeroCells zv.cells (grownCap w (m + 1) 0 e - (m + 1))) e)) (cur:=Builtin.zeroCells zv.cells (m + 1) ++ Builtin.zeroCells zv.cells (grownCap w (m + 1) 0 e - (m + 1))) S
    ((Keep.drew w).non (wBF w.drew _)) (wHZ (k3 μ) (m + 1)) (heap_alloc_new w.drew _) (by rw [hcs];exact kG _ hge) hcm
    (by
     simp only [kQ,size_zeroCells,zlen,<- kC]
     congr 1
     omega)
    (by
     rw [kJ,wDs]
     exact List.take_left)
   refine fin s1 s2 ⟨_,s4,?_,?_⟩ s3 (by rw [hx,hy];exact hrun)
   ·simpa using hge
   ·simp
 ·cases hr
theorem e_clr {z:List AV} {x:AOd} {op:Op} (hc:wRc P z x op=true):OkE C P op (wJv z x):=by
 intro σA h v h' hr μ σ w hE S o ho
 unfold wRc at hc
 split at hc
 ·rename_i c
  obtain ⟨ce,args,tys⟩:=c
  simp only at hc
  split at hc
  ·rename_i b
   simp only [nA,beq_iff_eq] at hc
   obtain ⟨rfl,h2⟩:=hc
   split at h2
   ·rename_i x' t h3 h4
    simp only [nA] at h2
    obtain ⟨a1,a2⟩:=h2
    obtain ⟨d,d1,d2⟩:=wAq a1
    split at d2 <;> first | (cases d2;done) | skip
    rename_i e
    have ea:args=#[x']:=nJ (by simpa using h3)
    have et:tys=#[t]:=nJ (by simpa using h4)
    subst ea et
    have hx:=wAJ a2 hE
    obtain ⟨i,zv,z1,z2,z3⟩:=wFN d2
    have zero:∀ {A:Option Addr} {c:Nat},ev σ x'=.slice A 0 c->v=u->h'=h->∃ μ' w' cv,Ext μ h.fl.nat w μ' w'/\Sim C P μ' h' w'/\Rv μ' v cv/\h'.fl=h.fl/\Runs P σ w o cv w':=by
     intro A c hA hv hh
     subst hv hh
     refine ⟨μ,w,undef,Ext.refl μ _ w,S,wOB μ,rfl,by rw [ho];rfl,?_⟩
     cases A <;> simp [execOp,ho,resolve,invoke,builtin,Builtin.clear_,hA,wAw d1,undef]
    have full:∀ {b:Pos} {c:Cl} {off n cap:Nat},μ b=some c->ev σ x'=.slice (some ⟨c.1,off,none⟩) n cap->clr h z b off n=some (v,h')->∃ μ' w' cv,Ext μ h.fl.nat w μ' w'/\Sim C P μ' h' w'/\Rv μ' v cv/\h'.fl=h.fl/\Runs P σ w o cv w':=by
     intro b c off n cap hb hA hr
     unfold clr at hr
     split at hr
     ·cases hr;exact zero hA rfl rfl
     ·rename_i n
      obtain ⟨hones,hr'⟩:=wBm hr
      split at hr'
      ·rename_i h1' hset
       cases hr'
       have k1:=wHZ (z3 μ) (n + 1)
       have k2:∀ v ∈ (nP (n + 1) zv.cells.toList).flatten,one v=true:=by
        intro v hv
        simp only [List.mem_flatten,List.mem_replicate] at hv
        obtain ⟨l,⟨_,rfl⟩,hv⟩:=hv
        exact wEP (z3 μ) hones v hv
       obtain ⟨w',q1,q2,q3,q4⟩:=wFp hset S k1 k2 hb
       refine ⟨μ,w',undef,q3,q2,wOB μ,q4,by rw [ho];rfl,?_⟩
       rw [<- wDs] at q1
       simp [execOp,ho,resolve,invoke,builtin,Builtin.clear_,hA,wAw d1,wDl z1 z2,q1,undef,Result.andThen]
      ·cases hr'
    unfold wJv at hr
    split at hr
    ·rename_i hb;rw [hb] at hx;obtain ⟨c,g1,_,g3⟩:=hx;exact full g1 g3 hr
    ·rename_i hb;rw [hb] at hx;obtain ⟨c,g1,_,g3⟩:=hx;exact full g1 g3 hr
    ·rename_i hb;rw [hb] at hx;cases hr;obtain ⟨c,g1,q,g3⟩:=hx;exact zero g3 rfl rfl
    ·rename_i hb;rw [hb] at hx;cases hr;have hx:ev σ x'=.slice none 0 0:=hx;exact zero hx rfl rfl
    ·cases hr
   ·cases h2
  ·cases hc
 ·cases hc
end
end
end Go.KX
namespace Go.KX
noncomputable section
open Go.RowKit Go.KL
section
variable {C:Chk} {P:Program} {μ μ':Mu} {w w':World} {h h':AH} {σ:Env} {σA:Tr AV} {t e:TypeId} {o:Oper} {K:Type} [DecidableEq K]
def wPg (P:Program) (two:Bool) (k:IntKind) (kt:TypeId):Bool:=match two with
 | false=>wEb P kt fun d=>match wOH d with | some k'=>keq k k' | none=>false
 | true=>(!P.stoodInHeld kt) && wEb P kt fun d=>match d with
  | .struct fs=>match fs.toList with
   | [f, g] => nD f.type g.type && (nD f.offset 0 && (nD g.offset 1 && ((f.name != "_") && ((g.name != "_") && wEb P f.type fun d => match wOH d with | some k' => keq k k' | none => false))))
   | _=>false
  | _=>false
theorem keyI {k:IntKind} {kt:TypeId} (hc:wPg P false k kt=true):KeyR P kt (fun n:Int=>no k n):=by
 obtain ⟨d,d1,d2⟩:=wAq hc
 cases d <;> first | (cases d2;done) | skip
 have:=wBp d2
 subst this
 exact KeyR.ofInt d1
theorem wMm {k:IntKind} {kt:TypeId} (hc:wPg P true k kt=true):KeyR P kt (mk2 k):=by
 simp only [wPg,nA,nX] at hc
 obtain ⟨c0,c1⟩:=hc
 obtain ⟨d,d1,d2⟩:=wAq c1
 split at d2
 ·rename_i fs
  split at d2
  ·rename_i f g hfs
   simp only [nA] at d2
   obtain ⟨a1,a2,a3,a4,a5,a6⟩:=d2
   obtain ⟨di,i1,i2⟩:=wAq a6
   cases di <;> first | (cases i2;done) | skip
   have ek:=wBp i2
   subst ek
   have efs:fs=#[f,g]:=nJ (by simpa using hfs)
   subst efs
   have T:Two P kt f.type f g k:=⟨d1,rfl,nB a2,by simpa using a4,(nB a1).symm,nB a3,by simpa using a5,i1,fun w=>wHb i1 w,c0⟩
   exact T.keyR (mk2 k) (·.1) (·.2) (fun _=>rfl) fun x y h1 h2=>Prod.ext h1 h2
  ·cases d2
 ·cases d2
theorem mrI {l:List (Int × AV)} {tt:List (Int × Value)} (hm:MR μ l tt) (n:Int):(wMc l n=none/\wMZ tt n=none) \/ ∃ a v,wMc l n=some a/\wMZ tt n=some v/\Rv μ a v:=by
 induction l generalizing tt with
 | nil=>cases tt with
  | nil=>exact .inl ⟨rfl,rfl⟩
  | cons q tt=>have:=hm.1;simp at this
 | cons p l ih =>
  cases tt with
  | nil=>have:=hm.1;simp at this
  | cons q tt =>
   obtain ⟨a,x⟩:=p
   obtain ⟨b,v⟩:=q
   obtain ⟨h1,h2⟩:=hm
   simp only [nI,nE] at h1
   obtain ⟨v',ws,g1,g2,g3⟩:=h2
   simp only [nI,nE] at g3
   obtain ⟨rfl,rfl⟩:=g3
   obtain ⟨rfl,h1⟩:=h1
   simp only [wMc,wMZ]
   by_cases e:n=a
   ·right;exact ⟨x,v,by simp [wEQ,e],by simp [e],g1⟩
   ·have:=ih (tt:=tt) ⟨h1,g2⟩
    simpa [wEQ,e] using this
theorem wRe {l:List (Int × AV)} {tt:List (Int × Value)} (hm:MR μ l tt) (n:Int) {a:AV} {v:Value} (hv:Rv μ a v):MR μ (wNY l n a) (mput tt n v):=by
 induction l generalizing tt with
 | nil=>cases tt with
  | nil=>exact ⟨rfl,wBl hv wHY⟩
  | cons q tt=>have:=hm.1;simp at this
 | cons p l ih =>
  cases tt with
  | nil=>have:=hm.1;simp at this
  | cons q tt =>
   obtain ⟨b,x⟩:=p
   obtain ⟨b',v0⟩:=q
   obtain ⟨h1,h2⟩:=hm
   simp only [nI,nE] at h1
   obtain ⟨v',ws,g1,g2,g3⟩:=h2
   simp only [nI,nE] at g3
   obtain ⟨rfl,rfl⟩:=g3
   obtain ⟨rfl,h1⟩:=h1
   simp only [wNY,mput,wEQ]
   by_cases e:n=b
   ·simp only [e,decide_true,if_true]
    exact ⟨by simp [h1],wBl hv g2⟩
   ·have:=ih (tt:=tt) ⟨h1,g2⟩
    simp only [e,decide_false,if_false]
    exact ⟨by simp [this.1],wBl g1 this.2⟩
theorem wRf {l:List (Int × AV)} {tt:List (Int × Value)} (hm:MR μ l tt) (n:Int):MR μ (wNa l n) (mdel tt n):=by
 induction l generalizing tt with
 | nil=>cases tt with
  | nil=>exact ⟨rfl,rfl⟩
  | cons q tt=>have:=hm.1;simp at this
 | cons p l ih =>
  cases tt with
  | nil=>have:=hm.1;simp at this
  | cons q tt =>
   obtain ⟨b,x⟩:=p
   obtain ⟨b',v0⟩:=q
   obtain ⟨h1,h2⟩:=hm
   simp only [nI,nE] at h1
   obtain ⟨v',ws,g1,g2,g3⟩:=h2
   simp only [nI,nE] at g3
   obtain ⟨rfl,rfl⟩:=g3
   obtain ⟨rfl,h1⟩:=h1
   simp only [wNa,mdel,wEQ]
   by_cases e:n=b
   ·simp only [e,decide_true,if_true]
    exact ⟨h1,g2⟩
   ·have:=ih (tt:=tt) ⟨h1,g2⟩
    simp only [e,decide_false,if_false]
    exact ⟨by simp [this.1],wBl g1 this.2⟩
theorem z2 (x y a b:Int):(zeq x a && zeq y b)=decide ((x,y)=(a,b)):=by
 rw [wEQ,wEQ]
 by_cases h1:x=a <;> by_cases h2:y=b <;> simp [h1,h2]
theorem mr2 {l:List ((Int × Int) × AV)} {tt:List ((Int × Int) × Value)} (hm:MR μ l tt) (x y:Int):(wMb l x y=none/\wMZ tt (x,y)=none) \/ ∃ a v,wMb l x y=some a/\wMZ tt (x,y)=some v/\Rv μ a v:=by
 induction l generalizing tt with
 | nil=>cases tt with
  | nil=>exact .inl ⟨rfl,rfl⟩
  | cons q tt=>have:=hm.1;simp at this
 | cons p l ih =>
  cases tt with
  | nil=>have:=hm.1;simp at this
  | cons q tt =>
   obtain ⟨⟨a,b⟩,x0⟩:=p
   obtain ⟨b',v⟩:=q
   obtain ⟨h1,h2⟩:=hm
   simp only [nI,nE] at h1
   obtain ⟨v',ws,g1,g2,g3⟩:=h2
   simp only [nI,nE] at g3
   obtain ⟨rfl,rfl⟩:=g3
   obtain ⟨rfl,h1⟩:=h1
   simp only [wMb,wMZ,z2]
   by_cases e:(x,y)=(a,b)
   ·right;exact ⟨x0,v,by simp only [e,decide_true],by simp only [e,if_true],g1⟩
   ·have:=ih (tt:=tt) ⟨h1,g2⟩
    simp only [e,decide_false,if_false]
    exact this
theorem wRg {l:List ((Int × Int) × AV)} {tt:List ((Int × Int) × Value)} (hm:MR μ l tt) (x y:Int) {a:AV} {v:Value} (hv:Rv μ a v):MR μ (wNX l x y a) (mput tt (x,y) v):=by
 induction l generalizing tt with
 | nil=>cases tt with
  | nil=>exact ⟨rfl,wBl hv wHY⟩
  | cons q tt=>have:=hm.1;simp at this
 | cons p l ih =>
  cases tt with
  | nil=>have:=hm.1;simp at this
  | cons q tt =>
   obtain ⟨⟨b1,b2⟩,x0⟩:=p
   obtain ⟨b',v0⟩:=q
   obtain ⟨h1,h2⟩:=hm
   simp only [nI,nE] at h1
   obtain ⟨v',ws,g1,g2,g3⟩:=h2
   simp only [nI,nE] at g3
   obtain ⟨rfl,rfl⟩:=g3
   obtain ⟨rfl,h1⟩:=h1
   simp only [wNX,mput,z2]
   by_cases e:(x,y)=(b1,b2)
   ·simp only [e,decide_true,if_true]
    exact ⟨by simp [h1],wBl hv g2⟩
   ·have:=ih (tt:=tt) ⟨h1,g2⟩
    simp only [e,decide_false,if_false]
    exact ⟨by simp [this.1],wBl g1 this.2⟩
theorem wRh {l:List ((Int × Int) × AV)} {tt:List ((Int × Int) × Value)} (hm:MR μ l tt) (x y:Int):MR μ (wNZ l x y) (mdel tt (x,y)):=by
 induction l generalizing tt with
 | nil=>cases tt with
  | nil=>exact ⟨rfl,rfl⟩
  | cons q tt=>have:=hm.1;simp at this
 | cons p l ih =>
  cases tt with
  | nil=>have:=hm.1;simp at this
  | cons q tt =>
   obtain ⟨⟨b1,b2⟩,x0⟩:=p
   obtain ⟨b',v0⟩:=q
   obtain ⟨h1,h2⟩:=hm
   simp only [nI,nE] at h1
   obtain ⟨v',ws,g1,g2,g3⟩:=h2
   simp only [nI,nE] at g3
   obtain ⟨rfl,rfl⟩:=g3
   obtain ⟨rfl,h1⟩:=h1
   simp only [wNZ,mdel,z2]
   by_cases e:(x,y)=(b1,b2)
   ·simp only [e,decide_true,if_true]
    exact ⟨h1,g2⟩
   ·have:=ih (tt:=tt) ⟨h1,g2⟩
    simp only [e,decide_false,if_false]
    exact ⟨by simp [this.1],wBl g1 this.2⟩
theorem wTG {mt kt et:TypeId} {m ck:Nat} {es:Array MapEntry} {mk:K->Value} {tt:List (K × Value)} {a:K} {z:Value} {ok:Bool} (hm:w.heap[m]?=some (.map es ck)) (hu:P.underlying mt=some (.map kt et)) (R:KeyR P kt mk) (hz:∀ w,(zeroValue et).run P w=.ok z w) (hh:MpR es mk id tt) :
  (Instr.lookup mt (.map (some m)) (mk a) ok).run P w=.ok (if ok then .tuple #[wJp tt a z,.bool (wRD tt a)] else wJp tt a z) w:=by
 have hf:=R.find id es.toList tt a w hh
 have hg:=wKX tt a 0
 unfold wJp wRD
 simp [Instr.lookup,run_underlying hu,MapKept.run_getObj_map hm,R.chk,hf,Result.andThen,<- hg]
 cases e:wDN tt a 0 <;> simp [hz,Result.andThen]
theorem wRi {mt kt et:TypeId} {m ck:Nat} {es:Array MapEntry} {mk:K->Value} {tt:List (K × Value)} {a:K} {v:Value} (hm:w.heap[m]?=some (.map es ck)) (hu:P.underlying mt=some (.map kt et)) (R:KeyR P kt mk) (hh:MpR es mk id tt) :
  ∃ es' ck',MpR es' mk id (mput tt a v)/\(Instr.mapUpdate mt (.map (some m)) (mk a) v).run P w=.ok () (w.putObj m (.map es' ck')):=by
 have hf:=R.find id es.toList tt a w hh
 cases e:wDN tt a 0 with
 | none =>
  obtain ⟨e1,_⟩:=wFG e v
  refine ⟨es.push { key:=mk a,val:=v,born:=ck },ck + 1,?_,?_⟩
  ·unfold MpR at hh ⊢;rw [e1];simp [hh]
  ·simp [Instr.mapUpdate,run_underlying hu,MapKept.run_getObj_map hm,R.chk,hf,e,Result.andThen,MapKept.run_setObj_map _ hm]
   rfl
 | some p =>
  obtain ⟨q,u⟩:=p
  obtain ⟨_,h2,h3,_⟩:=wFH e v
  rw [Nat.sub_zero] at h2 h3
  have hq:q < tt.length:=(List.getElem?_eq_some_iff.1 h2).1
  have hl:es.size=tt.length:=by have:=congrArg nl hh;simpa using this
  have hkq:((es[q]?).map (·.key)).getD (mk a)=mk a:=by
   have h4:(es.toList.map (fun e=>(e.key,e.val)))[q]?=some (mk a,u):=by rw [hh,ni,h2];rfl
   rw [ni] at h4
   cases h5:es.toList[q]? with
   | none=>rw [h5] at h4;cases h4
   | some e =>
    rw [h5] at h4
    simp only [kV,kO,Prod.mk.injEq] at h4
    have h6:es[q]?=some e:=by simpa using h5
    rw [h6];simp [h4.1]
  refine ⟨es.modify q fun e=>{ e with key:=mk a,val:=v },ck,?_,?_⟩
  ·unfold MpR at hh ⊢
   rw [h3]
   apply List.ext_getElem?
   intro n
   have hn:=congrArg (·[n]?) hh
   simp only [ni] at hn ⊢
   rw [List.getElem?_set]
   simp only [Array.toList_modify,List.getElem?_modify]
   by_cases hqn:q=n
   ·subst hqn
    have h5:es.toList[q]?=some (es.toList[q]'(by simpa [hl] using hq)):=nc _
    simp [h5,hq]
   ·simp only [hqn,if_false]
    simpa [hqn] using hn
  ·simp [Instr.mapUpdate,run_underlying hu,MapKept.run_getObj_map hm,R.chk,hf,e,Result.andThen,MapKept.run_setObj_map _ hm,Instr.keyThatStays,hkq,R.same]
   rfl
theorem wRj {mt kt et ty:TypeId} {tys:Array TypeId} {m ck:Nat} {es:Array MapEntry} {mk:K->Value} {tt:List (K × Value)} {a:K} (hty:tys[0]?=some mt) (hm:w.heap[m]?=some (.map es ck)) (hu:P.underlying mt=some (.map kt et)) (R:KeyR P kt mk) (hh:MpR es mk id tt) :
  ∃ es' ck',MpR es' mk id (mdel tt a)/\(Builtin.delete_ tys ty #[.map (some m),mk a]).run P w=.ok (.tuple #[]) (w.putObj m (.map es' ck')):=by
 have hf:=R.find id es.toList tt a w hh
 cases e:wDN tt a 0 with
 | none =>
  obtain ⟨_,e1⟩:=wFG e (.bool true)
  refine ⟨es,ck,by rw [e1];exact hh,?_⟩
  simp [Builtin.delete_,hty,run_underlying hu,MapKept.run_getObj_map hm,R.chk,hf,e,Result.andThen,MapKept.run_setObj_map _ hm]
  rfl
 | some p =>
  obtain ⟨q,u⟩:=p
  obtain ⟨_,h2,_,h3⟩:=wFH e (.bool true)
  rw [Nat.sub_zero] at h2 h3
  refine ⟨es.eraseIdxIfInBounds q,ck,?_,?_⟩
  ·unfold MpR at hh ⊢
   rw [h3,<- wEM,<- hh,wEM]
   simp
  ·simp [Builtin.delete_,hty,run_underlying hu,MapKept.run_getObj_map hm,R.chk,hf,e,Result.andThen,MapKept.run_setObj_map _ hm]
   rfl
def wRk (C:Chk) (P:Program) (μ:Mu) (w:World) (c:Cl) (two:Bool) (k:IntKind) (kt:TypeId) (B:AB) (y:AV) (Y:Value):Prop :=
  ∃ (K:Type) (_:DecidableEq K) (mk:K->Value) (a:K) (es:Array MapEntry) (ck:Nat) (tt:List (K × Value)),Y=mk a/\w.heap[c.1]?=some (.map es ck)/\KeyR P kt mk/\MpR es mk id tt /\
   (∀ q,wHQ two k B y=some q->(q=none/\wMZ tt a=none) \/ ∃ x v,q=some x/\wMZ tt a=some v/\Rv μ x v) /\
   (∀ x v B',wPa two k B y x=some B'->Rv μ x v->wMi B'/\∀ w' es' ck',w'.heap[c.1]?=some (.map es' ck')->MpR es' mk id (mput tt a v)->AbR C P μ w' c B') /\
   (∀ B',wPb two k B y=some B'->wMi B'/\∀ w' es' ck',w'.heap[c.1]?=some (.map es' ck')->MpR es' mk id (mdel tt a)->AbR C P μ w' c B')
theorem wOW {two:Bool} {k:IntKind} {kt:TypeId} {B:AB} {y:AV} {Y:Value} {c:Cl} (hk:wPg P two k kt=true) (hB:AbR C P μ w c B) (hY:Rv μ y Y) (hr:(wHQ two k B y).isSome=true \/ (∃ v,(wPa two k B y v).isSome=true) \/ (wPb two k B y).isSome=true) :
  wRk C P μ w c two k kt B y Y/\wMi B:=by
 have caseI:two=false->∀ (n:Int) (es:Array MapEntry) (ck:Nat) (tt:List (Int × Value)) (l:List (Int × AV)),y=.int k n->w.heap[c.1]?=some (.map es ck)->MpR es (fun n:Int=>no k n) id tt->MR μ l tt ->
   (∀ q,wHQ two k B y=some q->q=wMc l n)->(∀ x B',wPa two k B y x=some B'->B'=.mapI k (wNY l n x))->(∀ B',wPb two k B y=some B'->B'=.mapI k (wNa l n) \/ (B'=.map0/\l=[]))->wRk C P μ w c two k kt B y Y:=by
  intro h2 n es ck tt l hy hm hp hM q1 q2 q3
  subst h2 hy
  have hY:Y=.int k n:=hY
  refine ⟨Int,inferInstance,fun n=>no k n,n,es,ck,tt,hY,hm,keyI hk,hp,?_,?_,?_⟩
  ·intro q hq
   rw [q1 q hq]
   exact mrI hM n
  ·intro x v B' hB' hv
   have:=q2 x B' hB'
   subst this
   exact ⟨trivial,fun w' es' ck' g1 g2=>⟨es',ck',_,g1,g2,wRe hM n hv⟩⟩
  ·intro B' hB'
   rcases q3 B' hB' with rfl | ⟨rfl,rfl⟩
   ·exact ⟨trivial,fun w' es' ck' g1 g2=>⟨es',ck',_,g1,g2,wRf hM n⟩⟩
   ·refine ⟨trivial,fun w' es' ck' g1 g2=>⟨ck',?_⟩⟩
    cases tt with
    | cons p tt=>have:=hM.1;simp at this
    | nil =>
     have:es'=#[]:=by
      unfold MpR at g2
      simp only [mdel,nw,kK] at g2
      exact nJ (by simpa using g2)
     rw [this] at g1;exact g1
 have case2:two=true->∀ (n m:Int) (es:Array MapEntry) (ck:Nat) (tt:List ((Int × Int) × Value)) (l:List ((Int × Int) × AV)),y=.agg [.int k n,.int k m]->w.heap[c.1]?=some (.map es ck)->MpR es (mk2 k) id tt->MR μ l tt ->
   (∀ q,wHQ two k B y=some q->q=wMb l n m)->(∀ x B',wPa two k B y x=some B'->B'=.map2 k (wNX l n m x))->(∀ B',wPb two k B y=some B'->B'=.map2 k (wNZ l n m) \/ (B'=.map0/\l=[]))->wRk C P μ w c two k kt B y Y:=by
  intro h2 n m es ck tt l hy hm hp hM q1 q2 q3
  subst h2 hy
  have hY:Y=mk2 k (n,m):=by
   obtain ⟨vs,g1,rfl⟩:=hY
   obtain ⟨v1,ws,g2,g3,rfl⟩:=g1
   obtain ⟨v2,ws2,g4,g5,rfl⟩:=g3
   cases g5
   have g2:v1=.int k n:=g2
   have g4:v2=.int k m:=g4
   subst g2 g4
   rfl
  refine ⟨Int × Int,inferInstance,mk2 k,(n,m),es,ck,tt,hY,hm,wMm hk,hp,?_,?_,?_⟩
  ·intro q hq
   rw [q1 q hq]
   exact mr2 hM n m
  ·intro x v B' hB' hv
   have:=q2 x B' hB'
   subst this
   exact ⟨trivial,fun w' es' ck' g1 g2=>⟨es',ck',_,g1,g2,wRg hM n m hv⟩⟩
  ·intro B' hB'
   rcases q3 B' hB' with rfl | ⟨rfl,rfl⟩
   ·exact ⟨trivial,fun w' es' ck' g1 g2=>⟨es',ck',_,g1,g2,wRh hM n m⟩⟩
   ·refine ⟨trivial,fun w' es' ck' g1 g2=>⟨ck',?_⟩⟩
    cases tt with
    | cons p tt=>have:=hM.1;simp at this
    | nil =>
     have:es'=#[]:=by
      unfold MpR at g2
      simp only [mdel,nw,kK] at g2
      exact nJ (by simpa using g2)
     rw [this] at g1;exact g1
 have shape:(∃ n,two=false/\y=.int k n/\(B=.map0 \/ ∃ l,B=.mapI k l)) \/ (∃ n m,two=true/\y=.agg [.int k n,.int k m]/\(B=.map0 \/ ∃ l,B=.map2 k l)):=by
  have fI:∀ {k':IntKind} {b:Bool} {α:Type} {x:Option α},(ifO b x).isSome=true->b=true:=fun {k' b α x} hq=>by cases b <;> first | rfl | cases hq
  rcases hr with hr | ⟨v,hr⟩ | hr
  ·unfold wHQ at hr
   split at hr <;> first | (cases hr;done) | skip
   ·have:=wBp (fI (k':=k) hr);subst this;exact .inl ⟨_,rfl,rfl,.inl rfl⟩
   ·have:=fI (k':=k) hr;simp only [nA] at this
    have e1:=wBp this.1;have e2:=wBp this.2;subst e1 e2;exact .inr ⟨_,_,rfl,rfl,.inl rfl⟩
   ·have:=fI (k':=k) hr;simp only [nA] at this
    have e1:=wBp this.1;have e2:=wBp this.2;subst e1 e2;exact .inl ⟨_,rfl,rfl,.inr ⟨_,rfl⟩⟩
   ·have:=fI (k':=k) hr;simp only [nA] at this
    have e1:=wBp this.1;have e2:=wBp this.2.1;have e3:=wBp this.2.2;subst e1 e2 e3;exact .inr ⟨_,_,rfl,rfl,.inr ⟨_,rfl⟩⟩
  ·unfold wPa at hr
   split at hr <;> first | (cases hr;done) | skip
   ·have:=wBp (fI (k':=k) hr);subst this;exact .inl ⟨_,rfl,rfl,.inl rfl⟩
   ·have:=fI (k':=k) hr;simp only [nA] at this
    have e1:=wBp this.1;have e2:=wBp this.2;subst e1 e2;exact .inr ⟨_,_,rfl,rfl,.inl rfl⟩
   ·have:=fI (k':=k) hr;simp only [nA] at this
    have e1:=wBp this.1;have e2:=wBp this.2;subst e1 e2;exact .inl ⟨_,rfl,rfl,.inr ⟨_,rfl⟩⟩
   ·have:=fI (k':=k) hr;simp only [nA] at this
    have e1:=wBp this.1;have e2:=wBp this.2.1;have e3:=wBp this.2.2;subst e1 e2 e3;exact .inr ⟨_,_,rfl,rfl,.inr ⟨_,rfl⟩⟩
  ·unfold wPb at hr
   split at hr <;> first | (cases hr;done) | skip
   ·have:=wBp (fI (k':=k) hr);subst this;exact .inl ⟨_,rfl,rfl,.inl rfl⟩
   ·have:=fI (k':=k) hr;simp only [nA] at this
    have e1:=wBp this.1;have e2:=wBp this.2;subst e1 e2;exact .inr ⟨_,_,rfl,rfl,.inl rfl⟩
   ·have:=fI (k':=k) hr;simp only [nA] at this
    have e1:=wBp this.1;have e2:=wBp this.2;subst e1 e2;exact .inl ⟨_,rfl,rfl,.inr ⟨_,rfl⟩⟩
   ·have:=fI (k':=k) hr;simp only [nA] at this
    have e1:=wBp this.1;have e2:=wBp this.2.1;have e3:=wBp this.2.2;subst e1 e2 e3;exact .inr ⟨_,_,rfl,rfl,.inr ⟨_,rfl⟩⟩
 have iS:∀ {b:Bool} {α:Type} {x:Option α} {v:α},ifO b x=some v->x=some v:=fun hq=>(wBm hq).2
 rcases shape with ⟨n,rfl,rfl,rfl | ⟨l,rfl⟩⟩ | ⟨n,m,rfl,rfl,rfl | ⟨l,rfl⟩⟩
 ·obtain ⟨ck,hm⟩:=hB
  refine ⟨?_,trivial⟩
  exact caseI rfl n #[] ck [] [] rfl hm rfl ⟨rfl,rfl⟩ (fun q hq=>by simp only [wHQ] at hq;cases iS hq;rfl) (fun x B' hq=>by simp only [wPa] at hq;cases iS hq;rfl) (fun B' hq=>by simp only [wPb] at hq;cases iS hq;exact .inr ⟨rfl,rfl⟩)
 ·obtain ⟨es,ck,tt,hm,hp,hM⟩:=hB
  refine ⟨?_,trivial⟩
  exact caseI rfl n es ck tt l rfl hm hp hM (fun q hq=>by simp only [wHQ] at hq;cases iS hq;rfl) (fun x B' hq=>by simp only [wPa] at hq;cases iS hq;rfl) (fun B' hq=>by simp only [wPb] at hq;cases iS hq;exact .inl rfl)
 ·obtain ⟨ck,hm⟩:=hB
  refine ⟨?_,trivial⟩
  exact case2 rfl n m #[] ck [] [] rfl hm rfl ⟨rfl,rfl⟩ (fun q hq=>by simp only [wHQ] at hq;cases iS hq;rfl) (fun x B' hq=>by simp only [wPa] at hq;cases iS hq;rfl) (fun B' hq=>by simp only [wPb] at hq;cases iS hq;exact .inr ⟨rfl,rfl⟩)
 ·obtain ⟨es,ck,tt,hm,hp,hM⟩:=hB
  refine ⟨?_,trivial⟩
  exact case2 rfl n m es ck tt l rfl hm hp hM (fun q hq=>by simp only [wHQ] at hq;cases iS hq;rfl) (fun x B' hq=>by simp only [wPa] at hq;cases iS hq;rfl) (fun B' hq=>by simp only [wPb] at hq;cases iS hq;exact .inl rfl)
def wTH (P:Program) (two:Bool) (k:IntKind) (ok:Bool) (z:AV) (x y:AOd):Op->Bool
 | .lookup t x' y' ok'=>wEb P t (fun d=>match d with
   | .map kt et=>wPg P two k kt && (match P.info? et with
    | some i=>match i.zero with | some v=>okc z v | none=>false
    | none=>false)
   | _=>false) && ((ok == ok') && (wCR x x' && wCR y y'))
 | _=>false
def lkV (ok:Bool) (z:AV) (q:Option AV):AV:=match ok with
 | true=>.tup [q.getD z,.bool q.isSome]
 | false=>q.getD z
theorem l_lk {two:Bool} {k:IntKind} {ok:Bool} {z:AV} {x y:AOd} {op:Op} (hc:wTH P two k ok z x y op=true):OkL C P op (wPd two k ok z x y):=by
 intro σA h v h' hr
 unfold wTH at hc
 split at hc
 ·rename_i t x' y' ok'
  simp only [nA,beq_iff_eq] at hc
  obtain ⟨c1,rfl,c2,c3⟩:=hc
  obtain ⟨d,d1,d2⟩:=wAq c1
  split at d2 <;> first | (cases d2;done) | skip
  rename_i kt et
  simp only [nA] at d2
  obtain ⟨k1,k2⟩:=d2
  split at k2 <;> first | (cases k2;done) | skip
  rename_i i hi
  split at k2 <;> first | (cases k2;done) | skip
  rename_i zv hz
  unfold wPd at hr
  split at hr <;> first | (cases hr;done) | skip
  rename_i b hx
  split at hr <;> first | (cases hr;done) | skip
  rename_i B hB
  have key:∀ q,wHQ two k B (evA σA y)=some q->h'=h->v=lkV ok z q->h'=h/\∀ μ σ w,EnvR μ σA σ->Sim C P μ h w->∃ cv,Rv μ v cv/\∀ (o:Oper),o.op=.lookup t x' y' ok->wHD P σ w o cv:=by
   intro q hq hh hv
   subst hh hv
   refine ⟨rfl,fun μ σ w hE S=>?_⟩
   have g:=wAJ c2 hE;rw [hx] at g
   obtain ⟨c,g1,g2⟩:=g
   obtain ⟨c',g3,g4⟩:=S.at_ b B hB
   rw [g1] at g3;cases g3
   obtain ⟨⟨K,_,mk,a,es,ck,tt,e1,e2,e3,e4,e5,_,_⟩,hl⟩:=wOW k1 g4 (wAJ c3 hE) (.inl (by rw [hq];rfl))
   have hrun:∀ w',Keep w w' Non->∀ (o:Oper),o.op=.lookup t x' y' ok->Runs P σ w' o (if ok then .tuple #[wJp tt a zv,.bool (wRD tt a)] else wJp tt a zv) w':=by
    intro w' K o ho
    have hm:=(K.block _ (wAR e2) id).trans e2
    have:=wTG (P:=P) (ok:=ok) hm d1 e3 (wDl hi hz) e4 (a:=a)
    exact ⟨by rw [ho];rfl,by simp [execOp,ho,g2,e1,this,Result.andThen]⟩
   refine ⟨_,?_,fun o ho w' K=>hrun w' K o ho⟩
   have hval:Rv μ (q.getD z) (wJp tt a zv)/\q.isSome=wRD tt a:=by
    rcases e5 q hq with ⟨rfl,q2⟩ | ⟨x,v,rfl,q2,q3⟩
    ·unfold wJp wRD;rw [q2];exact ⟨wOD μ k2,rfl⟩
    ·unfold wJp wRD;rw [q2];exact ⟨q3,rfl⟩
   cases ok
   ·exact hval.1
   ·exact ⟨_,wBl hval.1 (wBl (v:=.bool (wRD tt a)) (by rw [<- hval.2];rfl) wHY),rfl⟩
  split at hr
  ·rename_i q hq
   cases hr
   exact key _ hq rfl (by cases ok <;> rfl)
  ·rename_i hq
   cases hr
   exact key _ hq rfl (by cases ok <;> rfl)
  ·cases hr
 ·cases hc
def wLo (P:Program) (two:Bool) (k:IntKind) (x y z:AOd):Op->Bool
 | .mapUpdate t x' y' z' | .insert t x' y' z'=>wEb P t (fun d=>match d with
   | .map kt et=>wPg P two k kt
   | _=>false) && (wCR x x' && (wCR y y' && wCR z z'))
 | _=>false
theorem wOX {two:Bool} {k:IntKind} {x y z:AOd} {op:Op} (hc:wLo P two k x y z op=true):∃ t kt et x' y' z',(op=.mapUpdate t x' y' z' \/ op=.insert t x' y' z')/\P.underlying t=some (.map kt et)/\wPg P two k kt=true/\wCR x x'=true/\wCR y y'=true/\wCR z z'=true:=by
 have key:∀ {t:TypeId} {x' y' z':Operand},(wEb P t (fun d=>match d with | .map kt et=>wPg P two k kt | _=>false) && (wCR x x' && (wCR y y' && wCR z z')))=true->∃ kt et,P.underlying t=some (.map kt et)/\wPg P two k kt=true/\wCR x x'=true/\wCR y y'=true/\wCR z z'=true:=by
  intro t x' y' z' hq
  simp only [nA] at hq
  obtain ⟨d,d1,d2⟩:=wAq hq.1
  split at d2 <;> first | (cases d2;done) | skip
  exact ⟨_,_,d1,d2,hq.2⟩
 unfold wLo at hc
 split at hc
 ·obtain ⟨kt,et,g⟩:=key hc;exact ⟨_,kt,et,_,_,_,.inl rfl,g⟩
 ·obtain ⟨kt,et,g⟩:=key hc;exact ⟨_,kt,et,_,_,_,.inr rfl,g⟩
 ·cases hc
theorem wTI {two:Bool} {k:IntKind} {x y z:AOd} {op:Op} (hc:wLo P two k x y z op=true):OkU C P op (wGY two k x y z):=by
 intro σA h v h' hr μ σ w hE S o ho
 obtain ⟨t,kt,et,x',y',z',hop,d1,k1,c1,c2,c3⟩:=wOX hc
 unfold wGY at hr
 split at hr <;> first | (cases hr;done) | skip
 rename_i b hx
 split at hr <;> first | (cases hr;done) | skip
 rename_i B hB
 split at hr <;> first | (cases hr;done) | skip
 rename_i B' hp
 split at hr <;> first | (cases hr;done) | skip
 rename_i h1' hput
 cases hr
 have g:=wAJ c1 hE;rw [hx] at g
 obtain ⟨c,g1,g2⟩:=g
 obtain ⟨c',g3,g4⟩:=S.at_ b B hB
 rw [g1] at g3;cases g3
 obtain ⟨⟨K,_,mk,a,es,ck,tt,e1,e2,e3,e4,_,e6,_⟩,hl⟩:=wOW k1 g4 (wAJ c2 hE) (.inr (.inl ⟨_,by rw [hp];rfl⟩))
 obtain ⟨es',ck',r1,r2⟩:=wRi (P:=P) (v:=ev σ z') e2 d1 e3 e4 (a:=a)
 obtain ⟨l1,l2⟩:=e6 _ (ev σ z') B' hp (wAJ c3 hE)
 obtain ⟨s1,s2,s3⟩:=S.put hput hB hl g1 (wCF w c.1 (.map es' ck')) (l2 _ es' ck' (wFK _ (wAR e2)) r1)
 refine ⟨μ,_,s2,s1,rfl,s3,by rw [ho];rcases hop with e | e <;> (rw [e];rfl),?_⟩
 rcases hop with e | e <;> rw [e] at ho <;> simp [execOp,ho,g2,e1,r2,Result.andThen]
def wOY (P:Program) (two:Bool) (k:IntKind) (x y:AOd):Op->Bool
 | .call c=>match c.callee with
  | .builtin b=>(b == .delete) && (match c.args.toList,c.argTypes.toList with
   | [x',y'],t :: _=>wEb P t (fun d=>match d with | .map kt _=>wPg P two k kt | _=>false) && (wCR x x' && wCR y y')
   | _,_=>false)
  | _=>false
 | _=>false
theorem wTJ {two:Bool} {k:IntKind} {x y:AOd} {op:Op} (hc:wOY P two k x y op=true):OkE C P op (wGZ two k x y):=by
 intro σA h v h' hr μ σ w hE S o ho
 unfold wOY at hc
 split at hc <;> first | (cases hc;done) | skip
 rename_i c
 obtain ⟨ce,args,tys⟩:=c
 simp only at hc
 split at hc <;> first | (cases hc;done) | skip
 rename_i b
 simp only [nA,beq_iff_eq] at hc
 obtain ⟨rfl,h2⟩:=hc
 split at h2 <;> first | (cases h2;done) | skip
 rename_i x' y' t ts h3 h4
 simp only [nA] at h2
 obtain ⟨a1,a2,a3⟩:=h2
 obtain ⟨d,d1,d2⟩:=wAq a1
 split at d2 <;> first | (cases d2;done) | skip
 rename_i kt et
 have ea:args=#[x',y']:=nJ (by simpa using h3)
 have et':tys[0]?=some t:=by rw [<- kD,h4];rfl
 unfold wGZ at hr
 split at hr <;> first | (cases hr;done) | skip
 rename_i b hx
 split at hr <;> first | (cases hr;done) | skip
 rename_i B hB
 split at hr <;> first | (cases hr;done) | skip
 rename_i B' hp
 split at hr <;> first | (cases hr;done) | skip
 rename_i h1' hput
 cases hr
 have g:=wAJ a2 hE;rw [hx] at g
 obtain ⟨c,g1,g2⟩:=g
 obtain ⟨c',g3,g4⟩:=S.at_ b B hB
 rw [g1] at g3;cases g3
 obtain ⟨⟨K,_,mk,a,es,ck,tt,e1,e2,e3,e4,_,_,e7⟩,hl⟩:=wOW d2 g4 (wAJ a3 hE) (.inr (.inr (by rw [hp];rfl)))
 obtain ⟨es',ck',r1,r2⟩:=wRj (P:=P) (ty:=o.type) et' e2 d1 e3 e4 (a:=a)
 obtain ⟨l1,l2⟩:=e7 B' hp
 obtain ⟨s1,s2,s3⟩:=S.put hput hB hl g1 (wCF w c.1 (.map es' ck')) (l2 _ es' ck' (wFK _ (wAR e2)) r1)
 refine ⟨μ,_,_,s2,s1,wOB μ,s3,by rw [ho];rfl,?_⟩
 simp [execOp,ho,ea,resolve,invoke,builtin,g2,e1,r2,undef,Result.andThen]
def wKF (P:Program) (x:AOd):Op->Bool
 | .call c=>match c.callee with
  | .builtin b=>(b == .len) && (match c.args.toList,c.argTypes.toList with
   | [x'],[t]=>wEb P t (fun d=>match d with | .map _ _=>true | _=>false) && wCR x x'
   | _,_=>false)
  | _=>false
 | _=>false
theorem wTK {x:AOd} {op:Op} (hc:wKF P x op=true):OkL C P op (wFC x):=by
 intro σA h v h' hr
 unfold wKF at hc
 split at hc <;> first | (cases hc;done) | skip
 rename_i c
 obtain ⟨ce,args,tys⟩:=c
 simp only at hc
 split at hc <;> first | (cases hc;done) | skip
 rename_i b
 simp only [nA,beq_iff_eq] at hc
 obtain ⟨rfl,h2⟩:=hc
 split at h2 <;> first | (cases h2;done) | skip
 rename_i x' t h3 h4
 simp only [nA] at h2
 obtain ⟨a1,a2⟩:=h2
 obtain ⟨d,d1,d2⟩:=wAq a1
 split at d2 <;> first | (cases d2;done) | skip
 rename_i kt et
 have ea:args=#[x']:=nJ (by simpa using h3)
 have et':tys=#[t]:=nJ (by simpa using h4)
 subst ea et'
 unfold wFC at hr
 split at hr
 ·rename_i hx
  cases hr
  refine ⟨rfl,fun μ σ w hE S=>⟨_,rfl,fun o ho w' K=>?_⟩⟩
  have g:=wAJ a2 hE;rw [hx] at g
  have g:ev σ x'=.map none:=g
  exact ⟨by rw [ho];rfl,by simp [execOp,ho,resolve,invoke,builtin,Builtin.len_,g,run_underlying d1,goInt,Result.andThen]⟩
 ·rename_i b hx
  split at hr <;> first | (cases hr;done) | skip
  rename_i B hB
  split at hr <;> first | (cases hr;done) | skip
  rename_i n hn
  cases hr
  refine ⟨rfl,fun μ σ w hE S=>⟨_,rfl,fun o ho w' K=>?_⟩⟩
  have g:=wAJ a2 hE;rw [hx] at g
  obtain ⟨c,g1,g2⟩:=g
  obtain ⟨c',g3,g4⟩:=S.at_ b B hB
  rw [g1] at g3;cases g3
  have hmap:∃ es ck,w.heap[c.1]?=some (.map es ck)/\es.size=n:=by
   unfold lenB at hn
   split at hn <;> first | (cases hn;done) | skip
   ·cases hn;obtain ⟨ck,q⟩:=g4;exact ⟨_,ck,q,rfl⟩
   ·cases hn
    obtain ⟨es,ck,tt,q1,q2,q3⟩:=g4
    refine ⟨es,ck,q1,?_⟩
    have e1:=congrArg nl q2
    have e2:=congrArg nl q3.1
    simp at e1 e2
    rw [wEi];omega
   ·cases hn
    obtain ⟨es,ck,tt,q1,q2,q3⟩:=g4
    refine ⟨es,ck,q1,?_⟩
    have e1:=congrArg nl q2
    have e2:=congrArg nl q3.1
    simp at e1 e2
    rw [wEi];omega
  obtain ⟨es,ck,q1,q2⟩:=hmap
  have hm:=(K.block _ (wAR q1) id).trans q1
  refine ⟨by rw [ho];rfl,?_⟩
  simp [execOp,ho,resolve,invoke,builtin,Builtin.len_,g2,run_underlying d1,MapKept.run_getObj_map hm,goInt,Result.andThen,q2]
 ·cases hr
end
end
end Go.KX
namespace Go.KX
noncomputable section
open Go.RowKit Go.KL
def kdA:AOp->Nat
 | .mv _ | .pick _ _ _ | .nilc _ | .add _ _ | .sub _ _ | .mul _ _ | .quo _ _ | .rem _ _ | .lss _ _ | .leq _ _ | .gtr _ _ | .geq _ _ | .eql _ _ | .neq _ _ | .eqb _ _ _ | .eqn _ _ _ _ | .eqs _ _ _ _
 | .bad | .and _ _ | .shr _ _ | .ixs _ _ | .neg _ | .not _ | .cvt _ _ | .mkf _ _ _ | .slc _ _ _ _ _ | .slcA _ _ _ _ _ | .fad _ _ | .fld _ _ | .fldA _ _ _ | .iad _ _ _ | .iadA _ _ _ _ | .ix _ _ _ | .ixA _ _ _ _ | .ext _ _ | .bld _ _ | .len _ | .cap _ | .min _ _ | .max _ _=>3
 | .ld _ | .ldA _ _ | .lk _ _ _ _ _ _ | .lenM _=>1
 | .st _ _ _ | .mput _ _ _ _ _=>4
 | .call _ _=>5
 | _=>0
def wOZ (x:AOd) (l:List AOd):Op->Bool
 | .call c=>match c.callee with
  | .value f=>wCR x f && wKB l c.args.toList
  | _=>false
 | _=>false
def wSc:List UInt8->List Nat->Bool
 | [],[]=>true
 | a :: l,b :: k=>nD a.toNat b && wSc l k
 | _,_=>false
theorem wOa:∀ {l:List UInt8} {k:List Nat},wSc l k=true->l.map UInt8.toNat=k
 | [],[],_=>rfl
 | a :: l,b :: k,h=>by
  simp only [wSc,nA] at h
  rw [nI,nB h.1,wOa h.2]
 | [],_ :: _,h=>by simp [wSc] at h
 | _ :: _,[],h=>by simp [wSc] at h
def wRl (P:Program) (l:List Nat) (y:AOd):Op->Bool
 | .index t (.const (.string s)) y'=>wEb P t (fun d=>match d with | .string=>true | _=>false) && (wSc s.data.toList l && wCR y y')
 | _=>false
def wHg (P:Program) (a:AOp) (op:Op):Bool:=match a with
 | .mv x=>c_mv x op
 | .pick c x y=>wOE c x y op
 | .new T z=>wOR P T z op
 | .box T x=>wOS T x op
 | .ld x=>wTD P x op
 | .ldA n x=>wOQ P n x op
 | .st n x y=>c_st P n x y op
 | .nilc x=>wOF x op
 | .add x y=>wCs .add x y op
 | .sub x y=>wCs .sub x y op
 | .mul x y=>wCs .mul x y op
 | .quo x y=>wCs .quo x y op
 | .rem x y=>wCs .rem x y op
 | .lss x y=>wCs .lss x y op
 | .leq x y=>wCs .leq x y op
 | .gtr x y=>wCs .gtr x y op
 | .geq x y=>wCs .geq x y op
 | .eql x y=>wCs .eql x y op
 | .neq x y=>wCs .neq x y op
 | .eqb ne x y=>wRR P ne x y op
 | .eqn k ne x y=>wRS P k ne x y op
 | .eqs ne s x y=>wRT P ne s x y op
 | .neg x=>wRM x op
 | .not x=>wRN x op
 | .cvt k x=>wRO (P:=P) k x op
 | .mkf f fi ca=>wRP f fi ca op
 | .mkm=>wOT op
 | .mks T sz by_ z x y=>wOU P T sz by_ z x y op
 | .slc sz x lo hi mx=>wRY P sz x lo hi mx op
 | .slcA sz n x lo hi=>wOO P sz n x lo hi op
 | .fad off x=>wRU P off x op
 | .fld off x=>wRV P off x op
 | .fldA off n x=>wOK P off n x op
 | .iad sz x y=>wRW P sz x y op
 | .iadA sz n x y=>wOL P sz n x y op
 | .ix n x y=>c_ix P n x y op
 | .ixA sz n x y=>wRX P sz n x y op
 | .lk two k ok z x y=>wTH P two k ok z x y op
 | .mput two k x y z=>wLo P two k x y z op
 | .mdel two k x y=>wOY P two k x y op
 | .ext i x=>wRQ i x op
 | .bld z ps=>wRZ P z ps op
 | .blds T n z ps=>wKE P T n z ps op
 | .len x=>wMl P .len x op
 | .lenM x=>wKF P x op
 | .cap x=>wMl P .cap x op
 | .app T sz by_ x y=>wPu P T sz by_ x y op
 | .cpy sz x y=>wRb P sz x y op
 | .clr z x=>wRc P z x op
 | .min x y=>wSb .min x y op
 | .max x y=>wSb .max x y op
 | .call x l=>wOZ x l op
 | .bad=>true
 | .and x y=>wCs .and x y op
 | .shr x y=>wCs .shr x y op
 | .ixs l y=>wRl P l y op
 | .apz T sz by_ z x y=>wRd P T sz by_ z x y op
section
variable {C:Chk} {P:Program} {tb:Tr AF} {ex exY:Run}
theorem p_bad {op:Op}:OkP P op (wSs):=by
 intro σA h v h' hr
 cases hr
theorem p_and {x y:AOd} {op:Op} (hc:wCs .and x y op=true):OkP P op (wNr x y):=by
 intro σA h v h' hr
 obtain ⟨t,x',y',t',rfl,h1,h2⟩:=wFn hc
 obtain ⟨hr2,rfl⟩:=wBs hr
 split at hr2
 ·rename_i k a k' b ha hb
  split at hr2
  ·rename_i hk
   cases hr2
   have hk:=wBp hk
   subst hk
   refine ⟨rfl,fun μ σ hE=>⟨_,rfl,fun o w ho=>?_⟩⟩
   have g1:=wAJ h1 hE;rw [ha] at g1
   have g2:=wAJ h2 hE;rw [hb] at g2
   have g1:ev σ x'=.int k a:=g1
   have g2:ev σ y'=.int k b:=g2
   exact ⟨by rw [ho];rfl,by simp [execOp,ho,g1,g2,binOp,eqGuard,Op.intBits,andI]⟩
  ·cases hr2
 ·cases hr2
theorem p_shr {x y:AOd} {op:Op} (hc:wCs .shr x y op=true):OkP P op (wNs x y):=by
 intro σA h v h' hr
 obtain ⟨t,x',y',t',rfl,h1,h2⟩:=wFn hc
 obtain ⟨hr2,rfl⟩:=wBs hr
 split at hr2
 ·rename_i k a k' b ha hb
  cases hr2
  refine ⟨rfl,fun μ σ hE=>⟨_,rfl,fun o w ho=>?_⟩⟩
  have g1:=wAJ h1 hE;rw [ha] at g1
  have g2:=wAJ h2 hE;rw [hb] at g2
  have g1:ev σ x'=.int k a:=g1
  have g2:ev σ y'=.int k' (kA b):=g2
  have hn:¬ (kA b) < 0:=by simp
  exact ⟨by rw [ho];rfl,by simp [execOp,ho,g1,g2,binOp,eqGuard,Op.shift];intro hb0;omega⟩
 ·cases hr2
theorem p_ixs {l:List Nat} {y:AOd} {op:Op} (hc:wRl P l y op=true):OkP P op (wKp l y):=by
 intro σA h v h' hr
 unfold wRl at hc
 split at hc <;> first | (cases hc;done) | skip
 rename_i t s y'
 simp only [nA] at hc
 obtain ⟨c1,c2,c3⟩:=hc
 obtain ⟨d,d1,d2⟩:=wAq c1
 split at d2 <;> first | (cases d2;done) | skip
 have hl:=wOa c2
 unfold wKp at hr
 split at hr
 ·rename_i k i hy
  obtain ⟨hr2,rfl⟩:=wBs hr
  split at hr2
  ·rename_i b hb
   cases hr2
   rw [wGb,<- hl,ni] at hb
   have hi:i < s.data.toList.length:=by
    rcases nv i s.data.toList.length with q | q
    ·exact q
    ·rw [nj q] at hb;cases hb
   have hi2:i < s.size:=by simpa using hi
   rw [nc hi] at hb
   have hb:(s.data.toList[i]).toNat=b:=by simpa using hb
   refine ⟨rfl,fun μ σ hE=>⟨_,rfl,fun o w ho=>?_⟩⟩
   have g:=wAJ c3 hE;rw [hy] at g
   have g:ev σ y'=.int k (kA i):=g
   have hx:ev σ (.const (.string s))=.string s:=rfl
   have hrun:=run_index_string (P:=P) w t s k (kA i) d1
   rw [dif_pos ⟨by simp,by simpa using hi2⟩] at hrun
   have hbb:(s[(kA i).toNat]'(by simpa using hi2)).toNat=b:=by rw [<- hb];rfl
   rw [hbb] at hrun
   simp only [nS] at hrun
   exact ⟨by rw [ho];rfl,by simp only [execOp,ho,hx,g];simp [hrun]⟩
  ·cases hr2
 ·cases hr
theorem wIk {a:AOp} {op:Op} (hk:kdA a=3) (hc:wHg P a op=true):OkP P op (opY a tb ex exY):=by
 cases a <;> first
  | (simp [kdA] at hk;done)
  | exact p_bad | exact p_and hc | exact p_shr hc | exact p_ixs hc | exact p_mv hc | exact wSw hc | exact wSx hc | exact p_add hc | exact p_sub hc | exact p_mul hc | exact p_quo hc | exact p_rem hc
  | exact p_lss hc | exact p_leq hc | exact p_gtr hc | exact p_geq hc | exact p_eql hc | exact p_neq hc | exact p_eqb hc | exact p_eqn hc | exact p_eqs hc
  | exact p_neg hc | exact p_not hc | exact p_cvt hc | exact p_mkf hc | exact p_slc hc | exact wTB hc | exact p_fad hc | exact p_fld hc | exact wSz hc
  | exact p_iad hc | exact wTA hc | exact p_ix hc | exact p_ixA hc | exact p_ext hc | exact p_bld hc | exact p_len hc | exact p_cap hc | exact p_min hc | exact p_max hc
theorem wIl {a:AOp} {op:Op} (hk:kdA a=1 \/ kdA a=3) (hc:wHg P a op=true):OkL C P op (opY a tb ex exY):=by
 rcases hk with hk | hk
 ·cases a <;> first
   | (simp [kdA] at hk;done)
   | exact l_ld hc | exact l_ldA hc | exact l_lk hc | exact wTK hc
 ·exact (wIk hk hc).toL
theorem wTL {a:AOp} {op:Op} (hk:kdA a=0 \/ kdA a=1 \/ kdA a=3) (hc:wHg P a op=true):OkE C P op (opY a tb ex exY):=by
 rcases hk with hk | hk
 ·cases a <;> first
   | (simp [kdA] at hk;done)
   | exact e_new hc | exact e_box hc | exact e_mkm hc | exact e_mks hc | exact wTJ hc | exact wTE hc | exact e_app hc | exact e_apz hc | exact e_cpy hc | exact e_clr hc
 ·exact (wIl hk hc).toE
theorem wTM {a:AOp} {op:Op} (hk:kdA a=4) (hc:wHg P a op=true):OkU C P op (opY a tb ex exY):=by
 cases a <;> first
  | (simp [kdA] at hk;done)
  | exact u_st hc | exact wTI hc
def wGc (C:Chk) (P:Program) (tb:Tr AF) (ex:Run):Prop:=∀ f args h v h',wJw tb ex f args h=some (v,h') ->
 (∀ (a:Array Value) (w:World),(callFunc (f.nat - 1) a).run P w=.ok (.enter (f.nat - 1) a) w) /\
 ∀ μ w vs,Sim C P μ h w->RvL μ args vs->Gv P (f.nat - 1) vs w fun cv w'=>∃ μ',Ext μ h.fl.nat w μ' w'/\Sim C P μ' h' w'/\Rv μ' v cv/\h'.fl=h.fl
def wFQ (C:Chk) (P:Program) (ex:Run):Prop:=∀ b args h v h',wJx ex b args h=some (v,h') ->
 ∀ μ w x c,Sim C P μ h w->RvL μ args x->μ b=some c->Yd P c.1 x w fun t w'=>∃ μ',Ext μ h.fl.nat w μ' w'/\Sim C P μ' h' w'/\v=.bool t/\h'.fl=h.fl
def wHh (P:Program) (N:Nat) (l:List Oper) (a:AO):Bool:=match l[a.ix]? with
 | none=>false
 | some o=>wHg P a.op o.op && ((match a.dst,o.dst with
   | none,none=>true
   | some p,some d=>nD p.nat (d + 1) && nU d N
   | _,_=>false) && ((match a.grd,o.guard with
   | none,none=>true
   | some (p,b),some (j,b')=>(b == b') && (match (l[j]?).bind (·.dst) with | some d=>nD p.nat (d + 1) | none=>false)
   | _,_=>false) && ((match a.kd with
   | 3=>nD (kdA a.op) 3
   | 1=>nD (kdA a.op) 1 || nD (kdA a.op) 3
   | _=>true) && ((!Nat.beq (kdA a.op) 4 || o.dst.isNone) && !Nat.beq a.kd 1005))))
structure AOK (P:Program) (N:Nat) (l:List Oper) (a:AO) (o:Oper):Prop where
 get:l[a.ix]?=some o
 op:wHg P a.op o.op=true
 dst:(a.dst=none/\o.dst=none) \/ ∃ p d,a.dst=some p/\o.dst=some d/\d=p.nat - 1/\d < N
 grd:(a.grd=none/\o.guard=none) \/ ∃ p b j d,a.grd=some (p,b)/\o.guard=some (j,b)/\(l[j]?).bind (·.dst)=some d/\d=p.nat - 1
 k3:a.kd=3->kdA a.op=3
 k1:a.kd=1->kdA a.op=1 \/ kdA a.op=3
 un:kdA a.op=4->o.dst=none
 k5:a.kd ≠ 1005
theorem wDK {N:Nat} {l:List Oper} {a:AO} (hc:wHh P N l a=true):∃ o,AOK P N l a o:=by
 unfold wHh at hc
 split at hc
 ·cases hc
 ·rename_i o ho
  simp only [nA] at hc
  obtain ⟨c1,c2,c3,c4,c5,c6⟩:=hc
  refine ⟨o,ho,c1,?_,?_,?_,?_,?_,?_⟩
  ·split at c2
   ·rename_i h1 h2;exact .inl ⟨h1,h2⟩
   ·rename_i p d h1 h2
    simp only [nA,nG] at c2
    have:=nB c2.1
    exact .inr ⟨p,d,h1,h2,by rw [this];rfl,c2.2⟩
   ·cases c2
  ·split at c3
   ·rename_i h1 h2;exact .inl ⟨h1,h2⟩
   ·rename_i p b j b' h1 h2
    simp only [nA,beq_iff_eq] at c3
    obtain ⟨rfl,c3⟩:=c3
    split at c3
    ·rename_i d hd
     have:=nB c3
     exact .inr ⟨p,b,j,d,h1,h2,hd,by rw [this];rfl⟩
    ·cases c3
   ·cases c3
  ·intro hk;rw [hk] at c4;exact nB c4
  ·intro hk;rw [hk] at c4
   simp only [nM] at c4
   exact c4.imp nB nB
  ·intro hk;rw [hk] at c5
   simpa using c5
  ·intro hk;rw [hk] at c6
   simp at c6
theorem wJL {N:Nat} {l:List Oper} {a:AO} {o:Oper} {μ:Mu} {σA:Tr AV} {σ:Env} (A:AOK P N l a o) (hE:EnvR μ σA σ):wanted l σ o=wCx σA a.grd:=by
 unfold wanted
 rcases A.grd with ⟨h1,h2⟩ | ⟨p,b,j,d,h1,h2,h3,h4⟩
 ·rw [h1,h2];rfl
 ·rw [h1,h2]
  simp only [h3]
  show _=isB b (evA σA (.t p))
  have g:=hE p
  rw [<- h4] at g
  unfold isB
  cases hv:evA σA (.t p) <;> rw [hv] at g <;> simp only [Rv] at g <;>
   first | (rw [g];done) | (obtain ⟨_,_,_,_,_,g⟩:=g;rw [g];done) | (obtain ⟨_,_,_,_,g⟩:=g;rw [g];done) | (obtain ⟨_,_,_,g⟩:=g;rw [g];done) | (obtain ⟨_,_,g⟩:=g;rw [g];done) | (obtain ⟨_,g⟩:=g;rw [g];done) | rw [g]
theorem wEY {N:Nat} {l:List Oper} {a:AO} {o:Oper} {μ:Mu} {σA:Tr AV} {σ:Env} {v:AV} {cv:Value} (A:AOK P N l a o) (hE:EnvR μ σA σ) (hv:Rv μ v cv):EnvR μ (wGi a.dst σA v) (put' σ o cv):=by
 rcases A.dst with ⟨h1,h2⟩ | ⟨p,d,h1,h2,h3,_⟩
 ·rw [h1];unfold put';rw [h2];exact hE
 ·rw [h1];unfold put';rw [h2];subst h3;exact hE.put hv
theorem wIm {N:Nat} {l:List Oper} {a:AO} {o:Oper} (A:AOK P N l a o):∀ d,o.dst=some d->d < N:=by
 intro d hd
 rcases A.dst with ⟨_,h2⟩ | ⟨p,d',_,h2,_,h4⟩
 ·rw [h2] at hd;cases hd
 ·rw [h2] at hd;cases hd;exact h4
theorem wTN (HC:wGc C P tb ex) (HY:wFQ C P exY) {N:Nat} {l:List Oper} {a:AO} {o:Oper} {μ:Mu} {σA:Tr AV} {σ:Env} {h h':AH} {v:AV} {w:World} (A:AOK P N l a o) (hw:wanted l σ o=true) (hr:opY a.op tb ex exY σA h=some (v,h')) (hE:EnvR μ σA σ) (S:Sim C P μ h w) :
  Step1 P l o σ w fun cv w'=>∃ μ',Ext μ h.fl.nat w μ' w'/\Sim C P μ' h' w'/\EnvR μ' (wGi a.dst σA v) (put' σ o cv)/\h'.fl=h.fl:=by
 have hop:=A.op
 by_cases k4:kdA a.op=4
 ·obtain ⟨μ',w',h1,h2,rfl,h4,h5⟩:=wTM (C:=C) k4 hop σA h v h' hr μ σ w hE S o rfl
  exact .inl ⟨hw,.inl ⟨A.un k4,w',h5,μ',h1,h2,wEY A (hE.mono h1.mono) (wOB μ'),h4⟩⟩
 ·by_cases k5:kdA a.op=5
  ·cases hq:a.op <;> rw [hq] at k5 <;> first | (simp [kdA] at k5;done) | skip
   rename_i x args
   rw [hq] at hop hr
   have hop:wOZ x args o.op=true:=hop
   unfold wOZ at hop
   split at hop <;> first | (cases hop;done) | skip
   rename_i c hoc
   obtain ⟨ce,cargs,tys⟩:=c
   simp only at hop
   split at hop <;> first | (cases hop;done) | skip
   rename_i f
   simp only [nA] at hop
   have hx:=wAJ hop.1 hE
   have ha:=wGr hop.2 hE
   have hr:wGa x args tb ex exY σA h=some (v,h'):=hr
   unfold wGa at hr
   split at hr
   ·rename_i g fi ca hg
    rw [hg] at hx
    obtain ⟨fv,cv,g1,g2,g3⟩:=hx
    obtain ⟨hcall,hgv⟩:=HC _ _ _ _ _ hr
    have G:=hgv μ w _ S (wEO g1 (wEO ha g2))
    refine .inl ⟨hw,.inr (.inr (.inl ⟨_,_,_,Enters.mk (l:=cargs.toList) hoc g3 hcall rfl (by rw [nh]),G,?_⟩))⟩
    rintro cv' w' ⟨μ',h1,h2,h3,h4⟩
    exact ⟨μ',h1,h2,wEY A (hE.mono h1.mono) h3,h4⟩
   ·rename_i b hb
    rw [hb] at hx
    obtain ⟨c,g1,g2⟩:=hx
    have hy:=HY _ _ _ _ _ hr
    have Y:=hy μ w _ c S ha g1
    have R:=Yd.rounds (σ:=σ) hoc g2 rfl Y
    refine .inl ⟨hw,.inr (.inr (.inr (R.mono ?_)))⟩
    rintro cv w' ⟨t,rfl,μ',h1,h2,rfl,h4⟩
    exact ⟨μ',h1,h2,wEY A (hE.mono h1.mono) rfl,h4⟩
   ·cases hr
  ·have hk:kdA a.op=0 \/ kdA a.op=1 \/ kdA a.op=3:=by
    cases hq:a.op <;> rw [hq] at k4 k5 <;> simp [kdA] at k4 k5 ⊢
   obtain ⟨μ',w',cv,h1,h2,h3,h4,h5⟩:=wTL (C:=C) hk hop σA h v h' hr μ σ w hE S o rfl
   exact .inl ⟨hw,.inr (.inl ⟨cv,w',h5,μ',h1,h2,wEY A (hE.mono h1.mono) h3,h4⟩)⟩
theorem wTO (HC:wGc C P tb ex) (HY:wFQ C P exY) {N:Nat} {l:List Oper} {a:AO} {o:Oper} {μ:Mu} {σA:Tr AV} {σ:Env} {h h':AH} {v:AV} {w:World} (A:AOK P N l a o) (hw:wanted l σ o=true) (hr:opK a.kd a.op tb ex exY σA h=some (v,h')) (hE:EnvR μ σA σ) (S:Sim C P μ h w) :
  Step1 P l o σ w fun cv w'=>(a.kd=2->Keep w w' Non)/\∃ μ',Ext μ h.fl.nat w μ' w'/\Sim C P μ' h' w'/\EnvR μ' (wGi a.dst σA v) (put' σ o cv)/\h'.fl=h.fl:=by
 by_cases k2:a.kd=2
 ·have hr:wQf a.op tb ex exY σA h=some (v,h'):=by rw [k2] at hr;exact hr
  unfold wQf at hr
  split at hr
  ·rename_i v0 h0 hq
   cases hr
   refine (wTN HC HY A hw hq hE (S.floor h.nx)).mono ?_
   rintro cv w' ⟨μ',h1,h2,h3,h4⟩
   obtain ⟨g1,g2⟩:=S.non h1 h.fl.nat
   exact ⟨fun _=>g1,μ',g2,h2.floor h.fl,h3,rfl⟩
  ·cases hr
 ·have hr:opY a.op tb ex exY σA h=some (v,h'):=by
   have hb:nD a.kd 2=false:=by
    cases hb:nD a.kd 2 with
    | false=>rfl
    | true=>exact absurd (nB hb) k2
   have:opK a.kd a.op=opY a.op:=by unfold opK;rw [hb]
   rw [this] at hr;exact hr
  exact (wTN HC HY A hw hr hE S).mono fun cv w' hq=>⟨fun e=>absurd e k2,hq⟩
def flK (k:Nat):Bool:=nD k 1 || nD k 3
def wKG:List AO->Sch
 | []=>.nil
 | a :: os=>match flK a.kd with
  | true=>.fl a.ix (wKG os)
  | false=>.fx a.ix (wKG os) .stop
theorem wKH (HC:wGc C P tb ex) (HY:wFQ C P exY) {N:Nat} {l:List Oper} {ks:List Nat} {Q:wDf} {D:List Deferred}:∀ (os:List AO) (σA:Tr AV) (h:AH) (σA':Tr AV) (h':AH),wAf tb ex exY os σA h=some (σA',h') ->
  (∀ a ∈ os,wHh P N l a=true/\kOf ks a.ix=a.kd)->∀ (μ:Mu) (σ:Env) (w:World),Sim C P μ h w->EnvR μ σA σ ->
  (∀ μ' w' σ',Ext μ h.fl.nat w μ' w'->Sim C P μ' h' w'->EnvR μ' σA' σ'->h'.fl=h.fl->Q D .normal σ' w')->OKS N P l Q D ks (wKG os) σ w
 | [],σA,h,σA',h',hr,_,μ,σ,w,S,hE,hQ=>by
  rw [wBG] at hr;cases hr
  exact hQ μ w σ (Ext.refl μ _ w) S hE rfl
 | a :: os,σA,h,σA',h',hr,hc,μ,σ,w,S,hE,hQ=>by
  obtain ⟨hc1,hk⟩:=hc a (by simp)
  obtain ⟨o,A⟩:=wDK hc1
  have hc2:∀ b ∈ os,wHh P N l b=true/\kOf ks b.ix=b.kd:=fun b hb=>hc b (by simp [hb])
  rw [wBJ] at hr
  have hw:=wJL A hE
  cases hwa:wCx σA a.grd with
  | false =>
   rw [hwa] at hr hw
   simp only at hr
   have IH:=wKH HC HY os _ h σA' h' hr hc2 μ (put' σ o undef) w S (wEY A hE (wOB μ)) hQ
   unfold wKG
   split
   ·exact ⟨o,A.get,wIm A,.inr ⟨hw,IH⟩⟩
   ·exact ⟨⟨o,A.get,wIm A,.inr ⟨hw,KeepD.refl l ks _ w,IH⟩⟩,trivial⟩
  | true =>
   rw [hwa] at hr hw
   simp only at hr
   split at hr
   ·rename_i r hop
    obtain ⟨v,h1⟩:=r
    simp only at hr
    unfold wKG
    split
    ·rename_i hfl
     have hk13:a.kd=1 \/ a.kd=3:=by
      unfold flK at hfl
      simp only [nM] at hfl
      exact hfl.imp nB nB
     have hop:opY a.op tb ex exY σA h=some (v,h1):=by
      rcases hk13 with e | e <;> (rw [e] at hop;exact hop)
     have hL:kdA a.op=1 \/ kdA a.op=3:=by
      rcases hk13 with e | e
      ·exact A.k1 e
      ·exact .inr (A.k3 e)
     obtain ⟨rfl,hh⟩:=wIl (C:=C) hL A.op σA h v h1 hop
     obtain ⟨cv,g1,g2⟩:=hh μ σ w hE S
     refine ⟨o,A.get,wIm A,.inl ⟨hw,?_⟩⟩
     by_cases k3:a.kd=3
     ·obtain ⟨_,hp⟩:=wIk (tb:=tb) (ex:=ex) (exY:=exY) (A.k3 k3) A.op σA h1 v h1 hop
      obtain ⟨cv,g1,g2⟩:=hp μ σ hE
      exact ⟨cv,fun w' _=>g2 o w' rfl,⟨fun _ w'=>g2 o w' rfl,fun _ w' _=>g2 o w' rfl⟩,wKH HC HY os _ h1 σA' h' hr hc2 μ _ w S (wEY A hE g1) hQ⟩
     ·exact ⟨cv,g2 o rfl,⟨fun e=>absurd (hk ▸ e) k3,fun e=>by rw [hk] at e;rcases hk13 with q | q <;> omega⟩,wKH HC HY os _ h1 σA' h' hr hc2 μ _ w S (wEY A hE g1) hQ⟩
    ·refine ⟨⟨o,A.get,wIm A,(wTO HC HY A hw hop hE S).mono ?_⟩,trivial⟩
     rintro cv w1 ⟨q0,μ1,q1,q2,q3,q4⟩
     refine ⟨⟨fun e=>q0 (hk ▸ e),fun e=>absurd (hk ▸ e) A.k5⟩,wKH HC HY os _ h1 σA' h' hr hc2 μ1 _ w1 q2 q3 fun μ' w' σ' r1 r2 r3 r4=>?_⟩
     rw [q4] at r1 r4
     exact hQ μ' w' σ' (q1.trans r1) r2 r3 r4
   ·cases hr
end
end
end Go.KX
namespace Go.KX
open Go.RowKit Go.KL
section
variable {C:Chk} {P:Program} {tb:Tr AF} {ex exY:Run}
def OkA (C:Chk) (P:Program) (op:Op) (f:Tr AV->AH->Option (AV × AH)):Prop :=
 ∀ σA h v h',f σA h=some (v,h')->∃ (B:AB) (vf:Pos->AV),h'=h.push B/\v=vf h.nx/\(∀ h2:AH,f σA h2=some (vf h2.nx,h2.push B))/\wMi B/\∀ μ σ,EnvR μ σA σ->∀ o:Oper,o.op=op ->
  ∃ (ob:Obj) (val:Nat->Value),(∀ w:World,Runs P σ w o (val w.heap.size) (w.alloc ob)) /\
   (∀ μ' (w:World) b,μ.Le μ'->w.heap[b]?=some ob->AbR C P μ' w ⟨b,0,g0⟩ B)/\∀ μ' p b,μ' p=some ⟨b,0,g0⟩->Rv μ' (vf p) (val b)
theorem wMn {α:Type} {b:Bool} {x:Option α} (h:b=true):ifO b x=x:=by subst h;rfl
theorem a_new {T:Nat} {z:List AV} {op:Op} (hc:wOR P T z op=true):OkA C P op (wRG T z):=by
 intro σA h v h' hr
 cases hr
 unfold wOR at hc
 split at hc
 ·simp only [nA] at hc
  have e:=nB hc.1
  subst e
  obtain ⟨i,zv,z1,z2,z3⟩:=wFN hc.2
  refine ⟨.cells T z,fun p=>.ptr p 0,rfl,rfl,fun h2=>rfl,trivial,fun μ σ hE o ho=>?_⟩
  refine ⟨_,fun b=>.pointer (some ⟨b,0,none⟩),fun w=>⟨by rw [ho];rfl,?_⟩,fun μ' w b hm hb=>⟨_,z3 μ',hb⟩,fun μ' p b hp=>⟨_,hp,rfl⟩⟩
  simp [execOp,ho,Instr.alloc,wDl z1 z2,newVar,newRow,newObj,Sem.run]
 ·cases hc
theorem a_box {T:Nat} {x:AOd} {op:Op} (hc:wOS T x op=true):OkA C P op (wMd T x):=by
 intro σA h v h' hr
 cases hr
 unfold wOS at hc
 split at hc
 ·simp only [nA] at hc
  have e:=nB hc.1
  subst e
  refine ⟨.cells T _,fun p=>.ptr p 0,rfl,rfl,fun h2=>rfl,trivial,fun μ σ hE o ho=>?_⟩
  obtain ⟨vs,v1,v2⟩:=wGq (wAJ hc.2 hE)
  refine ⟨.cells vs.toArray T,fun b=>.pointer (some ⟨b,0,none⟩),fun w=>⟨by rw [ho];rfl,?_⟩,fun μ' w b hm hb=>⟨vs,v1.mono hm,hb⟩,fun μ' p b hp=>⟨_,hp,rfl⟩⟩
  simp [execOp,ho,Instr.box,newVar,newRow,newObj,v2,Sem.run]
 ·cases hc
theorem a_mkm {op:Op} (hc:wOT op=true):OkA C P op wRH:=by
 intro σA h v h' hr
 cases hr
 unfold wOT at hc
 split at hc
 ·refine ⟨.map0,fun p=>.map p,rfl,rfl,fun h2=>rfl,trivial,fun μ σ hE o ho=>?_⟩
  refine ⟨.map #[] 0,fun b=>.map (some b),fun w=>⟨by rw [ho];rfl,?_⟩,fun μ' w b hm hb=>⟨0,hb⟩,fun μ' p b hp=>⟨_,hp,rfl⟩⟩
  simp [execOp,ho,Instr.makeMap,newObj,Sem.run,Result.andThen]
 ·cases hc
theorem a_mks {T sz by_:Nat} {z:List AV} {x y:AOd} {op:Op} (hc:wOU P T sz by_ z x y op=true):OkA C P op (wHT T sz by_ z x y):=by
 intro σA h v h' hr
 unfold wOU at hc
 split at hc
 ·rename_i t x' y'
  simp only [nA] at hc
  obtain ⟨c1,c2,c3,c4,c5,c6,c7⟩:=hc
  obtain ⟨d,d1,d2⟩:=wAq c1
  split at d2 <;> first | (cases d2;done) | skip
  have e:=nB d2
  subst e
  rename_i e
  obtain ⟨i,i1,i2⟩:=wGs c2
  obtain ⟨i',j1,j2⟩:=wGt c3
  obtain ⟨i'',zv,k1,k2,k3⟩:=wFN c4
  rw [i1] at j1 k1;cases j1;cases k1
  have hz:=nB c5
  unfold wHT at hr
  split at hr
  ·rename_i l c hl hcc
   obtain ⟨hb,hr⟩:=wBm hr
   cases hr
   simp only [nA,nL] at hb
   obtain ⟨⟨⟨b1,b2⟩,b3⟩,b4⟩:=hb
   refine ⟨.cells e (rep c z),fun p=>.sl p 0 l c,rfl,rfl,fun h2=>(by simp only [wHT,hl,hcc];exact wMn (by simp [b1,b2,b3,b4])),trivial,fun μ σ hE o ho=>?_⟩
   have hx:=wAJ c6 hE;rw [wCN hl] at hx
   have hy:=wAJ c7 hE;rw [wCN hcc] at hy
   have hx:ev σ x'=.int .i64 (l:Int):=hx
   have hy:ev σ y'=.int .i64 (c:Int):=hy
   have zlen:zv.cells.size=sz:=by rw [<- hz,wEi,<- wDD (k3 μ)];simp
   have hcells:(madeCells zv.cells (c * sz))=((nP c zv.cells.toList).flatten).toArray:=by
    apply nJ
    have:=wFP (zc:=zv.cells) (n:=0) c
    simp only [or_false] at this
    rw [zlen] at this
    show ((nT (c * sz)).map (zv.cells[· % zv.cells.size]!)).toList=_
    rw [zlen,this]
   refine ⟨.cells ((nP c zv.cells.toList).flatten).toArray e,fun b=>.slice (some ⟨b,0,none⟩) l c,fun w=>⟨by rw [ho];rfl,?_⟩,fun μ' w b hm hb=>⟨_,wHZ (k3 μ') c,hb⟩,fun μ' p b hp=>⟨_,hp,b1,rfl⟩⟩
   have hrun:=run_makeSlice (P:=P) w t e i zv d1 i1 k2 .i64 .i64 (l:Int) (c:Int) (by omega) (by omega) (by rw [i2,ng];exact b2) (by rw [j2];have hb:=Int.ofNat_le.2 b3;rw [Int.natCast_mul] at hb;exact hb) (by omega)
   simp only [ng,i2] at hrun
   rw [hcells] at hrun
   simp [execOp,ho,hx,hy,hrun,Result.andThen]
  ·cases hr
 ·cases hc
theorem wTP {T n:Nat} {z:List AV} {ps:List (Nat × Nat × AOd)} {op:Op} (hc:wKE P T n z ps op=true):OkA C P op (wEg T n z ps):=by
 intro σA h v h' hr
 unfold wKE at hc
 split at hc
 ·rename_i t m qs
  simp only [nA] at hc
  obtain ⟨c1,c2,c3⟩:=hc
  have e:=nB c1
  subst e
  obtain ⟨d,d1,d2⟩:=wAq c2
  split at d2 <;> first | (cases d2;done) | skip
  have e:=nB d2
  subst e
  rename_i e
  split at c3
  ·rename_i i hi
   simp only [nA,nL] at c3
   obtain ⟨c3,c4,c5⟩:=c3
   split at c5
   ·rename_i zv hz
    unfold wEg at hr
    split at hr
    ·rename_i r hr3
     cases hr
     refine ⟨.cells e r,fun p=>.sl p 0 m m,rfl,rfl,fun h2=>by simp only [wEg,hr3],trivial,fun μ σ hE o ho=>?_⟩
     obtain ⟨R,r1,r2,r3⟩:=wHe hE hr3 c4 (wGN μ c5)
     have hf:=wDZ _ _ _ _ r1
     refine ⟨.cells R.toArray e,fun b=>.slice (some ⟨b,0,none⟩) m m,fun w=>⟨by rw [ho];rfl,?_⟩,fun μ' w b hm hb=>⟨_,r2.mono hm,hb⟩,fun μ' p b hp=>⟨_,hp,nH _,rfl⟩⟩
     have hs:∀ w,(sizeOf e).run P w=.ok i.size w:=fun w=>by simp [sizeOf,typeInfo,hi]
     have hn':¬ m * i.size > 2 ^ 24:=by omega
     have hq:(qs.map fun (p:Nat × Operand)=>(p.1,ev σ p.2)).toList=qs.toList.map fun (p:Nat × Operand)=>(p.1,ev σ p.2):=by simp
     by_cases h0:m * i.size=0
     ·rw [h0] at hf
      simp only [List.range_zero,nw] at hf
      have hr0:(nT 0).map (fun x=>(#[]:Array Value)[x % (#[]:Array Value).size]!)=#[]:=by rw [show (nT 0)=#[] from rfl,Array.map_empty]
      have hn0:¬ (0:Nat) > 2 ^ 24:=by decide
      simp only [execOp,ho,Instr.buildSlice,Sem.run_bind,wAw d1,hs,Result.andThen_ok,h0,if_neg hn0,if_true,Sem.run_pure,hq,hr0,hf]
      simp [newRow,newObj,Sem.run,Result.andThen]
     ·have hzs:(nT (m * i.size)).map (zv.cells[· % zv.cells.size]!)=((nt (m * i.size)).map fun k=>zv.cells[k % zv.cells.size]!).toArray:=by rw [<- kM,List.map_toArray]
      simp only [execOp,ho,Instr.buildSlice,Sem.run_bind,wAw d1,hs,wDl hi hz,Result.andThen_ok,if_neg hn',if_neg h0,Sem.run_pure,hq,hzs,hf]
      simp [newRow,newObj,Sem.run,Result.andThen]
    ·cases hr
   ·cases c5
  ·cases c3
 ·cases hc
def wBo:AOp->List AOd
 | .mv x=>[x]
 | .pick c x y=>[c] ++ [x] ++ [y]
 | .new _ _=>[]
 | .box _ x=>[x]
 | .ld x=>[x]
 | .ldA _ x=>[x]
 | .st _ x y=>[x] ++ [y]
 | .nilc x=>[x]
 | .add x y=>[x] ++ [y]
 | .sub x y=>[x] ++ [y]
 | .mul x y=>[x] ++ [y]
 | .quo x y=>[x] ++ [y]
 | .rem x y=>[x] ++ [y]
 | .lss x y=>[x] ++ [y]
 | .leq x y=>[x] ++ [y]
 | .gtr x y=>[x] ++ [y]
 | .geq x y=>[x] ++ [y]
 | .eql x y=>[x] ++ [y]
 | .neq x y=>[x] ++ [y]
 | .eqb _ x y=>[x] ++ [y]
 | .eqn _ _ x y=>[x] ++ [y]
 | .eqs _ _ x y=>[x] ++ [y]
 | .neg x=>[x]
 | .not x=>[x]
 | .cvt _ x=>[x]
 | .mkf _ fi ca=>fi ++ ca
 | .mkm =>[]
 | .mks _ _ _ _ x y=>[x] ++ [y]
 | .slc _ x lo hi mx=>[x] ++ lo.toList ++ hi.toList ++ mx.toList
 | .slcA _ _ x lo hi=>[x] ++ lo.toList ++ hi.toList
 | .fad _ x=>[x]
 | .fld _ x=>[x]
 | .fldA _ _ x=>[x]
 | .iad _ x y=>[x] ++ [y]
 | .iadA _ _ x y=>[x] ++ [y]
 | .ix _ x y=>[x] ++ [y]
 | .ixA _ _ x y=>[x] ++ [y]
 | .lk _ _ _ _ x y=>[x] ++ [y]
 | .mput _ _ x y z=>[x] ++ [y] ++ [z]
 | .mdel _ _ x y=>[x] ++ [y]
 | .ext _ x=>[x]
 | .bld _ ps=>(ps.map fun q=>q.2.2)
 | .blds _ _ _ ps=>(ps.map fun q=>q.2.2)
 | .len x=>[x]
 | .lenM x=>[x]
 | .cap x=>[x]
 | .app _ _ _ x y=>[x] ++ [y]
 | .cpy _ x y=>[x] ++ [y]
 | .clr _ x=>[x]
 | .min x y=>[x] ++ [y]
 | .max x y=>[x] ++ [y]
 | .and x y=>[x] ++ [y]
 | .shr x y=>[x] ++ [y]
 | .ixs _ y=>[y]
 | .apz _ _ _ _ x y=>[x] ++ [y]
 | .call x l=>[x] ++ l
 | .bad=>[]
theorem wFq {σ1 σ2:Tr AV}:∀ {l:List AOd},(∀ x ∈ l,evA σ1 x=evA σ2 x)->evs σ1 l=evs σ2 l
 | [],_=>rfl
 | x :: l,h=>by
  show evA σ1 x :: evs σ1 l=evA σ2 x :: evs σ2 l
  rw [h x (by simp),wFq fun y hy=>h y (by simp [hy])]
theorem wFR {σ1 σ2:Tr AV}:∀ {ps:List (Nat × Nat × AOd)} {cs:List AV},(∀ q ∈ ps,evA σ1 q.2.2=evA σ2 q.2.2)->wJE σ1 cs ps=wJE σ2 cs ps
 | [],cs,_=>rfl
 | (off,n,x) :: ps,cs,h=>by
  have e:evA σ1 x=evA σ2 x:=h (off,n,x) (by simp)
  simp only [wJE,e]
  cases nD (len (evA σ2 x).cells) n with
  | false=>rfl
  | true =>
   cases wRE cs off (evA σ2 x).cells with
   | none=>rfl
   | some cs'=>exact wFR fun q hq=>h q (by simp [hq])
theorem wEk {σ1 σ2:Tr AV} {o:Option AOd} (h:∀ x ∈ o.toList,evA σ1 x=evA σ2 x):bnd σ1 o=bnd σ2 o:=by
 cases o with
 | none=>rfl
 | some x =>
  have e:=h x (by simp)
  simp only [bnd,e]
theorem wOb {σ1 σ2:Tr AV} (op:AOp) (h:∀ x ∈ wBo op,evA σ1 x=evA σ2 x) (hh:AH):opY op tb ex exY σ1 hh=opY op tb ex exY σ2 hh:=by
 cases op with
 | bld z ps=>exact (show wNo z ps σ1 hh=wNo z ps σ2 hh by simp only [wNo];rw [wFR fun q hq=>h q.2.2 (List.mem_map.2 ⟨q,hq,rfl⟩)])
 | blds T n z ps=>exact (show wEg T n z ps σ1 hh=wEg T n z ps σ2 hh by simp only [wEg];rw [wFR fun q hq=>h q.2.2 (List.mem_map.2 ⟨q,hq,rfl⟩)])
 | mkf f fi ca=>exact (show wMe f fi ca σ1 hh=wMe f fi ca σ2 hh by simp only [wMe];rw [wFq fun x hx=>h x (kH _ hx),wFq fun x hx=>h x (kE _ hx)])
 | call x l=>exact (show wGa x l tb ex exY σ1 hh=wGa x l tb ex exY σ2 hh by simp only [wGa];rw [h x (kH _ (by simp)),wFq fun y hy=>h y (kE _ hy)])
 | slc sz x lo hi mx=>exact (show wKh sz x lo hi mx σ1 hh=wKh sz x lo hi mx σ2 hh by
   simp only [wKh]
   rw [h x (by simp [wBo]),wEk fun y hy=>h y (by simp only [wBo,nO];exact .inl (.inl (.inr hy))),wEk fun y hy=>h y (by simp only [wBo,nO];exact .inl (.inr hy)),wEk fun y hy=>h y (by simp only [wBo,nO];exact .inr hy)])
 | slcA sz n x lo hi=>exact (show wHU sz n x lo hi σ1 hh=wHU sz n x lo hi σ2 hh by
   simp only [wHU]
   rw [h x (by simp [wBo]),wEk fun y hy=>h y (by simp only [wBo,nO];exact .inl (.inr hy)),wEk fun y hy=>h y (by simp only [wBo,nO];exact .inr hy)])
 | mv a_x=>exact (show wSZ a_x σ1 hh=wSZ a_x σ2 hh by simp only [wSZ,h a_x (by simp [wBo])])
 | pick a_c a_x a_y=>exact (show wHR a_c a_x a_y σ1 hh=wHR a_c a_x a_y σ2 hh by simp only [wHR,h a_c (by simp [wBo]),h a_x (by simp [wBo]),h a_y (by simp [wBo])])
 | new a_T a_z=>rfl
 | box a_T a_x=>exact (show wMd a_T a_x σ1 hh=wMd a_T a_x σ2 hh by simp only [wMd,h a_x (by simp [wBo])])
 | ld a_x=>exact (show wPc a_x σ1 hh=wPc a_x σ2 hh by simp only [wPc,h a_x (by simp [wBo])])
 | ldA a_n a_x=>exact (show wIU a_n a_x σ1 hh=wIU a_n a_x σ2 hh by simp only [wIU,h a_x (by simp [wBo])])
 | st a_n a_x a_y=>exact (show wQe a_n a_x a_y σ1 hh=wQe a_n a_x a_y σ2 hh by simp only [wQe,h a_x (by simp [wBo]),h a_y (by simp [wBo])])
 | nilc a_x=>exact (show wHS a_x σ1 hh=wHS a_x σ2 hh by simp only [wHS,h a_x (by simp [wBo])])
 | add a_x a_y=>exact (show wNc a_x a_y σ1 hh=wNc a_x a_y σ2 hh by simp only [wNc,h a_x (by simp [wBo]),h a_y (by simp [wBo])])
 | sub a_x a_y=>exact (show wNd a_x a_y σ1 hh=wNd a_x a_y σ2 hh by simp only [wNd,h a_x (by simp [wBo]),h a_y (by simp [wBo])])
 | mul a_x a_y=>exact (show wNe a_x a_y σ1 hh=wNe a_x a_y σ2 hh by simp only [wNe,h a_x (by simp [wBo]),h a_y (by simp [wBo])])
 | quo a_x a_y=>exact (show wNf a_x a_y σ1 hh=wNf a_x a_y σ2 hh by simp only [wNf,h a_x (by simp [wBo]),h a_y (by simp [wBo])])
 | rem a_x a_y=>exact (show wNg a_x a_y σ1 hh=wNg a_x a_y σ2 hh by simp only [wNg,h a_x (by simp [wBo]),h a_y (by simp [wBo])])
 | lss a_x a_y=>exact (show wNh a_x a_y σ1 hh=wNh a_x a_y σ2 hh by simp only [wNh,h a_x (by simp [wBo]),h a_y (by simp [wBo])])
 | leq a_x a_y=>exact (show wNi a_x a_y σ1 hh=wNi a_x a_y σ2 hh by simp only [wNi,h a_x (by simp [wBo]),h a_y (by simp [wBo])])
 | gtr a_x a_y=>exact (show wNj a_x a_y σ1 hh=wNj a_x a_y σ2 hh by simp only [wNj,h a_x (by simp [wBo]),h a_y (by simp [wBo])])
 | geq a_x a_y=>exact (show wNk a_x a_y σ1 hh=wNk a_x a_y σ2 hh by simp only [wNk,h a_x (by simp [wBo]),h a_y (by simp [wBo])])
 | eql a_x a_y=>exact (show wNl a_x a_y σ1 hh=wNl a_x a_y σ2 hh by simp only [wNl,h a_x (by simp [wBo]),h a_y (by simp [wBo])])
 | neq a_x a_y=>exact (show wNm a_x a_y σ1 hh=wNm a_x a_y σ2 hh by simp only [wNm,h a_x (by simp [wBo]),h a_y (by simp [wBo])])
 | eqb a_ne a_x a_y=>exact (show wKc a_ne a_x a_y σ1 hh=wKc a_ne a_x a_y σ2 hh by simp only [wKc,h a_x (by simp [wBo]),h a_y (by simp [wBo])])
 | eqn a_k a_ne a_x a_y=>exact (show wKd a_k a_ne a_x a_y σ1 hh=wKd a_k a_ne a_x a_y σ2 hh by simp only [wKd,h a_x (by simp [wBo]),h a_y (by simp [wBo])])
 | eqs a_ne a_s a_x a_y=>exact (show wKe a_ne a_s a_x a_y σ1 hh=wKe a_ne a_s a_x a_y σ2 hh by simp only [wKe,h a_x (by simp [wBo]),h a_y (by simp [wBo])])
 | neg a_x=>exact (show wNn a_x σ1 hh=wNn a_x σ2 hh by simp only [wNn,h a_x (by simp [wBo])])
 | not a_x=>exact (show wKf a_x σ1 hh=wKf a_x σ2 hh by simp only [wKf,h a_x (by simp [wBo])])
 | cvt a_k a_x=>exact (show wKg a_k a_x σ1 hh=wKg a_k a_x σ2 hh by simp only [wKg,h a_x (by simp [wBo])])
 | mkm =>rfl
 | mks a_T a_sz a_bytes a_z a_x a_y=>exact (show wHT a_T a_sz a_bytes a_z a_x a_y σ1 hh=wHT a_T a_sz a_bytes a_z a_x a_y σ2 hh by simp only [wHT,h a_x (by simp [wBo]),h a_y (by simp [wBo])])
 | fad a_off a_x=>exact (show wKi a_off a_x σ1 hh=wKi a_off a_x σ2 hh by simp only [wKi,h a_x (by simp [wBo])])
 | fld a_off a_x=>exact (show wKj a_off a_x σ1 hh=wKj a_off a_x σ2 hh by simp only [wKj,h a_x (by simp [wBo])])
 | fldA a_off a_n a_x=>exact (show wHV a_off a_n a_x σ1 hh=wHV a_off a_n a_x σ2 hh by simp only [wHV,h a_x (by simp [wBo])])
 | iad a_sz a_x a_y=>exact (show wKk a_sz a_x a_y σ1 hh=wKk a_sz a_x a_y σ2 hh by simp only [wKk,h a_x (by simp [wBo]),h a_y (by simp [wBo])])
 | iadA a_sz a_n a_x a_y=>exact (show wHW a_sz a_n a_x a_y σ1 hh=wHW a_sz a_n a_x a_y σ2 hh by simp only [wHW,h a_x (by simp [wBo]),h a_y (by simp [wBo])])
 | ix a_n a_x a_y=>exact (show wRI a_n a_x a_y σ1 hh=wRI a_n a_x a_y σ2 hh by simp only [wRI,h a_x (by simp [wBo]),h a_y (by simp [wBo])])
 | ixA a_sz a_n a_x a_y=>exact (show wKl a_sz a_n a_x a_y σ1 hh=wKl a_sz a_n a_x a_y σ2 hh by simp only [wKl,h a_x (by simp [wBo]),h a_y (by simp [wBo])])
 | lk a_two a_k a_ok a_z a_x a_y=>exact (show wPd a_two a_k a_ok a_z a_x a_y σ1 hh=wPd a_two a_k a_ok a_z a_x a_y σ2 hh by simp only [wPd,h a_x (by simp [wBo]),h a_y (by simp [wBo])])
 | mput a_two a_k a_x a_y a_z=>exact (show wGY a_two a_k a_x a_y a_z σ1 hh=wGY a_two a_k a_x a_y a_z σ2 hh by simp only [wGY,h a_x (by simp [wBo]),h a_y (by simp [wBo]),h a_z (by simp [wBo])])
 | mdel a_two a_k a_x a_y=>exact (show wGZ a_two a_k a_x a_y σ1 hh=wGZ a_two a_k a_x a_y σ2 hh by simp only [wGZ,h a_x (by simp [wBo]),h a_y (by simp [wBo])])
 | ext a_i a_x=>exact (show wKm a_i a_x σ1 hh=wKm a_i a_x σ2 hh by simp only [wKm,h a_x (by simp [wBo])])
 | len a_x=>exact (show wKn a_x σ1 hh=wKn a_x σ2 hh by simp only [wKn,h a_x (by simp [wBo])])
 | lenM a_x=>exact (show wFC a_x σ1 hh=wFC a_x σ2 hh by simp only [wFC,h a_x (by simp [wBo])])
 | cap a_x=>exact (show wKo a_x σ1 hh=wKo a_x σ2 hh by simp only [wKo,h a_x (by simp [wBo])])
 | app a_T a_sz a_bytes a_x a_y=>exact (show wJt a_T a_sz a_bytes a_x a_y σ1 hh=wJt a_T a_sz a_bytes a_x a_y σ2 hh by simp only [wJt,h a_x (by simp [wBo]),h a_y (by simp [wBo])])
 | cpy a_sz a_x a_y=>exact (show wJu a_sz a_x a_y σ1 hh=wJu a_sz a_x a_y σ2 hh by simp only [wJu,h a_x (by simp [wBo]),h a_y (by simp [wBo])])
 | clr a_z a_x=>exact (show wJv a_z a_x σ1 hh=wJv a_z a_x σ2 hh by simp only [wJv,h a_x (by simp [wBo])])
 | min a_x a_y=>exact (show wNp a_x a_y σ1 hh=wNp a_x a_y σ2 hh by simp only [wNp,h a_x (by simp [wBo]),h a_y (by simp [wBo])])
 | max a_x a_y=>exact (show wNq a_x a_y σ1 hh=wNq a_x a_y σ2 hh by simp only [wNq,h a_x (by simp [wBo]),h a_y (by simp [wBo])])
 | bad=>rfl
 | and a_x a_y=>exact (show wNr a_x a_y σ1 hh=wNr a_x a_y σ2 hh by simp only [wNr,h a_x (by simp [wBo]),h a_y (by simp [wBo])])
 | ixs a_l a_y=>exact (show wKp a_l a_y σ1 hh=wKp a_l a_y σ2 hh by simp only [wKp,h a_y (by simp [wBo])])
 | apz a_T a_sz a_b a_z a_x a_y=>exact (show wJy a_T a_sz a_b a_z a_x a_y σ1 hh=wJy a_T a_sz a_b a_z a_x a_y σ2 hh by simp only [wJy,h a_x (by simp [wBo]),h a_y (by simp [wBo])])
 | shr a_x a_y=>exact (show wNs a_x a_y σ1 hh=wNs a_x a_y σ2 hh by simp only [wNs,h a_x (by simp [wBo]),h a_y (by simp [wBo])])
variable {r:Option Nat} {N:Nat} {Q:wDf} {D:List Deferred} {l:List Oper}
theorem CK.anyRel {id:Nat} {σ:Env} {w:World} (hm:P.follows .mixedOrders=true) (hpr:∀ i,i < l.length->∀ j ∈ prI l i,j < i) (J:(Nat->Bool)->Env->World->Prop)
  (h0:J (fun _=>false) σ { w with drawn:=w.drawn + 1 })
  (step:∀ S i σ w,i < l.length->S i=false->(∀ j ∈ prI l i,S j=true)->(∀ k,k < l.length->S k=true->∀ j ∈ prI l k,S j=true)->(∀ k,S k=true->k < l.length)->J S σ w ->
   ∃ o,l[i]?=some o/\(∀ d,o.dst=some d->d < N)/\Step1 P l o σ w fun v w'=>J (fun k=>k == i || S k) (put' σ o v) w')
  (fin:∀ S σ w,(∀ i,i < l.length->S i=true)->J S σ w->Q D .normal σ w):CK r N P (.region id l.toArray true) Q D σ w:=by
 intro a ha
 refine wpIn_region_any hm ?_
 have prog:∀ (listed:Array Bool),listed.size=l.length->Region.ready .any l.toArray listed=[]->∀ i,i < l.length->listed.getD i false=true:=by
  intro listed hsz hnil i
  induction i using Nat.strongRecOn with
  | _ i ih =>
   intro hi
   cases hb:listed.getD i false with
   | true=>rfl
   | false =>
    have:i ∈ Region.ready .any l.toArray listed:=(wDW hsz).2 ⟨hi,hb,fun j hj=>ih j (hpr i hi j hj) (Nat.lt_trans (hpr i hi j hj) hi)⟩
    rw [hnil] at this;cases this
 have core:∀ (fuel:Nat) (listed:Array Bool) (σ:Env) (a:Act) (w:World),listed.size=l.length->Rep N D a σ->(∀ k,k < l.length->listed.getD k false=true->∀ j ∈ prI l k,listed.getD j false=true) ->
   J (fun i=>listed.getD i false) σ w->(listed.toList.filter (! ·)).length <= fuel->wpAnyIn (WF r) 0 P .any l.toArray (wIw N Q) fuel listed a w:=by
  intro fuel
  induction fuel with
  | zero =>
   intro listed σ a w hsz hr hdc hJ hf
   have hall:∀ i,i < l.length->listed.getD i false=true:=by
    intro i hi
    cases hb:listed.getD i false with
    | true=>rfl
    | false=>have:=wFi listed i (by omega) hb;omega
   refine ⟨?_,σ,D,hr,fin _ σ w hall hJ⟩
   cases hr:Region.ready .any l.toArray listed with
   | nil=>rfl
   | cons x xs =>
    have hx:x ∈ Region.ready .any l.toArray listed:=by rw [hr];simp
    obtain ⟨h1,h2,_⟩:=(wDW hsz).1 hx
    rw [hall x h1] at h2;cases h2
  | succ fuel ih =>
   intro listed σ a w hsz hr hdc hJ hf
   refine ⟨fun hnil=>⟨σ,D,hr,fin _ σ w (prog listed hsz hnil) hJ⟩,fun i hi=>?_⟩
   obtain ⟨hlt,hun,hpi⟩:=(wDW hsz).1 hi
   have hsz':(listed.setIfInBounds i true).size=l.length:=by simpa using hsz
   have hf':((listed.setIfInBounds i true).toList.filter (! ·)).length <= fuel:=by have:=wFi listed i (by omega) hun;omega
   have hS:∀ k,listed.getD k false=true->k < l.length:=by
    intro k hk
    rcases nv k l.length with h | h
    ·exact h
    ·rw [nZ,Array.getElem?_eq_none (by omega)] at hk;cases hk
   obtain ⟨o,ho,hN,hst⟩:=step _ i σ w hlt hun hpi hdc hS hJ
   refine wHH ho hr hN hst ?_
   intro v w' a' hr' hJ'
   refine ih _ (KL.put' σ o v) a' w' hsz' hr' ?_ ?_ hf'
   ·intro k hk hkl j hj
    rw [wFh (by omega)] at hkl ⊢
    rcases hkl with rfl | hkl
    ·exact .inr (hpi j hj)
    ·exact .inr (hdc k hk hkl j hj)
   ·have e:(fun k=>(listed.setIfInBounds i true).getD k false)=fun k=>k == i || listed.getD k false:=by
     funext k
     rw [Bool.eq_iff_iff,wFh (by omega),nM,beq_iff_eq]
    rw [e]
    exact hJ'
 have rep:∀ k,(kB l.toArray.size false).getD k false=false:=by
  intro k
  rw [nZ,ny]
  split <;> rfl
 refine core l.toArray.size (kB l.toArray.size false) σ a _ (by simp) ha ?_ ?_ ?_
 ·intro k hk hkl
  rw [rep k] at hkl
  cases hkl
 ·have e:(fun i=>(kB l.toArray.size false).getD i false)=fun _=>false:=by
   funext i
   rw [nZ,ny]
   split <;> rfl
  rw [e]
  exact h0
 ·exact nY (List.length_filter_le _ _) (by simp)
end
end Go.KX
namespace Go.KX
noncomputable section
open Go.RowKit Go.KL
def wCw:List AOd->List Pos
 | []=>[]
 | .t p :: l=>p :: wCw l
 | .c _ :: l=>wCw l
def wNI:AOp->Bool
 | .new _ _ | .box _ _ | .mkm | .mks _ _ _ _ _ _ | .blds _ _ _ _=>true
 | _=>false
def wCe (a:AO):List Pos:=wCw (wBo a.op) ++ (match a.grd with | some (p,_)=>[p] | none=>[])
def Sub (a:AOp) (o:Oper):Prop:=∀ t,Operand.tmp t ∈ o.op.operands->∃ p ∈ wCw (wBo a),p.nat - 1=t
def wLp (l:List Oper) (x i:Nat):Prop:=∀ S:Nat->Bool,(∀ k,k < l.length->S k=true->∀ j ∈ prI l k,S j=true)->(∀ j ∈ prI l i,S j=true)->S x=true
def wHi (acc:List Nat):List Nat->Nat
 | []=>0
 | p :: ps=>wHi acc ps ||| (2 ^ p ||| acc.getD p 0)
def wQl (acc:List Nat):List Oper->List Nat
 | []=>acc
 | o :: r=>wQl (acc ++ [wHi acc (wMW o)]) r
theorem wIn {acc:List Nat} {x:Nat}:∀ {ps:List Nat},(wHi acc ps).testBit x=true->∃ p ∈ ps,x=p \/ (acc.getD p 0).testBit x=true
 | [],h=>by simp [wHi] at h
 | p :: ps,h=>by
  simp only [wHi,Nat.testBit_or,nM,Nat.testBit_two_pow,decide_eq_true_eq] at h
  rcases h with h | h | h
  ·obtain ⟨q,h1,h2⟩:=wIn h
   exact ⟨q,by simp [h1],h2⟩
  ·exact ⟨p,by simp,.inl h.symm⟩
  ·exact ⟨p,by simp,.inr h⟩
theorem wKx {l:List Oper} (hpr:∀ i,i < l.length->∀ j ∈ prI l i,j < i):∀ (rest done:List Oper) (acc:List Nat),l=done ++ rest->acc.length=done.length->(∀ i x,(acc.getD i 0).testBit x=true->wLp l x i) ->
  ∀ i x,((wQl acc rest).getD i 0).testBit x=true->wLp l x i
 | [],done,acc,_,_,h,i,x,hx=>h i x hx
 | o :: r,done,acc,hl,hlen,h,i,x,hx=>by
  refine wKx hpr r (done ++ [o]) (acc ++ [wHi acc (wMW o)]) (by rw [hl];simp) (by simp [hlen]) ?_ i x hx
  intro i x hx
  rcases Nat.lt_trichotomy i acc.length with hi | hi | hi
  ·rw [nR,List.getElem?_append_left hi,<- nR] at hx
   exact h i x hx
  ·rw [nR,hi,nq (nH _),Nat.sub_self] at hx
   have hx:(wHi acc (wMW o)).testBit x=true:=hx
   have hlt:done.length < l.length:=by rw [hl];simp
   have hp:prI l done.length=wMW o:=by
    unfold prI
    rw [hl,nq (nH _),Nat.sub_self]
    rfl
   obtain ⟨p,h1,h2⟩:=wIn hx
   intro S hdc hS
   rw [hi,hlen] at hS
   have hSp:S p=true:=hS p (by rw [hp];exact h1)
   rcases h2 with rfl | h2
   ·exact hSp
   ·have:=hpr _ hlt p (by rw [hp];exact h1)
    exact h p x h2 S hdc (hdc p (by omega) hSp)
  ·rw [nR,nj (by simp;omega)] at hx
   simp at hx
def dne (b:AO) (p:Pos):Bool:=match b.dst with
 | none=>true
 | some q=>!Pos.beq q p
def subB (a:AOp) (o:Oper):Bool:=o.op.operands.toList.all fun
 | .tmp t=>(wCw (wBo a)).any fun p=>nD p.nat (t + 1)
 | _=>true
def kdOK (a:AO):Bool:=wCa a.kd || (a.dst.isSome && (nD a.kd 1 || (nD a.kd 3 || ((nD a.kd 6 && nD (kdA a.op) 3) || ((nD a.kd 4 && wNI a.op) || (nu 8 a.kd && nD (kdA a.op) 1))))))
def zld (m kd:Nat):Nat->List AO->Bool
 | _,[]=>true
 | n,b :: d=>(!Nat.beq b.kd 0 || (m.testBit b.ix || nU (n + 8) kd)) && zld m kd (match wCa b.kd with | true=>n + 1 | false=>n) d
def zop (m:Nat) (l:List Oper) (d:List AO) (a:AO) (t:List AO):Bool :=
 (!wCa a.kd || d.all fun b=>m.testBit b.ix) &&
 ((match a.dst with | none=>true | some p=>d.all (fun b=>dne b p) && t.all (fun b=>dne b p)) &&
 ((wCe a).all (fun p=>dne a p && (t.all (fun b=>dne b p) && d.all (fun b=>dne b p || (m.testBit b.ix && (!(nD a.kd 1 || (nD a.kd 3 || nu 8 a.kd)) || !(nD b.kd 4 || nD b.kd 6)))))) &&
 ((!Nat.beq a.kd 1 || d.all fun b=>!Nat.beq b.kd 0 || m.testBit b.ix) && (!Nat.ble 8 a.kd || zld m a.kd 0 d) &&
 (t.all (fun b=>!Nat.beq b.ix a.ix) &&
 (kdOK a && (match l[a.ix]? with | none=>false | some o=>!wBt o && subB a.op o))))))
def zgo (an:List Nat) (l:List Oper) (d:List AO):List AO->Bool
 | []=>true
 | a :: t=>zop (an.getD a.ix 0) l d a t && zgo an l (a :: d) t
def wRm (a:AO):Bool:=nD a.kd 0 && (match a.op with | .mv _=>true | _=>false)
def wRn:List AO->List AO
 | []=>[]
 | a :: t=>match wRm a with
  | true=>[]
  | false=>a :: wRn t
def wPw:List AO->List AO
 | []=>[]
 | a :: t=>match wRm a with
  | true=>a :: t
  | false=>wPw t
theorem wQm:∀ os:List AO,os=wRn os ++ wPw os
 | []=>rfl
 | a :: t=>by
  unfold wRn wPw
  cases wRm a with
  | true=>rfl
  | false=>exact congrArg (a :: ·) (wQm t)
def ztl (an:List Nat) (l:List Oper) (os:List AO):Bool :=
 ((wPw os).all (fun a=>nU a.kd 8) && (wRn os).all fun a=>nU a.kd 8 || ((wCe a).all (fun p=>(wPw os).all fun b=>dne b p) && (match a.dst with | some p=>(wPw os).all fun b=>dne b p | none=>true))) && (zgo an l [] (wRn os) && (zgo an l [] (wPw os) && (wPw os).all fun b=>(wRn os).all fun a=>!Nat.beq a.ix b.ix && (an.getD b.ix 0).testBit a.ix))
def chkZ (l:List Oper) (os:List AO):Bool :=
 (nt l.length).all (fun i=>(prI l i).all (nU · i)) && ((nt l.length).all (fun i=>os.any fun a=>nD a.ix i) && (zgo (wQl [] l) l [] os || ztl (wQl [] l) l os))
def wPh (l:List AO):Nat:=l.countP fun b=>wCa b.kd
structure ZOK (P:Program) (N:Nat) (l:List Oper) (os:List AO):Prop where
 ao:∀ a ∈ os,wHh P N l a=true
 one:os.Pairwise fun a b=>a.ix ≠ b.ix
 pr:∀ i,i < l.length->∀ j ∈ prI l i,j < i
 anc:∀ s a t,os=s ++ a :: t->wCa a.kd=true->∀ b ∈ s,wLp l b.ix a.ix
 wr:∀ s a t,os=s ++ a :: t->∀ p,a.dst=some p->∀ b ∈ s ++ t,b.dst ≠ some p
 rd:∀ s a t,os=s ++ a :: t->∀ p ∈ wCe a,∀ b ∈ a :: t,b.dst ≠ some p
 rdS:∀ a ∈ os,∀ p ∈ wCe a,∀ b ∈ os,b.dst=some p->wLp l b.ix a.ix
 kd:∀ a ∈ os,wCa a.kd=true \/ (a.dst ≠ none/\(a.kd=1 \/ a.kd=3 \/ (a.kd=6/\kdA a.op=3) \/ (a.kd=4/\wNI a.op=true) \/ (8 <= a.kd/\kdA a.op=1)))
 cl:∀ a ∈ os,a.kd=1 \/ a.kd=3 \/ 8 <= a.kd->∀ p ∈ wCe a,∀ b ∈ os,b.dst=some p->b.kd ≠ 4/\b.kd ≠ 6
 sel:∀ a ∈ os,∀ o,l[a.ix]?=some o->wBt o=false
 sub:∀ a ∈ os,∀ o,l[a.ix]?=some o->Sub a.op o
 ld:∀ s a t,os=s ++ a :: t->a.kd=1->∀ b ∈ s,b.kd=0->wLp l b.ix a.ix
 ld8:∀ s a t,os=s ++ a :: t->8 <= a.kd->∀ s1 b s2,s=s1 ++ b :: s2->b.kd=0->wLp l b.ix a.ix \/ wPh s2 + 8 < a.kd
theorem wQn {m kd:Nat}:∀ (x:List AO) (b:AO) (y:List AO) (n:Nat),zld m kd n (x ++ b :: y)=true->b.kd=0->m.testBit b.ix=true \/ n + wPh x + 8 < kd
 | [],b,y,n,h,h0=>by
  rw [nV,zld,h0] at h
  simp only [nA,nM,nG] at h
  rcases h.1 with g | g | g
  ·exact absurd g (by decide)
  ·exact .inl g
  ·exact .inr g
 | c :: x,b,y,n,h,h0=>by
  rw [na,zld] at h
  simp only [nA] at h
  have:=wQn x b y _ h.2 h0
  refine this.imp id fun h=>?_
  unfold wPh at h ⊢
  rw [List.countP_cons]
  cases hf:wCa c.kd <;> rw [hf] at h <;> simp only [if_true,if_false,nN] at h ⊢ <;> omega
theorem Pos.beq_self:∀ p:Pos,p.beq p=true
 | .H=>rfl
 | .O p=>Pos.beq_self p
 | .I p=>Pos.beq_self p
theorem wHj {b:AO} {p:Pos} (h:dne b p=true):b.dst ≠ some p:=by
 intro e
 unfold dne at h
 rw [e] at h
 simp [Pos.beq_self] at h
theorem wQo {an:List Nat} {l:List Oper}:∀ (os d:List AO),zgo an l d os=true->∀ s a t,os=s ++ a :: t->zop (an.getD a.ix 0) l (s.reverse ++ d) a t=true
 | [],d,_,s,a,t,e=>by simp at e
 | b :: os,d,h,[],a,t,e=>by
  simp only [nV,nE] at e
  obtain ⟨rfl,rfl⟩:=e
  simp only [zgo,nA] at h
  exact h.1
 | b :: os,d,h,c :: s,a,t,e=>by
  simp only [na,nE] at e
  obtain ⟨rfl,rfl⟩:=e
  simp only [zgo,nA] at h
  have:=wQo (s ++ a :: t) (b :: d) h.2 s a t rfl
  simpa using this
theorem wTQ {α:Type} {R:α->α->Prop}:∀ (l:List α),(∀ s a t,l=s ++ a :: t->∀ b ∈ t,R a b)->l.Pairwise R
 | [],_=>List.Pairwise.nil
 | a :: l,h=>List.pairwise_cons.2 ⟨fun b hb=>h [] a l rfl b hb,wTQ l fun s b t e=>h (a :: s) b t (by rw [e];rfl)⟩
theorem wLq {P:Program} {N:Nat} {l:List Oper} {os:List AO} (hao:∀ a ∈ os,wHh P N l a=true) (hpr:∀ i,i < l.length->∀ j ∈ prI l i,j < i) (hz:zgo (wQl [] l) l [] os=true):ZOK P N l os:=by
 have han:∀ i x,((wQl [] l).getD i 0).testBit x=true->wLp l x i:=wKx hpr l [] [] rfl rfl fun i x h=>by simp at h
 have key:∀ s a t,os=s ++ a :: t->zop ((wQl [] l).getD a.ix 0) l s.reverse a t=true:=fun s a t e=>by
  have:=wQo os [] hz s a t e
  rwa [List.append_nil] at this
 have wMm:∀ s a t,os=s ++ a :: t ->
   (wCa a.kd=true->∀ b ∈ s,wLp l b.ix a.ix)/\(∀ p,a.dst=some p->∀ b ∈ s ++ t,b.dst ≠ some p) /\
   (∀ p ∈ wCe a,(∀ b ∈ a :: t,b.dst ≠ some p)/\∀ b ∈ s,b.dst=some p->wLp l b.ix a.ix/\(a.kd=1 \/ a.kd=3 \/ 8 <= a.kd->b.kd ≠ 4/\b.kd ≠ 6)) /\
   ((a.kd=1->∀ b ∈ s,b.kd=0->wLp l b.ix a.ix)/\(8 <= a.kd->∀ s1 b s2,s=s1 ++ b :: s2->b.kd=0->wLp l b.ix a.ix \/ wPh s2 + 8 < a.kd))/\(∀ b ∈ t,a.ix ≠ b.ix)/\kdOK a=true/\(∀ o,l[a.ix]?=some o->wBt o=false/\subB a.op o=true):=by
  intro s a t e
  have hk:=key s a t e
  unfold zop at hk
  simp only [nA,nQ,List.mem_reverse,nM,nX] at hk
  obtain ⟨k1,k2,k3,⟨k4,k8⟩,k5,k6,k7⟩:=hk
  refine ⟨fun hf b hb=>?_,fun p hp b hb=>?_,fun p hp=>⟨fun b hb=>?_,fun b hb hd=>?_⟩,⟨fun h1 b hb h0=>?_,fun h8 s1 b s2 es h0=>?_⟩,fun b hb he=>?_,k6,fun o ho=>?_⟩
  ·rcases k1 with k1 | k1
   ·rw [hf] at k1;cases k1
   ·exact han _ _ (k1 b hb)
  ·rw [hp] at k2
   simp only [nA,nQ,List.mem_reverse] at k2
   rcases nO.1 hb with hb | hb
   ·exact wHj (k2.1 b hb)
   ·exact wHj (k2.2 b hb)
  ·obtain ⟨g1,g2,g3⟩:=k3 p hp
   rcases List.mem_cons.1 hb with rfl | hb
   ·exact wHj g1
   ·exact wHj (g2 b hb)
  ·obtain ⟨g1,g2,g3⟩:=k3 p hp
   rcases g3 b hb with g | ⟨g,g'⟩
   ·exact absurd hd (wHj g)
   ·refine ⟨han _ _ g,fun hk=>?_⟩
    rcases g' with g' | g'
    ·rcases hk with hk | hk | hk
     ·rw [hk] at g';exact absurd g' (by decide)
     ·rw [hk] at g';exact absurd g' (by decide)
     ·simp only [Bool.or_eq_false_iff] at g'
      have h8:nu 8 a.kd=true:=by rw [nL];exact hk
      rw [g'.2.2] at h8
      cases h8
    ·constructor <;> intro h4 <;> rw [h4] at g' <;> exact absurd g' (by decide)
  ·rcases k4 with k4 | k4
   ·rw [h1] at k4;exact absurd k4 (by decide)
   ·rcases k4 b hb with g | g
    ·rw [h0] at g;exact absurd g (by decide)
    ·exact han _ _ g
  ·rcases k8 with k8 | k8
   ·rw [<- Bool.not_eq_true,nL] at k8
    exact absurd h8 k8
   ·rw [es,List.reverse_append,List.reverse_cons,nh] at k8
    rcases wQn s2.reverse b (s1.reverse) 0 (by simpa using k8) h0 with g | g
    ·exact .inl (han _ _ g)
    ·refine .inr ?_
     unfold wPh at g ⊢
     rw [List.countP_reverse] at g
     omega
  ·have:=k5 b hb
   rw [he] at this
   simp at this
  ·rw [ho] at k7
   simpa using k7
 have mem:∀ a ∈ os,∃ s t,os=s ++ a :: t:=fun a ha=>List.append_of_mem ha
 refine ⟨hao,wTQ os fun s a t e=>(wMm s a t e).2.2.2.2.1,hpr,fun s a t e=>(wMm s a t e).1,fun s a t e=>(wMm s a t e).2.1,fun s a t e p hp=>((wMm s a t e).2.2.1 p hp).1,fun a ha p hp b hb hd=>?_,fun a ha=>?_,fun a ha hk p hp b hb hd=>?_,fun a ha o ho=>?_,fun a ha o ho=>?_,fun s a t e=>(wMm s a t e).2.2.2.1.1,fun s a t e=>(wMm s a t e).2.2.2.1.2⟩
 ·obtain ⟨s,t,e⟩:=mem a ha
  obtain ⟨g1,g2⟩:=(wMm s a t e).2.2.1 p hp
  rw [e] at hb
  rcases nO.1 hb with hb | hb
  ·exact (g2 b hb hd).1
  ·exact absurd hd (g1 b hb)
 ·obtain ⟨s,t,e⟩:=mem a ha
  have hk:=(wMm s a t e).2.2.2.2.2.1
  unfold kdOK at hk
  simp only [nM,nA] at hk
  rcases hk with hk | ⟨h1,hk⟩
  ·exact .inl hk
  ·refine .inr ⟨fun e=>(by rw [e] at h1;cases h1),?_⟩
   rcases hk with hk | hk | ⟨hk,h2⟩ | ⟨hk,h2⟩ | ⟨hk,h2⟩
   ·exact .inl (nB hk)
   ·exact .inr (.inl (nB hk))
   ·exact .inr (.inr (.inl ⟨nB hk,nB h2⟩))
   ·exact .inr (.inr (.inr (.inl ⟨nB hk,h2⟩)))
   ·exact .inr (.inr (.inr (.inr ⟨by rwa [nL] at hk,nB h2⟩)))
 ·obtain ⟨s,t,e⟩:=mem a ha
  obtain ⟨g1,g2⟩:=(wMm s a t e).2.2.1 p hp
  rw [e] at hb
  rcases nO.1 hb with hb | hb
  ·exact (g2 b hb hd).2 hk
  ·exact absurd hd (g1 b hb)
 ·obtain ⟨s,t,e⟩:=mem a ha
  exact ((wMm s a t e).2.2.2.2.2.2 o ho).1
 ·obtain ⟨s,t,e⟩:=mem a ha
  have h1:=((wMm s a t e).2.2.2.2.2.2 o ho).2
  unfold subB at h1
  rw [nQ] at h1
  intro x hx
  have:=h1 (.tmp x) (by simpa using hx)
  simp only [List.any_eq_true] at this
  obtain ⟨p,g1,g2⟩:=this
  exact ⟨p,g1,by rw [nB g2];rfl⟩
structure ZAll (P:Program) (N:Nat) (l:List Oper) (os A B:List AO):Prop where
 eq:os=A ++ B
 za:ZOK P N l A
 zb:ZOK P N l B
 cross:∀ b ∈ B,∀ a ∈ A,a.ix ≠ b.ix/\wLp l a.ix b.ix
 low:∀ b ∈ B,b.kd < 8
 far:∀ a ∈ A,8 <= a.kd->∀ p,p ∈ wCe a \/ a.dst=some p->∀ b ∈ B,b.dst ≠ some p
 all:∀ i,i < l.length->∃ a ∈ os,a.ix=i
theorem wOc {P:Program} {N:Nat} {l:List Oper} {os:List AO} (hao:∀ a ∈ os,wHh P N l a=true) (h:chkZ l os=true):∃ A B,ZAll P N l os A B:=by
 unfold chkZ at h
 rw [nA,nA,nM] at h
 obtain ⟨hpr0,hall0,hz⟩:=h
 simp only [nQ,List.mem_range,nG,List.any_eq_true] at hpr0 hall0
 have hpr:∀ i,i < l.length->∀ j ∈ prI l i,j < i:=hpr0
 have hall:∀ i,i < l.length->∃ a ∈ os,a.ix=i:=fun i hi=>by
  obtain ⟨a,h1,h2⟩:=hall0 i hi
  exact ⟨a,h1,nB h2⟩
 have han:∀ i x,((wQl [] l).getD i 0).testBit x=true->wLp l x i:=wKx hpr l [] [] rfl rfl fun i x h=>by simp at h
 rcases hz with hz | hz
 ·exact ⟨os,[],by simp,wLq hao hpr hz,wLq (fun a ha=>by simp at ha) hpr rfl,fun b hb=>by simp at hb,fun b hb=>by simp at hb,fun a _ _ p _ b hb=>by simp at hb,hall⟩
 ·unfold ztl at hz
  simp only [nA,nQ,nG,nX] at hz
  obtain ⟨⟨h1,h5⟩,h2,h3,h4⟩:=hz
  have e:=wQm os
  refine ⟨wRn os,wPw os,e,wLq (fun a ha=>hao a (by rw [e];simp [ha])) hpr h2,wLq (fun a ha=>hao a (by rw [e];simp [ha])) hpr h3,fun b hb a ha=>⟨fun e=>?_,han _ _ (h4 b hb a ha).2⟩,h1,fun a ha h8 p hp b hb=>?_,hall⟩
  ·have:=(h4 b hb a ha).1
   rw [e] at this
   simp at this
  ·have h6:=h5 a ha
   simp only [nM,nA,nQ,nG] at h6
   rcases h6 with h6 | ⟨h6,h7⟩
   ·omega
   ·rcases hp with hp | hp
    ·exact wHj (h6 p hp b hb)
    ·rw [hp] at h7
     simp only [nQ] at h7
     exact wHj (h7 b hb)
theorem wJM {tb:Tr AF} {ex exY:Run} {σf:Tr AV} {h:AH}:∀ (x y:List AO) (n:Nat),wKS tb ex exY σf h n (x ++ y)=true->wKS tb ex exY σf h n x=true
 | [],_,_,_=>rfl
 | a :: x,y,n,hl=>by
  rw [na,wEh] at hl
  rw [wEh]
  cases hf:wCa a.kd with
  | true =>
   rw [hf] at hl
   exact wJM x y _ hl
  | false =>
   rw [hf] at hl
   simp only [nA] at hl ⊢
   exact ⟨hl.1,wJM x y _ hl.2⟩
theorem wKy {tb:Tr AF} {ex exY:Run} {σf:Tr AV} {h:AH}:∀ (x:List AO) (a:AO) (y:List AO) (n:Nat),wKS tb ex exY σf h n (x ++ a :: y)=true->wCa a.kd=false->n + wPh x + 8 < a.kd->wIh tb ex exY σf h a=true
 | [],a,y,n,hl,hf,hn=>by
  rw [nV,wEh,hf] at hl
  simp only [nA] at hl
  have hb:nU (n + 8) a.kd=true:=by rw [nG];exact hn
  rw [hb] at hl
  exact hl.1
 | c :: x,a,y,n,hl,hf,hn=>by
  rw [na,wEh] at hl
  unfold wPh at hn
  rw [List.countP_cons] at hn
  cases hc:wCa c.kd with
  | true =>
   rw [hc] at hl hn
   exact wKy x a y _ hl hf (by unfold wPh;simp only [if_true] at hn;omega)
  | false =>
   rw [hc] at hl hn
   simp only [nA] at hl
   exact wKy x a y _ hl.2 hf (by unfold wPh;simp only [if_false,nN] at hn;omega)
def LCK (tb:Tr AF) (ex exY:Run) (os:List AO) (σ0:Tr AV) (h0:AH) (σf:Tr AV):Prop :=
 ∀ s b t,os=s ++ b :: t->b.kd=0->∀ σ1 h1,wAf tb ex exY s σ0 h0=some (σ1,h1)->wKS tb ex exY σf h1 0 t=true
theorem wKz {tb:Tr AF} {ex exY:Run}:∀ (os:List AO) (σ:Tr AV) (h:AH) (r:Tr AV × AH),wNt tb ex exY os σ h=some r->wAf tb ex exY os σ h=some r/\LCK tb ex exY os σ h r.1
 | [],σ,h,r,hr=>by
  rw [wPn] at hr
  exact ⟨by rw [wBG];exact hr,fun s b t e=>by simp at e⟩
 | o :: os,σ,h,r,hr=>by
  rw [wNu] at hr
  split at hr
  ·cases hr
  ·rename_i q hq
   split at hr
   ·cases hr
   ·rename_i r' hr'
    have e:r'=r:=by
     split at hr
     ·split at hr
      ·cases hr;rfl
      ·cases hr
     ·cases hr;rfl
    subst e
    obtain ⟨g1,g2⟩:=wKz os _ _ _ hr'
    have g0:∀ s,wAf tb ex exY (o :: s) σ h=wAf tb ex exY s q.1 q.2:=by
     intro s
     rw [wBJ]
     unfold wRK at hq
     cases hw:wCx σ o.grd with
     | true =>
      rw [hw] at hq
      simp only at hq ⊢
      split at hq
      ·rename_i y hy
       cases hq
       rfl
      ·cases hq
     | false =>
      rw [hw] at hq
      cases hq
      rfl
    refine ⟨by rw [g0];exact g1,fun s b t e h0 σ1 h1 hs=>?_⟩
    cases s with
    | nil =>
     simp only [nV,nE] at e
     obtain ⟨rfl,rfl⟩:=e
     rw [wBG] at hs
     cases hs
     have hb:nD o.kd 0=true:=by rw [h0];rfl
     rw [hb] at hr
     simp only at hr
     split at hr
     ·assumption
     ·cases hr
    | cons c s =>
     simp only [na,nE] at e
     obtain ⟨rfl,rfl⟩:=e
     rw [g0] at hs
     exact g2 s b t rfl h0 σ1 h1 hs
theorem wLr {tb:Tr AF} {ex exY:Run} {os:List AO} {σ:Tr AV} {h:AH} {σf:Tr AV} (hk:∀ a ∈ os,a.kd < 8):LCK tb ex exY os σ h σf:=by
 intro s b t e _ σ1 h1 _
 have:∀ (l:List AO) (n:Nat),(∀ a ∈ l,a.kd < 8)->wKS tb ex exY σf h1 n l=true:=by
  intro l
  induction l with
  | nil=>intro n _;rfl
  | cons a l ih =>
   intro n hl
   rw [wEh]
   have ha:=hl a (by simp)
   have hb:nU (n + 8) a.kd=false:=by rw [<- Bool.not_eq_true,nG];omega
   cases wCa a.kd with
   | true=>exact ih _ fun b hb=>hl b (by simp [hb])
   | false =>
    simp only [hb,Bool.true_and]
    exact ih _ fun b hb=>hl b (by simp [hb])
 exact this t 0 fun a ha=>hk a (by rw [e];simp [ha])
end
end Go.KX
