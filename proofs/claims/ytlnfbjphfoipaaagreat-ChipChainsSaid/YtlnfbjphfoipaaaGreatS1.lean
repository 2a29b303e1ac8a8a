import Derived.Test.YtlnfbjphfoipaaaGreatS0
import Derived.Lib.AppendZerosOnto
set_option linter.all false
open Option renaming bind_some->hD
open List renaming set->hH,replicate->hJ,getElem?_eq_getElem->hU,flatMap->nA,length_cons->nB,getElem?_eq_some_iff->nE,append_assoc->nH,length_append->nI,map_append->nJ,mem_append->nK,getElem?_append_left->nL,flatMap_cons->nM,range->nN,mem_map->nO,length_set->nP,length_take->nQ,getElem?_append_right->nR,zipWith->nT,map_cons->nV,mem_singleton->nW,drop_eq_getElem_cons->nX,mem_of_getElem?->nY,mem_cons->na,all_eq_true->nb,drop_eq_nil_of_le->nf,length_nil->ni,nodup_append->nk,getElem?_eq_none->nl,length_singleton->nm,perm_middle->nn,ext_getElem?->nr,getElem?_set->nt,cons_append->nv,length_drop->nw,nil_append->kA,append_nil->kB,mem_cons_self->kD,getElem?_take->kE,getD_eq_getElem?_getD->kF,pairwise_iff_getElem->kG,ext_getElem->kH,map_nil->kJ,getElem?_cons_zero->kK,sum_replicate_nat->kO,mem_append_right->kP,mem_range->kR,mem_cons_of_mem->kS,mem_append_left->kT,getElem?_of_mem->kU,range_eq_range'->kV,all_cons->kW,length_zipWith->kX,getElem_of_mem->kY,length_flatMap->kZ,map_congr_left->ka,append_of_mem->kb,length->kf
open Int renaming toNat_natCast->nD,le_trans->ng,toNat_of_nonneg->nh,sub_add_cancel->nj,le_refl->nu,add_comm->kI,eq_ofNat_of_zero_le->kL,lt_or_le->kd
open Nat renaming le_refl->nG,zero_add->nU,mul_le_mul_right->nq,beq->ny,lt_or_ge->nz,one_mul->kM,eq_of_beq_eq_true->kQ,add_mul->kg
open Bool renaming false_eq_true->nS,and_eq_true->nc
open Option.some renaming inj->nZ,injEq->ke
open Array renaming replicate->kC
open Classical renaming em->kc
open List.Perm renaming trans->kh,refl->ki
open List.cons renaming inj->kj
namespace Go.Proofs.YtlnfbjphfoipaaaGreat
open Go.KL
structure wAO where
 Lo:Int
 Hi:Int
deriving DecidableEq,Inhabited,Repr
structure wAi where
 Offset:wAO
 Error:Int
deriving DecidableEq,Inhabited,Repr
structure wAK where
 Skier:Int
 Mat:Int
 Clock:Int
 Time:Int
deriving DecidableEq,Inhabited,Repr
structure wAA where
 Starts:List Int
 Splits:List wAO
 Clocks:List wAi
 Readings:List wAK
deriving DecidableEq,Inhabited,Repr
structure wAM where
 Skier:Int
 Mat:Int
deriving DecidableEq,Inhabited,Repr
structure wAH where
 skier:Int
 mat:Int
deriving DecidableEq,Inhabited,Repr
structure wAC where
 Kind:Int
 Skier:Int
 Index:Int
 Up:Bool
deriving DecidableEq,Inhabited,Repr
structure wAX where
 step:wAC
 from_:Int
 to_:Int
 count:Int
deriving DecidableEq,Inhabited,Repr
structure wAg where
 Race:wAA
 number:List (wAH × Int)
 edges:List wAX
structure wAf where
 far:List Int
 by_:List Int
deriving DecidableEq,Inhabited,Repr
structure wBH where
 Offset:wAO
 Error:Int
deriving DecidableEq,Inhabited,Repr
structure wAy where
 Skier:Int
 Mat:Int
 Clock:Int
 Time:Int
deriving DecidableEq,Inhabited,Repr
structure wAI where
 Starts:List Int
 Splits:List wAO
 Clocks:List wBH
 Readings:List wAy
deriving DecidableEq,Inhabited,Repr
structure wAd where
 Kind:Int
 Skier:Int
 Index:Int
 Up:Bool
deriving DecidableEq,Inhabited,Repr
structure wAQ where
 Skier:Int
 Mat:Int
deriving DecidableEq,Inhabited,Repr
structure wAa where
 t:List (List Int)
deriving DecidableEq,Inhabited,Repr
def wCH (p0:wAA):Option (Bool) :=
 if 10 < (↑p0.Starts.length:Int) then
  some true
 else
  if 9 < (↑p0.Splits.length:Int) then
   some true
  else
   if 6 < (↑p0.Clocks.length:Int) then
    some true
   else
    some (decide (44 < (↑p0.Readings.length:Int)))
def wBL :Option (wAA) :=
 some (⟨[0,300],[(⟨1000,1200⟩:wAO),(⟨900,1500⟩:wAO)],[(⟨(⟨-5,5⟩:wAO),1⟩:wAi)],[(⟨0,2,0,2250⟩:wAK),(⟨1,1,0,1400⟩:wAK),(⟨1,2,0,2499⟩:wAK)]⟩:wAA)
def wBF (p0:Int) (p1:Int):Option (wAM) :=
 some (⟨p0,p1⟩:wAM)
def wBg (p0:Int) (p1:Int) (p2:Int):Option (Bool) :=
 if p1 <= p0 then
  some (decide (p0 <= p2))
 else
  some false
def wCy (p0:List Int) (p1:(Int->Option Bool)):Option (Bool) :=
 jn (wFU 0 (↑p0.length:Int) (fun k2 _ =>
  (idx p0 (↑k2:Int)).bind fun x22 =>
  (p1 x22).bind fun x30 =>
  if x30=true then
   some (.inl ())
  else
   esc (some false)) ()) fun _ =>
 some true
def wDL (p0:Int):Option (Bool) :=
 (wBg p0 0 360000).bind fun x1 =>
 some x1
def wCE (p0:List wAO) (p1:(wAO->Option Bool)):Option (Bool) :=
 jn (wFU 0 (↑p0.length:Int) (fun k2 _ =>
  (idx p0 (↑k2:Int)).bind fun x22 =>
  (p1 x22).bind fun x37 =>
  if x37=true then
   some (.inl ())
  else
   esc (some false)) ()) fun _ =>
 some true
def wDM (p0:wAO) (p1:Int) (p2:Int):Option (Bool) :=
 if p0.Lo <= p0.Hi then
  if p1 <= p0.Lo then
   some (decide (p0.Hi <= p2))
  else
   some false
 else
  some false
def wDN (p0:wAO):Option (Bool) :=
 (wDM p0 0 360000).bind fun x5 =>
 some x5
def wBm (p0:List wAi) (p1:(wAi->Option Bool)):Option (Bool) :=
 jn (wFU 0 (↑p0.length:Int) (fun k2 _ =>
  (idx p0 (↑k2:Int)).bind fun x22 =>
  (p1 x22).bind fun x37 =>
  if x37=true then
   some (.inl ())
  else
   esc (some false)) ()) fun _ =>
 some true
def wDO (p0:wAi):Option (Bool) :=
 (wDM p0.Offset (-36000) 36000).bind fun x5 =>
 if x5=true then
  (wBg p0.Error 0 600).bind fun x17 =>
  some x17
 else
  some false
def wBE (p0:List wAK) (p1:(wAK->Option Bool)):Option (Bool) :=
 jn (wFU 0 (↑p0.length:Int) (fun k2 _ =>
  (idx p0 (↑k2:Int)).bind fun x22 =>
  (p1 x22).bind fun x37 =>
  if x37=true then
   some (.inl ())
  else
   esc (some false)) ()) fun _ =>
 some true
def wDP (p0:wAK):Option (Bool) :=
 (wBg p0.Time 0 360000).bind fun x5 =>
 some x5
def wAu (p0:wAA) (p1:wAM):Option (Bool) :=
 (wBg p1.Skier 0 (w64 ((↑p0.Starts.length:Int) - 1))).bind fun x9 =>
 if x9=true then
  (wBg p1.Mat 0 (↑p0.Splits.length:Int)).bind fun x21 =>
  some x21
 else
  some false
def wDQ (p0:wAK) (p1:wAA):Option (Bool) :=
 (wAu p1 (⟨p0.Skier,p0.Mat⟩:wAM)).bind fun x5 =>
 if x5=true then
  (wBg p0.Clock 0 (w64 ((↑p1.Clocks.length:Int) - 1))).bind fun x18 =>
  some x18
 else
  some false
def wDB (p0:wAA):Option (Int) :=
 (wBg (↑p0.Starts.length:Int) 1 8).bind fun x10 =>
 if x10=true then
  if 7 < (↑p0.Splits.length:Int) then
   some 2
  else
   if 4 < (↑p0.Clocks.length:Int) then
    some 2
   else
    if 40 < (↑p0.Readings.length:Int) then
     some 2
    else
     (wCy p0.Starts wDL).bind fun x35 =>
     if x35=true then
      (wCE p0.Splits wDN).bind fun x52 =>
      if x52=true then
       (wBm p0.Clocks wDO).bind fun x70 =>
       if x70=true then
        (wBE p0.Readings wDP).bind fun x92 =>
        if x92=true then
         (wBE p0.Readings (fun x=>wDQ x p0)).bind fun x116 =>
         if x116=true then
          some 0
         else
          some 1
        else
         some 3
       else
        some 3
      else
       some 3
     else
      some 3
 else
  some 2
def wDD :Option (wAH) :=
 some (⟨-1,0⟩:wAH)
def wCg {S E:Type} (f:S->wAC->Option (S ⊕ E)) (s0:S) (p1:wAA):Option (S ⊕ E) :=
 jn (wFU 0 4 (fun k12 s10 =>
  (idx ([1,(↑p1.Splits.length:Int),(↑p1.Clocks.length:Int),(↑p1.Readings.length:Int)]:List Int) (↑k12:Int)).bind fun x33 =>
  (if (↑k12:Int)=2 then
   some (true,s10)
  else
   some (decide ((↑k12:Int)=3),s10)).bind fun (b37,s38) =>
  if b37=true then
   jn (wFU 0 1 (fun k78 s76 =>
    jn (wFU 0 x33 (fun k113 s111 =>
     (f s111 (⟨(↑k12:Int),(↑k78:Int),(↑k113:Int),true⟩:wAC)).bind fun yr141 =>
     match yr141 with
     | .inl s151 =>
      (f s151 (⟨(↑k12:Int),(↑k78:Int),(↑k113:Int),false⟩:wAC)).bind fun yr154 =>
      match yr154 with
      | .inl s164 =>
       some (.inl s164)
      | .inr s164 =>
       esc (esc (esc (some (.inr s164))))
     | .inr s151 =>
      esc (esc (esc (some (.inr s151))))) s76) fun y195 =>
    some (.inl y195)) s38) fun y219 =>
   some (.inl y219)
  else
   jn (wFU 0 (↑p1.Starts.length:Int) (fun k247 s245 =>
    jn (wFU 0 x33 (fun k282 s280 =>
     (f s280 (⟨(↑k12:Int),(↑k247:Int),(↑k282:Int),true⟩:wAC)).bind fun yr310 =>
     match yr310 with
     | .inl s320 =>
      (f s320 (⟨(↑k12:Int),(↑k247:Int),(↑k282:Int),false⟩:wAC)).bind fun yr323 =>
      match yr323 with
      | .inl s333 =>
       some (.inl s333)
      | .inr s333 =>
       esc (esc (esc (some (.inr s333))))
     | .inr s320 =>
      esc (esc (esc (some (.inr s320))))) s245) fun y364 =>
    some (.inl y364)) s38) fun y388 =>
   some (.inl y388)) s0) fun y409 =>
 some (.inl y409)
def wDj (p0:wAA):Option (Unit) :=
 some ()
def wDq (p0:wAA) (p1:wAC):Option (Bool) :=
 (wBg p1.Skier 0 (w64 ((↑p0.Starts.length:Int) - 1))).bind fun x9 =>
 if x9=true then
  some (decide (p1.Index=0))
 else
  some false
def wEP (p0:wAA) (p1:wAC):Option (wAH × wAH) :=
 ((wDD).bind fun x22 =>
 some (x22.skier,x22.mat)).bind fun (x17,x18) =>
 some ((⟨x17,x18⟩:wAH),(⟨p1.Skier,0⟩:wAH))
def wEQ (p0:wAA) (p1:wAC):Option (Int × Int) :=
 (idx p0.Starts p1.Skier).bind fun x11 =>
 some (x11,w64 (-x11))
def wDr (p0:wAA) (p1:wAC):Option (Bool) :=
 (wBg p1.Skier 0 (w64 ((↑p0.Starts.length:Int) - 1))).bind fun x9 =>
 if x9=true then
  (wBg p1.Index 0 (w64 ((↑p0.Splits.length:Int) - 1))).bind fun x21 =>
  some x21
 else
  some false
def wER (p0:wAA) (p1:wAC):Option (wAH × wAH) :=
 (some ()).bind fun _ =>
 some ((⟨p1.Skier,p1.Index⟩:wAH),(⟨p1.Skier,w64 (p1.Index + 1)⟩:wAH))
def wES (p0:wAA) (p1:wAC):Option (Int × Int) :=
 (idx p0.Splits p1.Index).bind fun x11 =>
 some (x11.Hi,w64 (-x11.Lo))
def wDs (p0:wAA) (p1:wAC):Option (Bool) :=
 if p1.Skier=0 then
  (wBg p1.Index 0 (w64 ((↑p0.Clocks.length:Int) - 1))).bind fun x11 =>
  some x11
 else
  some false
def wDR (p0:Int):Option (wAH) :=
 some (⟨-1,w64 (1 + p0)⟩:wAH)
def wET (p0:wAA) (p1:wAC):Option (wAH × wAH) :=
 (wDD).bind fun x19 =>
 (wDR p1.Index).bind fun x29 =>
 some (x19,x29)
def wEU (p0:wAA) (p1:wAC):Option (Int × Int) :=
 (idx p0.Clocks p1.Index).bind fun x11 =>
 some (w64 (-x11.Offset.Lo),x11.Offset.Hi)
def wDd (p0:wAA) (p1:wAC):Option (Bool) :=
 if p1.Skier=0 then
  (wBg p1.Index 0 (w64 ((↑p0.Readings.length:Int) - 1))).bind fun x11 =>
  some x11
 else
  some false
def wEG (p0:wAA) (p1:wAC):Option (wAH × wAH) :=
 (idx p0.Readings p1.Index).bind fun x17 =>
 ((wDR x17.Clock).bind fun x36 =>
 some (x36.skier,x36.mat)).bind fun (x31,x32) =>
 some ((⟨x31,x32⟩:wAH),(⟨x17.Skier,x17.Mat⟩:wAH))
def wEH (p0:wAA) (p1:wAC):Option (Int × Int) :=
 (idx p0.Readings p1.Index).bind fun x9 =>
 (idx p0.Clocks x9.Clock).bind fun x25 =>
 some (w64 (x9.Time + x25.Error),w64 (x25.Error - x9.Time))
def wAo :Option (Unit) :=
 some ()
def wBW (p0:wAA) (p1:wAC):Option (wAH × wAH × Int) :=
 if p1.Kind=0 then
  ((wAo).bind fun _ =>
  some ()).bind fun _ =>
  (wEP p0 p1).bind fun (x92,x93) =>
  (wEQ p0 p1).bind fun (x113,x114) =>
  if p1.Up=true then
   (some ()).bind fun _ =>
   some (x92,x93,x113)
  else
   some (x93,x92,x114)
 else
  if p1.Kind=1 then
   ((wAo).bind fun _ =>
   some ()).bind fun _ =>
   (wER p0 p1).bind fun (x251,x252) =>
   (wES p0 p1).bind fun (x272,x273) =>
   if p1.Up=true then
    (some ()).bind fun _ =>
    some (x251,x252,x272)
   else
    some (x252,x251,x273)
  else
   if p1.Kind=2 then
    ((wAo).bind fun _ =>
    some ()).bind fun _ =>
    (wET p0 p1).bind fun (x410,x411) =>
    (wEU p0 p1).bind fun (x431,x432) =>
    if p1.Up=true then
     (some ()).bind fun _ =>
     some (x410,x411,x431)
    else
     some (x411,x410,x432)
   else
    if p1.Kind=3 then
     ((wAo).bind fun _ =>
     some ()).bind fun _ =>
     (wEG p0 p1).bind fun (x569,x570) =>
     (wEH p0 p1).bind fun (x590,x591) =>
     if p1.Up=true then
      (some ()).bind fun _ =>
      some (x569,x570,x590)
     else
      some (x570,x569,x591)
    else
     (wAo).bind fun _ =>
     none
def wDk (p0:wAA):Option (wAg) :=
 ((wDD).bind fun x22 =>
 some (wGu ([]:List (wAH × Int)) x22 0)).bind fun l13 =>
 (wDj p0).bind fun _ =>
 (wCg (S:=(List wAX) × (List (wAH × Int))) (E:=Empty) (fun (l1591,l1595) x1616 =>
  (wBW p0 x1616).bind fun (x1652,x1653,x1654) =>
  (wCF 0 2 (fun k1692 l1689 =>
   (idx ([x1652,x1653]:List wAH) (↑k1692:Int)).bind fun x1718 =>
   if (wLF l1689 x1718)=true then
    some l1689
   else
    some (wGu l1689 x1718 (↑(l1689.length):Int))) l1595).bind fun y1697 =>
  (app 56 l1591 [(⟨x1616,(wBP y1697 x1652 0),(wBP y1697 x1653 0),x1654⟩:wAX)]).bind fun x1773 =>
  some (.inl (x1773,y1697))) ([],l13) p0).bind fun rr1606 =>
 match rr1606 with
 | .inl (y1845,y1846) =>
  some (⟨p0,y1846,y1845⟩:wAg)
 | .inr e1851 =>
  e1851.elim
def wCb (p0:wAA):Option ((Option wAg) × Int) :=
 (wDB p0).bind fun x5 =>
 if x5=0 then
  (wDk p0).bind fun x21 =>
  some ((some x21),0)
 else
  some (none,x5)
def wBX (p0:List wAM) (p1:(wAM->Option Bool)):Option (Bool) :=
 jn (wFU 0 (↑p0.length:Int) (fun k2 _ =>
  (idx p0 (↑k2:Int)).bind fun x22 =>
  (p1 x22).bind fun x37 =>
  if x37=true then
   some (.inl ())
  else
   esc (some false)) ()) fun _ =>
 some true
def wEI (p0 p1:Int):Option (Int × Int):=if 0 <= p0/\p0 < 18446744073709551616/\0 <= p1/\p1 < 18446744073709551616 then some (p0 * p1 / 18446744073709551616,p0 * p1 % 18446744073709551616) else none
def wBY (p0:List Int) (p1:Int):Option ((List Int)) :=
 if p1 < 0 then
  none
 else
  (wEI (wMP (↑p0.length:Int)) (wMP p1)).bind fun (x4,x5) =>
  (if 0 < x4 then
   some true
  else
   some (decide (9223372036854775807 < x5))).bind fun b15 =>
  if b15=true then
   none
  else
   (mkz 8 (w64 x5) (0:Int)).bind fun x35 =>
   (wMQ x35 0 p0).bind fun x45 =>
   iter (fun (l58,x59) =>
    if x59 < (↑l58.length:Int) then
     (cut l58 x59 (↑(l58.length):Int)).bind fun x77 =>
     (cut l58 0 x59).bind fun x86 =>
     (wMQ l58 x59 x86).bind fun x95 =>
     some (.inl (x95,w64 (x59 + (↑(min x86.length (x77.length)):Int))))
    else
     esc (some l58)) big (x45,(↑(min p0.length (x35.length)):Int))
def wAh (p0:wAg) (p1:Int) (p2:Bool):Option (wAf × Int × Bool) :=
 ((wBY [1125899906842624] (↑(p0.number.length):Int)).bind fun x28 =>
 (wBY [-1] (↑(p0.number.length):Int)).bind fun x51 =>
 some (x28,x51)).bind fun (l9,l12) =>
 (wCF 0 (↑l9.length:Int) (fun k1254 l1253 =>
  if p1 < 0 then
   (chk (↑k1254:Int) l1253.length).bind fun _ =>
   some (hH l1253 k1254 0)
  else
   if (↑k1254:Int)=p1 then
    (chk (↑k1254:Int) l1253.length).bind fun _ =>
    some (hH l1253 k1254 0)
   else
    some l1253) l9).bind fun y1259 =>
 jn (wFU 0 (w64 ((↑(p0.number.length):Int) + 1)) (fun k1336 (l1333,l1334,x1335) =>
  (wCF 0 (↑p0.edges.length:Int) (fun k1375 (l1372,l1373,x1374) =>
   ((idx p0.edges (↑k1375:Int)).bind fun x1412 =>
   if p2=true then
    (chk x1412.to_ l1372.length).bind fun _ =>
    if (gd l1372 x1412.to_.toNat) < 1125899906842624 then
     (chk x1412.from_ l1372.length).bind fun _ =>
     if (w64 ((gd l1372 x1412.to_.toNat) + x1412.count)) < (gd l1372 x1412.from_.toNat) then
      ((chk x1412.from_ l1373.length).bind fun _ =>
      some ()).bind fun _ =>
      some ((hH l1372 x1412.from_.toNat (w64 ((gd l1372 x1412.to_.toNat) + x1412.count))),(hH l1373 x1412.from_.toNat (↑k1375:Int)),x1412.from_)
     else
      some (l1372,l1373,x1374)
    else
     some (l1372,l1373,x1374)
   else
    (chk x1412.from_ l1372.length).bind fun _ =>
    if (gd l1372 x1412.from_.toNat) < 1125899906842624 then
     (chk x1412.to_ l1372.length).bind fun _ =>
     if (w64 ((gd l1372 x1412.from_.toNat) + x1412.count)) < (gd l1372 x1412.to_.toNat) then
      ((chk x1412.to_ l1373.length).bind fun _ =>
      some ()).bind fun _ =>
      some ((hH l1372 x1412.to_.toNat (w64 ((gd l1372 x1412.from_.toNat) + x1412.count))),(hH l1373 x1412.to_.toNat (↑k1375:Int)),x1412.to_)
     else
      some (l1372,l1373,x1374)
    else
     some (l1372,l1373,x1374)).bind fun (l1406,l1407,x1408) =>
   some (l1406,l1407,x1408)) (l1333,l1334,-1)).bind fun (y1380,y1381,y1382) =>
  if y1382 < 0 then
   esc (some ((⟨y1380,y1381⟩:wAf),0,true))
  else
   some (.inl (y1380,y1381,y1382))) (y1259,l12,-1)) fun (y1697,y1698,y1699) =>
 some ((⟨y1697,y1698⟩:wAf),y1699,false)
def wBG (p0:wAg):Option (Bool) :=
 (wAh p0 (-1) false).bind fun (x3,x4,x5) =>
 some x5
def wDC (p0:wAA) (p1:List wAM):Option ((Option wAg) × Int) :=
 (wCb p0).bind fun (x5,x6) =>
 match x5 with
 | none =>
  if x6=0 then
   (wBX p1 (fun x=>wAu p0 x)).bind fun x40 =>
   if x40=true then
    none
   else
    some (none,1)
  else
   some (none,x6)
 | some x30 =>
  if x6=0 then
   (wBX p1 (fun x=>wAu p0 x)).bind fun x71 =>
   if x71=true then
    (wBG x30).bind fun x96 =>
    if x96=true then
     some ((some x30),0)
    else
     some (none,7)
   else
    some (none,1)
  else
   some (none,x6)
def wCp (p0:wAM):Option (wAH) :=
 some (⟨p0.Skier,p0.Mat⟩:wAH)
def wDE (p0:wAg) (p1:wAH) (p2:wAH):Option (wAO) :=
 ((wAh p0 (wBP p0.number p1 0) false).bind fun (x26,x27,x28) =>
 some (x26.far,x26.by_)).bind fun (l17,l20) =>
 ((wAh p0 (wBP p0.number p2 0) false).bind fun (x145,x146,x147) =>
 some (x145.far,x145.by_)).bind fun (l131,l134) =>
 (chk (wBP p0.number p1 0) l131.length).bind fun _ =>
 (chk (wBP p0.number p2 0) l17.length).bind fun _ =>
 some (⟨w64 (-(gd l131 (wBP p0.number p1 0).toNat)),(gd l17 (wBP p0.number p2 0).toNat)⟩:wAO)
def wFA (p0:wAA) (p1:wAM):Option (wAO × Int) :=
 (wDC p0 [p1]).bind fun (x27,x28) =>
 match x27 with
 | none =>
  if x28=0 then
   (wDD).bind fun x58 =>
   (wCp p1).bind fun x68 =>
   none
  else
   some ((⟨0,0⟩:wAO),x28)
 | some x52 =>
  if x28=0 then
   (wDD).bind fun x95 =>
   (wCp p1).bind fun x105 =>
   (wDE x52 x95 x105).bind fun x125 =>
   some (x125,0)
  else
   some ((⟨0,0⟩:wAO),x28)
def wGx (p0:wAA) (p1:wAM) (p2:wAM):Option (wAO × Int) :=
 (wDC p0 [p1,p2]).bind fun (x31,x32) =>
 match x31 with
 | none =>
  if x32=0 then
   (wCp p1).bind fun x62 =>
   (wCp p2).bind fun x72 =>
   none
  else
   some ((⟨0,0⟩:wAO),x32)
 | some x56 =>
  if x32=0 then
   (wCp p1).bind fun x99 =>
   (wCp p2).bind fun x109 =>
   (wDE x56 x99 x109).bind fun x129 =>
   some (x129,0)
  else
   some ((⟨0,0⟩:wAO),x32)
def wAv (p0:wAA) (p1:wAC):Option (Bool) :=
 if p1.Kind=0 then
  (wBg p1.Kind 0 3).bind fun x16 =>
  if x16=true then
   (wAo).bind fun _ =>
   (wDq p0 p1).bind fun x45 =>
   some x45
  else
   some false
 else
  if p1.Kind=1 then
   (wBg p1.Kind 0 3).bind fun x67 =>
   if x67=true then
    (wAo).bind fun _ =>
    (wDr p0 p1).bind fun x96 =>
    some x96
   else
    some false
  else
   if p1.Kind=2 then
    (wBg p1.Kind 0 3).bind fun x118 =>
    if x118=true then
     (wAo).bind fun _ =>
     (wDs p0 p1).bind fun x147 =>
     some x147
    else
     some false
   else
    if p1.Kind=3 then
     (wBg p1.Kind 0 3).bind fun x169 =>
     if x169=true then
      (wAo).bind fun _ =>
      (wDd p0 p1).bind fun x198 =>
      some x198
     else
      some false
    else
     (wBg p1.Kind 0 3).bind fun x220 =>
     if x220=true then
      (wAo).bind fun _ =>
      none
     else
      some false
def wBs (p0:List wAC) (p1:(wAC->Option Bool)):Option (Bool) :=
 jn (wFU 0 (↑p0.length:Int) (fun k2 _ =>
  (idx p0 (↑k2:Int)).bind fun x22 =>
  (p1 x22).bind fun x37 =>
  if x37=true then
   some (.inl ())
  else
   esc (some false)) ()) fun _ =>
 some true
def wCI (p0:wAA) (p1:List wAC):Option (Int) :=
 if 80 < (↑p1.length:Int) then
  some 2
 else
  (wBs p1 (fun x=>wAv p0 x)).bind fun x9 =>
  if x9=true then
   some 0
  else
   some 1
def wCS (p0:wAA) (p1:wAH) (p2:List wAC):Option (wAH × Int × Bool) :=
 jn (wFU 0 (↑p2.length:Int) (fun k27 (x24,x25,x26) =>
  (idx p2 (↑k27:Int)).bind fun x50 =>
  (wBW p0 x50).bind fun (x69,x70,x71) =>
  if x69=(⟨x24,x25⟩:wAH) then
   some (.inl (x70.skier,x70.mat,w64 (x26 + x71)))
  else
   esc (some ((⟨x24,x25⟩:wAH),0,false))) (p1.skier,p1.mat,0)) fun (y114,y115,y116) =>
 some ((⟨y114,y115⟩:wAH),y116,true)
def wDl (p0:wAA) (p1:wAM) (p2:wAM) (p3:List wAC):Option (Int × Int) :=
 (wDB p0).bind fun x13 =>
 if x13=0 then
  (wAu p0 p1).bind fun x29 =>
  if x29=true then
   (wAu p0 p2).bind fun x45 =>
   if x45=true then
    (wCI p0 p3).bind fun x64 =>
    if x64=0 then
     ((wCp p1).bind fun x85 =>
     (wCS p0 x85 p3).bind fun (x105,x106,x107) =>
     some (x105.skier,x105.mat,x106,x107)).bind fun (x78,x79,x80,b81) =>
     if b81=true then
      (wCp p2).bind fun x256 =>
      if (⟨x78,x79⟩:wAH)=x256 then
       some (x80,0)
      else
       some (0,8)
     else
      some (0,8)
    else
     some (0,x64)
   else
    some (0,1)
  else
   some (0,1)
 else
  some (0,x13)
def wFQ (p0:wAA) (p1:Int):Option ((Option wAg) × Int) :=
 (wDC p0 [(⟨0,p1⟩:wAM)]).bind fun (x19,x20) =>
 match x19 with
 | none =>
  some (none,x20)
 | some x44 =>
  some ((some x44),x20)
def wDo (p0:wAg) (p1:Int):Option ((Arr Int 64)) :=
 (wCF 0 (↑p0.Race.Starts.length:Int) (fun k19 a18 =>
  (wAh p0 (wBP p0.number (⟨(↑k19:Int),p1⟩:wAH) 0) false).bind fun (x47,x48,x49) =>
  (wCF 0 (↑p0.Race.Starts.length:Int) (fun k79 a78 =>
   (chk (wBP p0.number (⟨(↑k79:Int),p1⟩:wAH) 0) x47.far.length).bind fun _ =>
   (chk (↑k19:Int) 8).bind fun _ =>
   (chk (↑k79:Int) 8).bind fun _ =>
   some (a78.set (k19 * 8 + k79) (gd x47.far (wBP p0.number (⟨(↑k79:Int),p1⟩:wAH) 0).toNat))) a18).bind fun y84 =>
  some y84) (Arr.fill 64 0)).bind fun y24 =>
 some y24
def wFR (p0:wAA) (p1:Int):Option ((List wAO) × Int) :=
 (wFQ p0 p1).bind fun (x5,x6) =>
 match x5 with
 | none =>
  if x6=0 then
   none
  else
   some ([],x6)
 | some x30 =>
  if x6=0 then
   (wDo x30 p1).bind fun x48 =>
   (wCF 0 (↑p0.Starts.length:Int) (fun k83 l79 =>
    (wCF 0 (↑p0.Starts.length:Int) (fun k124 (x122,x123) =>
     (chk (↑k83:Int) 8).bind fun _ =>
     (chk (↑k124:Int) 8).bind fun _ =>
     if (x48.get (k83 * 8 + k124)) < 0 then
      if 0 < (x48.get (k124 * 8 + k83)) then
       some (w64 (x122 + 1),w64 (x123 + 1))
      else
       some (w64 (x122 + 1),x123)
     else
      if 0 < (x48.get (k124 * 8 + k83)) then
       some (x122,w64 (x123 + 1))
      else
       some (x122,x123)) (1,1)).bind fun (y129,y130) =>
    (app 16 l79 [(⟨y129,y130⟩:wAO)]).bind fun x207 =>
    some x207) []).bind fun y88 =>
   some (y88,0)
  else
   some ([],x6)
def wDH (p0:wAK) (p1:Int) (p2:Int):Option (Bool) :=
 some (decide ((⟨p0.Skier,p0.Mat⟩:wAM)=(⟨p1,p2⟩:wAM)))
def wBC (p0:List wAK) (p1:(wAK->Option Bool)):Option (Int) :=
 jn (wFU 0 (↑p0.length:Int) (fun k2 _ =>
  (idx p0 (↑k2:Int)).bind fun x22 =>
  (p1 x22).bind fun x30 =>
  if x30=true then
   esc (some (↑k2:Int))
  else
   some (.inl ())) ()) fun _ =>
 some (-1)
def wAx (p0:List wAK) (p1:(wAK->Option Bool)):Option (Bool) :=
 (wBC p0 p1).bind fun x1 =>
 some (decide (0 <= x1))
def wFE (p0:wAA):Option ((List wAM) × Int) :=
 (wDB p0).bind fun x5 =>
 if x5=0 then
  (wCF 0 (↑p0.Starts.length:Int) (fun k34 l30 =>
   iter (fun (l91,x95) =>
    if x95 <= (↑p0.Splits.length:Int) then
     (wAx p0.Readings (fun x=>wDH x (↑k34:Int) x95)).bind fun x127 =>
     if x127=true then
      some (.inl (l91,w64 (x95 + 1)))
     else
      (app 16 l91 [(⟨(↑k34:Int),x95⟩:wAM)]).bind fun x163 =>
      some (.inl (x163,w64 (x95 + 1)))
    else
     esc (some l91)) big (l30,1)) []).bind fun y39 =>
  some (y39,0)
 else
  some ([],x5)
def wBR (p0:List wAO) (p1:List wAO):Option (Bool) :=
 if (↑p0.length:Int)=(↑p1.length:Int) then
  jn (wFU 0 (↑p0.length:Int) (fun k4 _ =>
   (idx p0 (↑k4:Int)).bind fun x26 =>
   (idx p1 (↑k4:Int)).bind fun x34 =>
   if x26=x34 then
    some (.inl ())
   else
    esc (some false)) ()) fun _ =>
  some true
 else
  some false
def wCZ (p0:List wAM) (p1:List wAM):Option (Bool) :=
 if (↑p0.length:Int)=(↑p1.length:Int) then
  jn (wFU 0 (↑p0.length:Int) (fun k4 _ =>
   (idx p0 (↑k4:Int)).bind fun x26 =>
   (idx p1 (↑k4:Int)).bind fun x34 =>
   if x26=x34 then
    some (.inl ())
   else
    esc (some false)) ()) fun _ =>
  some true
 else
  some false
def wBn :Option (wAA) :=
 (wBL).bind fun x5 =>
 (chk 1 x5.Readings.length).bind fun _ =>
 some (⟨x5.Starts,x5.Splits,x5.Clocks,(hH x5.Readings 1 (⟨(gd x5.Readings 1).Skier,(gd x5.Readings 1).Mat,(gd x5.Readings 1).Clock,1700⟩:wAK))⟩:wAA)
def wEe (p0:wAg) (p1:List Int):Option ((List (List Int)) × (List Int)) :=
 (idx p1 0).bind fun x3 =>
 (wCF 0 (↑p0.Race.Starts.length:Int) (fun k31 l26 =>
  (wCF 0 (w64 ((↑p0.Race.Splits.length:Int) + 1)) (fun k74 l70 =>
   (idx p1 (wBP p0.number (⟨(↑k31:Int),(↑k74:Int)⟩:wAH) 0)).bind fun x103 =>
   (app 8 l70 [w64 (x103 - x3)]).bind fun x117 =>
   some x117) []).bind fun y79 =>
  (app 24 l26 [y79]).bind fun x161 =>
  some x161) []).bind fun y36 =>
 (wCF 0 (↑p0.Race.Clocks.length:Int) (fun k215 l211 =>
  (wDR (↑k215:Int)).bind fun x243 =>
  (idx p1 (wBP p0.number x243 0)).bind fun x253 =>
  (app 8 l211 [w64 (x3 - x253)]).bind fun x268 =>
  some x268) []).bind fun y220 =>
 some (y36,y220)
def wFg (p0:wAA):Option ((List (List Int)) × (List Int) × Int) :=
 (wCb p0).bind fun (x5,x6) =>
 match x5 with
 | none =>
  if x6=0 then
   none
  else
   some ([],[],x6)
 | some x30 =>
  if x6=0 then
   (wAh x30 (-1) false).bind fun (x59,x60,x61) =>
   if x61=true then
    (wEe x30 x59.far).bind fun (x101,x102) =>
    some (x101,x102,0)
   else
    some ([],[],7)
  else
   some ([],[],x6)
def wDS (p0:wAA) (p1:List wAC):Option (Int × Int) :=
 (wDB p0).bind fun x5 =>
 if x5=0 then
  (wCI p0 p1).bind fun x22 =>
  if x22=0 then
   if (↑p1.length:Int)=0 then
    some (0,8)
   else
    ((idx p1 0).bind fun x44 =>
    (wBW p0 x44).bind fun (x56,x57,x58) =>
    some (x56.skier,x56.mat)).bind fun (x39,x40) =>
    (wCS p0 (⟨x39,x40⟩:wAH) p1).bind fun (x279,x280,x281) =>
    if x281=true then
     if x279=(⟨x39,x40⟩:wAH) then
      if 0 <= x280 then
       some (0,8)
      else
       some (x280,0)
     else
      some (0,8)
    else
     some (0,8)
  else
   some (0,x22)
 else
  some (0,x5)
def wDt (p0:Int) (p1:wAK) (p2:Int):Option (Bool) :=
 some (decide (p0=p2))
def wCh (p0:wAA) (p1:((Int × wAK)->Option Bool)):Option (wAg) :=
 (mkz 32 (↑p0.Readings.length:Int) (⟨0,0,0,0⟩:wAK)).bind fun x5 =>
 (wMQ x5 0 p0.Readings).bind fun x13 =>
 (wCF 0 (↑x13.length:Int) (fun k34 (l32,k33) =>
  (chk (↑k34:Int) l32.length).bind fun _ =>
  (p1 ((↑k34:Int),(gd l32 k34))).bind fun x68 =>
  if x68=true then
   some (l32,k33)
  else
   (chk (((k33):Nat):Int) l32.length).bind fun _ =>
   some ((hH l32 k33 (gd l32 k34)),(k33 + 1))) (x13,0)).bind fun (y39,y40) =>
 (cut y39 0 ((y40:Nat):Int)).bind fun x114 =>
 (wDk (⟨p0.Starts,p0.Splits,p0.Clocks,x114⟩:wAA)).bind fun x130 =>
 some x130
def wDu (p0:Int) (p1:wAK) (p2:Int) (p3:Int):Option (Bool) :=
 if p0=p2 then
  some true
 else
  some (decide (p0=p3))
def wFh (p0:wAA):Option ((List Int) × Int) :=
 (wCb p0).bind fun (x5,x6) =>
 match x5 with
 | none =>
  if x6=0 then
   none
  else
   some ([],x6)
 | some x30 =>
  if x6=0 then
   (wBG x30).bind fun x57 =>
   if x57=true then
    some ([],0)
   else
    jn (wFU 0 (↑p0.Readings.length:Int) (fun k73 _ =>
     (wCh p0 (fun x=>wDt x.1 x.2 (↑k73:Int))).bind fun x126 =>
     (wBG x126).bind fun x167 =>
     if x167=true then
      esc (some ([(↑k73:Int)],0))
     else
      some (.inl ())) ()) fun _ =>
    jn (wFU 0 (↑p0.Readings.length:Int) (fun k204 _ =>
     iter (fun x250 =>
      if x250 < (↑p0.Readings.length:Int) then
       (wCh p0 (fun x=>wDu x.1 x.2 (↑k204:Int) x250)).bind fun x309 =>
       (wBG x309).bind fun x350 =>
       if x350=true then
        esc (esc (some ([(↑k204:Int),x250],0)))
       else
        some (.inl (w64 (x250 + 1)))
      else
       esc (some (.inl ()))) big (↑(k204 + 1):Int)) ()) fun _ =>
    some ([],10)
  else
   some ([],x6)
def wDv (p0:Int) (p1:wAK) (p2:Int):Option (Bool) :=
 some (decide (p1.Skier=p2))
def wFi (p0:wAA):Option ((List Int) × Int) :=
 (wCb p0).bind fun (x5,x6) =>
 match x5 with
 | none =>
  if x6=0 then
   none
  else
   some ([],x6)
 | some x30 =>
  if x6=0 then
   (wBG x30).bind fun x57 =>
   if x57=true then
    some ([],6)
   else
    (wCF 0 (↑p0.Starts.length:Int) (fun k89 l85 =>
     (wCh p0 (fun x=>wDv x.1 x.2 (↑k89:Int))).bind fun x145 =>
     (wBG x145).bind fun x186 =>
     if x186=true then
      (app 8 l85 [(↑k89:Int)]).bind fun x206 =>
      some x206
     else
      some l85) []).bind fun y94 =>
    some (y94,0)
  else
   some ([],x6)
def wBe (p0:List Int) (p1:List Int):Option (Bool) :=
 if (↑p0.length:Int)=(↑p1.length:Int) then
  jn (wFU 0 (↑p0.length:Int) (fun k4 _ =>
   (idx p0 (↑k4:Int)).bind fun x26 =>
   (idx p1 (↑k4:Int)).bind fun x34 =>
   if x26=x34 then
    some (.inl ())
   else
    esc (some false)) ()) fun _ =>
  some true
 else
  some false
def wBI :Option (Bool) :=
 (wBL).bind fun x1 =>
 (wBF 0 2).bind fun x23 =>
 (wFA x1 x23).bind fun (x59,x60) =>
 (wBL).bind fun x77 =>
 (wBF 0 1).bind fun x99 =>
 (wFA x77 x99).bind fun (x135,x136) =>
 (wBL).bind fun x153 =>
 (wBF 0 2).bind fun x175 =>
 (wBF 1 2).bind fun x185 =>
 (wGx x153 x175 x185).bind fun (x221,x222) =>
 (wBL).bind fun x239 =>
 (wBF 0 2).bind fun x261 =>
 (wBF 1 2).bind fun x271 =>
 (wDl x239 x261 x271 [(⟨3,0,0,false⟩:wAC),(⟨3,0,2,true⟩:wAC)]).bind fun (x321,x322) =>
 (wBL).bind fun x342 =>
 (wFR x342 2).bind fun (x390,x391) =>
 (wBL).bind fun x404 =>
 (wFE x404).bind fun (x452,x453) =>
 (if x60=0 then
  if x136=0 then
   if x222=0 then
    if x322=0 then
     if x391=0 then
      if x453=0 then
       if x59=(⟨2244,2256⟩:wAO) then
        if x135=(⟨1000,1200⟩:wAO) then
         if x221=(⟨247,251⟩:wAO) then
          if x321=251 then
           (wBR x390 [(⟨1,1⟩:wAO),(⟨2,2⟩:wAO)]).bind fun x506 =>
           if x506=true then
            (wBF 0 1).bind fun x518 =>
            (wCZ x452 [x518]).bind fun x544 =>
            some (!x544)
           else
            some true
          else
           some true
         else
          some true
        else
         some true
       else
        some true
      else
       some true
     else
      some true
    else
     some true
   else
    some true
  else
   some true
 else
  some true).bind fun b466 =>
 if b466=true then
  some false
 else
  (wBn).bind fun x586 =>
  (wFg x586).bind fun (x634,x635,x636) =>
  (wBn).bind fun x654 =>
  (wDS x654 [(⟨0,1,0,true⟩:wAC),(⟨1,1,0,true⟩:wAC),(⟨3,0,1,false⟩:wAC),(⟨2,0,0,false⟩:wAC)]).bind fun (x716,x717) =>
  (wBn).bind fun x727 =>
  (wFh x727).bind fun (x775,x776) =>
  (wBn).bind fun x789 =>
  (wFi x789).bind fun (x837,x838) =>
  if x636=7 then
   if x717=0 then
    if x776=0 then
     if x838=0 then
      if x716=(-194) then
       (wBe x775 [1]).bind fun x886 =>
       if x886=true then
        (wBe x837 [1]).bind fun x914 =>
        some x914
       else
        some false
      else
       some false
     else
      some false
    else
     some false
   else
    some false
  else
   some false
def wBf (p0:List Int):Option ((List Int)) :=
 (app 8 ([]:List Int) p0).bind fun x4 =>
 some x4
def wBA (p0:List wAO):Option ((List wAO)) :=
 (app 16 ([]:List wAO) p0).bind fun x4 =>
 some x4
def wBh (p0:List wAi):Option ((List wAi)) :=
 (app 24 ([]:List wAi) p0).bind fun x4 =>
 some x4
def wBZ (p0:List wAK):Option ((List wAK)) :=
 (app 32 ([]:List wAK) p0).bind fun x4 =>
 some x4
def wCU (p0:wAA):Option (wAA) :=
 (wBf p0.Starts).bind fun x11 =>
 (wBA p0.Splits).bind fun x25 =>
 (wBh p0.Clocks).bind fun x40 =>
 (wBZ p0.Readings).bind fun x56 =>
 some (⟨x11,x25,x40,x56⟩:wAA)
def wBM (p0:List wAC):Option ((List wAC)) :=
 (app 32 ([]:List wAC) p0).bind fun x4 =>
 some x4
def wCi (p0:wAA):Option (wAI) :=
 ((wBf p0.Starts).bind fun x20 =>
 (wBA p0.Splits).bind fun x34 =>
 some (x20,x34)).bind fun (l11,l14) =>
 (wCF 0 (↑p0.Clocks.length:Int) (fun k186 l182 =>
  (idx p0.Clocks (↑k186:Int)).bind fun x211 =>
  (app 24 l182 [(⟨x211.Offset,x211.Error⟩:wBH)]).bind fun x232 =>
  some x232) []).bind fun y191 =>
 (wCF 0 (↑p0.Readings.length:Int) (fun k281 l277 =>
  (idx p0.Readings (↑k281:Int)).bind fun x305 =>
  (app 32 l277 [(⟨x305.Skier,x305.Mat,x305.Clock,x305.Time⟩:wAy)]).bind fun x327 =>
  some x327) []).bind fun y286 =>
 some (⟨l11,l14,y191,y286⟩:wAI)
def wAr (p0:List wAC):Option ((List wAd)) :=
 (wCF 0 (↑p0.length:Int) (fun k18 l14 =>
  (idx p0 (↑k18:Int)).bind fun x41 =>
  (app 32 l14 [(⟨x41.Kind,x41.Skier,x41.Index,x41.Up⟩:wAd)]).bind fun x61 =>
  some x61) []).bind fun y23 =>
 some y23
def wAZ (p0:Int) (p1:Int) (p2:Int):Option (Bool) :=
 if p0 < p1 then
  some true
 else
  some (decide (p2 < p0))
def wCJ (p0:wAO) (p1:Int) (p2:Int):Option (Bool) :=
 if p0.Hi < p0.Lo then
  some true
 else
  if p0.Lo < p1 then
   some true
  else
   some (decide (p2 < p0.Hi))
def wBJ (p0:wAI):Option (Int) :=
 (wAZ (↑p0.Starts.length:Int) 1 8).bind fun x5 =>
 if x5=true then
  some 2
 else
  if 7 < (↑p0.Splits.length:Int) then
   some 2
  else
   if 4 < (↑p0.Clocks.length:Int) then
    some 2
   else
    if 40 < (↑p0.Readings.length:Int) then
     some 2
    else
     iter (fun x30 =>
      if x30 < (↑p0.Starts.length:Int) then
       (idx p0.Starts x30).bind fun x45 =>
       (wAZ x45 0 360000).bind fun x54 =>
       if x54=true then
        esc (some 3)
       else
        some (.inl (w64 (x30 + 1)))
      else
       esc (iter (fun x78 =>
        if x78 < (↑p0.Splits.length:Int) then
         (idx p0.Splits x78).bind fun x93 =>
         (wCJ x93 0 360000).bind fun x103 =>
         if x103=true then
          esc (some 3)
         else
          some (.inl (w64 (x78 + 1)))
        else
         esc (iter (fun x127 =>
          if x127 < (↑p0.Clocks.length:Int) then
           (idx p0.Clocks x127).bind fun x142 =>
           (wCJ x142.Offset (-36000) 36000).bind fun x153 =>
           if x153=true then
            esc (some 3)
           else
            (wAZ x142.Error 0 600).bind fun x174 =>
            if x174=true then
             esc (some 3)
            else
             some (.inl (w64 (x127 + 1)))
          else
           esc (iter (fun x198 =>
            if x198 < (↑p0.Readings.length:Int) then
             (idx p0.Readings x198).bind fun x213 =>
             (wAZ x213.Time 0 360000).bind fun x225 =>
             if x225=true then
              esc (some 3)
             else
              some (.inl (w64 (x198 + 1)))
            else
             esc (iter (fun x249 =>
              if x249 < (↑p0.Readings.length:Int) then
               (idx p0.Readings x249).bind fun x264 =>
               (wAZ x264.Skier 0 (w64 ((↑p0.Starts.length:Int) - 1))).bind fun x284 =>
               if x284=true then
                esc (some 1)
               else
                (wAZ x264.Mat 0 (↑p0.Splits.length:Int)).bind fun x300 =>
                if x300=true then
                 esc (some 1)
                else
                 (wAZ x264.Clock 0 (w64 ((↑p0.Clocks.length:Int) - 1))).bind fun x316 =>
                 if x316=true then
                  esc (some 1)
                 else
                  some (.inl (w64 (x249 + 1)))
              else
               esc (some 0)) big 0)) big 0)) big 0)) big 0)) big 0
def wBS (p0:wAI) (p1:wAQ):Option (Bool) :=
 (wAZ p1.Skier 0 (w64 ((↑p0.Starts.length:Int) - 1))).bind fun x9 =>
 if x9=true then
  some true
 else
  (wAZ p1.Mat 0 (↑p0.Splits.length:Int)).bind fun x22 =>
  some x22
def wBz (p0:wAI) (p1:List wAd):Option (Int) :=
 if 80 < (↑p1.length:Int) then
  some 2
 else
  jn (wFU 0 (↑p1.length:Int) (fun k9 _ =>
   jn ((idx p1 (↑k9:Int)).bind fun x30 =>
   (wAZ x30.Kind 0 3).bind fun x45 =>
   if x30.Kind=0 then
    (wAZ x30.Skier 0 (w64 ((↑p0.Starts.length:Int) - 1))).bind fun x57 =>
    if x57=true then
     esc (esc (some 1))
    else
     if x30.Index=0 then
      some (.inl ())
     else
      esc (esc (some 1))
   else
    if x30.Kind=1 then
     (wAZ x30.Skier 0 (w64 ((↑p0.Starts.length:Int) - 1))).bind fun x88 =>
     if x88=true then
      esc (esc (some 1))
     else
      (wAZ x30.Index 0 (w64 ((↑p0.Splits.length:Int) - 1))).bind fun x107 =>
      if x107=true then
       esc (esc (some 1))
      else
       some (.inl ())
    else
     if x30.Kind=2 then
      if x30.Skier=0 then
       (wAZ x30.Index 0 (w64 ((↑p0.Clocks.length:Int) - 1))).bind fun x131 =>
       if x131=true then
        esc (esc (some 1))
       else
        some (.inl ())
      else
       esc (esc (some 1))
     else
      if x30.Kind=3 then
       if x30.Skier=0 then
        (wAZ x30.Index 0 (w64 ((↑p0.Readings.length:Int) - 1))).bind fun x162 =>
        if x162=true then
         esc (esc (some 1))
        else
         some (.inl ())
       else
        esc (esc (some 1))
      else
       if x45=true then
        esc (esc (some 1))
       else
        some (.inl ())) fun _ =>
   some (.inl ())) ()) fun _ =>
  some 0
def wAV (p0:wAI) (p1:Int) (p2:Int):Option (Int) :=
 some (w64 ((w64 (1 + (w64 (p1 * (w64 ((↑p0.Splits.length:Int) + 1)))))) + p2))
def wAl (p0:wAI) (p1:Int):Option (Int) :=
 (wAV p0 (↑p0.Starts.length:Int) 0).bind fun x5 =>
 some (w64 (x5 + p1))
def wBt (p0:wAI) (p1:wAd):Option (Int × Int × Int) :=
 if p1.Kind=0 then
  (idx p0.Starts p1.Skier).bind fun x13 =>
  (wAV p0 p1.Skier 0).bind fun x24 =>
  if p1.Up=true then
   some (0,x24,x13)
  else
   some (x24,0,w64 (-x13))
 else
  if p1.Kind=1 then
   (wAV p0 p1.Skier p1.Index).bind fun x42 =>
   (wAV p0 p1.Skier (w64 (p1.Index + 1))).bind fun x56 =>
   (idx p0.Splits p1.Index).bind fun x76 =>
   if p1.Up=true then
    some (x42,x56,x76.Hi)
   else
    some (x56,x42,w64 (-x76.Lo))
  else
   if p1.Kind=2 then
    (idx p0.Clocks p1.Index).bind fun x96 =>
    (wAl p0 p1.Index).bind fun x107 =>
    if p1.Up=true then
     some (0,x107,w64 (-x96.Offset.Lo))
    else
     some (x107,0,x96.Offset.Hi)
   else
    (idx p0.Readings p1.Index).bind fun x137 =>
    (wAl p0 x137.Clock).bind fun x153 =>
    (wAV p0 x137.Skier x137.Mat).bind fun x167 =>
    (idx p0.Clocks x137.Clock).bind fun x188 =>
    if p1.Up=true then
     some (x153,x167,w64 (x137.Time + x188.Error))
    else
     some (x167,x153,w64 (x188.Error - x137.Time))
def wCK (p0:wAI) (p1:Int) (p2:List wAd):Option (Int × Int) :=
 jn (wFU 0 (↑p2.length:Int) (fun k15 (x13,x14) =>
  (idx p2 (↑k15:Int)).bind fun x38 =>
  (wBt p0 x38).bind fun (x50,x51,x52) =>
  if x50=x13 then
   some (.inl (x51,w64 (x14 + x52)))
  else
   esc (some (-1,0))) (p1,0)) fun (y74,y75) =>
 some (y74,y75)
def wBo (p0:wAI) (p1:wAQ) (p2:wAQ) (p3:List wAd):Option (Int × Int) :=
 (wBJ p0).bind fun x13 =>
 if x13=0 then
  (wBS p0 p1).bind fun x29 =>
  if x29=true then
   some (0,1)
  else
   (wBS p0 p2).bind fun x46 =>
   if x46=true then
    some (0,1)
   else
    (wBz p0 p3).bind fun x66 =>
    if x66=0 then
     (wAV p0 p1.Skier p1.Mat).bind fun x84 =>
     (wCK p0 x84 p3).bind fun (x100,x101) =>
     (wAV p0 p2.Skier p2.Mat).bind fun x121 =>
     if x100=x121 then
      some (x101,0)
     else
      some (0,8)
    else
     some (0,x66)
 else
  some (0,x13)
def wAz (p0:wAI) (p1:List wAd):Option (Int × Int) :=
 (wBJ p0).bind fun x5 =>
 if x5=0 then
  (wBz p0 p1).bind fun x22 =>
  if x22=0 then
   if (↑p1.length:Int)=0 then
    some (0,8)
   else
    (idx p1 0).bind fun x39 =>
    (wBt p0 x39).bind fun (x51,x52,x53) =>
    (wCK p0 x51 p1).bind fun (x68,x69) =>
    if x68=x51 then
     if 0 <= x69 then
      some (0,8)
     else
      some (x69,0)
    else
     some (0,8)
  else
   some (0,x22)
 else
  some (0,x5)
def wDT (p0:Int) (p1:Int):Option (Bool) :=
 some (decide (p0=p1))
def wAm (rec_:Int->wAf->(List wAC)->(Int->Option Bool)->wAg->Unit->Option ((List wAC))) (p0:Int) (p1:wAf) (p2:List wAC) (p3:(Int->Option Bool)) (p4:wAg) (p5:Unit):Option ((List wAC)) :=
 ((idx p1.by_ p0).bind fun x7 =>
 if x7 < 0 then
  some true
 else
  if 0 < (↑p2.length:Int) then
   (p3 p0).bind fun x20 =>
   some x20
  else
   some false).bind fun b3 =>
 if b3=true then
  some p2
 else
  (idx p1.by_ p0).bind fun x52 =>
  (idx p4.edges x52).bind fun x60 =>
  (app 32 p2 [x60.step]).bind fun x80 =>
  (rec_ x60.from_ p1 x80 p3 p4 ()).bind fun x100 =>
  some x100
def wCL:Nat->Int->wAf->(List wAC)->(Int->Option Bool)->wAg->Unit->Option ((List wAC))
 | 0=>fun _ _ _ _ _ _=>none
 | n_ + 1=>wAm (wCL n_)
def wAp (p0:List wAC):Option ((List wAC)) :=
 iter (fun (l11,x12,x13) =>
  if x12 < x13 then
   (chk x13 l11.length).bind fun _ =>
   (chk x12 l11.length).bind fun _ =>
   (chk x13 (hH l11 x12.toNat (gd l11 x13.toNat)).length).bind fun _ =>
   some (.inl ((hH (hH l11 x12.toNat (gd l11 x13.toNat)) x13.toNat (gd l11 x12.toNat)),w64 (x12 + 1),w64 (x13 - 1)))
  else
   esc (some l11)) big (p0,0,w64 ((↑p0.length:Int) - 1))
def wCe (p0:wAg) (p1:wAf) (p2:(Int->Option Bool)) (p3:Int):Option ((List wAC)) :=
 (wCL 1000 p3 p1 ([]:List wAC) p2 p0 ()).bind fun x93 =>
 (wAp x93).bind fun x107 =>
 some x107
def wDe (p0:wAA) (p1:wAM) (p2:wAM):Option ((List wAC) × Int) :=
 (wDC p0 [p1,p2]).bind fun (x27,x28) =>
 match x27 with
 | none =>
  if x28=0 then
   none
  else
   some ([],x28)
 | some x52 =>
  if x28=0 then
   ((wCp p1).bind fun x78 =>
   some (wBP x52.number x78 0)).bind fun x74 =>
   (wAh x52 x74 false).bind fun (x147,x148,x149) =>
   (wCp p2).bind fun x179 =>
   (wCe x52 x147 (fun x=>wDT x x74) (wBP x52.number x179 0)).bind fun x257 =>
   some (x257,0)
  else
   some ([],x28)
def wBp (p0:wAI):Option (Int) :=
 (wAl p0 (↑p0.Clocks.length:Int)).bind fun x5 =>
 some x5
def wAU (p0:wAa) (p1:Int) (p2:Int) (p3:Int) (p4:Int):Option ((List (List Int))) :=
 (chk p1 p0.t.length).bind fun _ =>
 (chk p2 (gd p0.t p1.toNat).length).bind fun _ =>
 (chk p2 p0.t.length).bind fun _ =>
 (chk p2 (hH p0.t p1.toNat (hH (gd p0.t p1.toNat) p2.toNat (min (gd (gd p0.t p1.toNat) p2.toNat) p3))).length).bind fun _ =>
 (chk p1 (gd (hH p0.t p1.toNat (hH (gd p0.t p1.toNat) p2.toNat (min (gd (gd p0.t p1.toNat) p2.toNat) p3))) p2.toNat).length).bind fun _ =>
 some (hH (hH p0.t p1.toNat (hH (gd p0.t p1.toNat) p2.toNat (min (gd (gd p0.t p1.toNat) p2.toNat) p3))) p2.toNat (hH (gd (hH p0.t p1.toNat (hH (gd p0.t p1.toNat) p2.toNat (min (gd (gd p0.t p1.toNat) p2.toNat) p3))) p2.toNat) p1.toNat (min (gd (gd (hH p0.t p1.toNat (hH (gd p0.t p1.toNat) p2.toNat (min (gd (gd p0.t p1.toNat) p2.toNat) p3))) p2.toNat) p1.toNat) p4)))
def wBd (p0:wAI):Option ((List (List Int))) :=
 (wBp p0).bind fun x5 =>
 (wCF 0 x5 (fun k38 l32 =>
  (mkz 8 x5 (0:Int)).bind fun x64 =>
  (wCF 0 x5 (fun k78 l77 =>
   if (↑k38:Int)=(↑k78:Int) then
    some l77
   else
    (chk (↑k78:Int) l77.length).bind fun _ =>
    some (hH l77 k78 1125899906842624)) x64).bind fun y83 =>
  (app 24 l32 [y83]).bind fun x140 =>
  some x140) []).bind fun y43 =>
 iter (fun (l193,x194) =>
  if x194 < (↑p0.Starts.length:Int) then
   (idx p0.Starts x194).bind fun x214 =>
   (wAV p0 x194 0).bind fun x237 =>
   (wAU (⟨l193⟩:wAa) 0 x237 x214 (w64 (-x214))).bind fun x247 =>
   iter (fun (l266,x267) =>
    if x267 < (↑p0.Splits.length:Int) then
     (idx p0.Splits x267).bind fun x288 =>
     (wAV p0 x194 x267).bind fun x311 =>
     (wAV p0 x194 (w64 (x267 + 1))).bind fun x325 =>
     (wAU (⟨l266⟩:wAa) x311 x325 x288.Hi (w64 (-x288.Lo))).bind fun x335 =>
     some (.inl (x335,w64 (x267 + 1)))
    else
     esc (some (.inl (l266,w64 (x194 + 1))))) big (x247,0)
  else
   esc (iter (fun (l366,x367) =>
    if x367 < (↑p0.Clocks.length:Int) then
     (idx p0.Clocks x367).bind fun x387 =>
     (wAl p0 x367).bind fun x414 =>
     (wAU (⟨l366⟩:wAa) 0 x414 (w64 (-x387.Offset.Lo)) x387.Offset.Hi).bind fun x424 =>
     some (.inl (x424,w64 (x367 + 1)))
    else
     esc (iter (fun (l449,x450) =>
      if x450 < (↑p0.Readings.length:Int) then
       (idx p0.Readings x450).bind fun x468 =>
       (idx p0.Clocks x468.Clock).bind fun x487 =>
       (wAl p0 x468.Clock).bind fun x511 =>
       (wAV p0 x468.Skier x468.Mat).bind fun x525 =>
       (wAU (⟨l449⟩:wAa) x511 x525 (w64 (x468.Time + x487.Error)) (w64 (x487.Error - x468.Time))).bind fun x535 =>
       some (.inl (x535,w64 (x450 + 1)))
      else
       esc ((wCF 0 x5 (fun k561 l560 =>
        (wCF 0 x5 (fun k587 l586 =>
         (wCF 0 x5 (fun k632 l631 =>
          (chk (↑k587:Int) l631.length).bind fun _ =>
          (chk (↑k561:Int) (gd l631 k587).length).bind fun _ =>
          if (gd (gd l631 k587) k561) < 1125899906842624 then
           (chk (↑k561:Int) l631.length).bind fun _ =>
           (chk (↑k632:Int) (gd l631 k561).length).bind fun _ =>
           if (gd (gd l631 k561) k632) < 1125899906842624 then
            (chk (↑k632:Int) (gd l631 k587).length).bind fun _ =>
            if (w64 ((gd (gd l631 k587) k561) + (gd (gd l631 k561) k632))) < (gd (gd l631 k587) k632) then
             some (hH l631 k587 (hH (gd l631 k587) k632 (max (w64 ((gd (gd l631 k587) k561) + (gd (gd l631 k561) k632))) (-1125899906842624))))
            else
             some l631
           else
            some l631
          else
           some l631) l586).bind fun y637 =>
         some y637) l560).bind fun y592 =>
        some y592) l449).bind fun y566 =>
       some y566)) big (l366,0))) big (l193,0))) big (y43,0)
def wCV (p0:wAI):Option (Bool) :=
 (wBd p0).bind fun x5 =>
 jn (wFU 0 (↑x5.length:Int) (fun k26 _ =>
  (idx x5 (↑k26:Int)).bind fun x44 =>
  (idx x44 (↑k26:Int)).bind fun x57 =>
  if x57 < 0 then
   esc (some true)
  else
   some (.inl ())) ()) fun _ =>
 some false
def wBD (p0:wAI):Option (Int) :=
 (wBJ p0).bind fun x5 =>
 if x5=0 then
  (wCV p0).bind fun x21 =>
  if x21=true then
   some 7
  else
   some 0
 else
  some x5
def wCW (p0:wAI) (p1:wAQ) (p2:wAQ):Option (Int) :=
 (wBJ p0).bind fun x13 =>
 if x13=0 then
  (wBS p0 p1).bind fun x29 =>
  if x29=true then
   some 1
  else
   (wBS p0 p2).bind fun x46 =>
   if x46=true then
    some 1
   else
    (wBD p0).bind fun x63 =>
    some x63
 else
  some x13
def wBu (p0:wAI) (p1:wAQ) (p2:wAQ):Option (wAO × Int) :=
 (wCW p0 p1 p2).bind fun x17 =>
 if x17=0 then
  (wBd p0).bind fun x33 =>
  (wAV p0 p1.Skier p1.Mat).bind fun x63 =>
  (wAV p0 p2.Skier p2.Mat).bind fun x77 =>
  (idx x33 x77).bind fun x96 =>
  (idx x96 x63).bind fun x110 =>
  (idx x33 x63).bind fun x117 =>
  (idx x117 x77).bind fun x129 =>
  some ((⟨w64 (-x110),x129⟩:wAO),0)
 else
  some ((⟨0,0⟩:wAO),x17)
def wCc (p0:Int) (p1:Int):Option (Bool) :=
 some (decide (p0=p1))
def wCd (p0:wAA):Option ((List wAC) × Int) :=
 (wCb p0).bind fun (x5,x6) =>
 match x5 with
 | none =>
  if x6=0 then
   none
  else
   some ([],x6)
 | some x30 =>
  if x6=0 then
   (wAh x30 (-1) false).bind fun (x57,x58,x59) =>
   if x59=true then
    some ([],6)
   else
    (wCF 0 (↑(x30.number.length):Int) (fun k100 x99 =>
     (chk x99 x57.by_.length).bind fun _ =>
     (idx x30.edges (gd x57.by_ x99.toNat)).bind fun x129 =>
     some x129.from_) x58).bind fun y105 =>
    (wCe x30 x57 (fun x=>wCc x y105) y105).bind fun x227 =>
    some (x227,0)
  else
   some ([],x6)
def wBi (p0:List wAi) (p1:List wAi):Option (Bool) :=
 if (↑p0.length:Int)=(↑p1.length:Int) then
  jn (wFU 0 (↑p0.length:Int) (fun k4 _ =>
   (idx p0 (↑k4:Int)).bind fun x26 =>
   (idx p1 (↑k4:Int)).bind fun x34 =>
   if x26=x34 then
    some (.inl ())
   else
    esc (some false)) ()) fun _ =>
  some true
 else
  some false
def wBa (p0:List wAK) (p1:List wAK):Option (Bool) :=
 if (↑p0.length:Int)=(↑p1.length:Int) then
  jn (wFU 0 (↑p0.length:Int) (fun k4 _ =>
   (idx p0 (↑k4:Int)).bind fun x26 =>
   (idx p1 (↑k4:Int)).bind fun x34 =>
   if x26=x34 then
    some (.inl ())
   else
    esc (some false)) ()) fun _ =>
  some true
 else
  some false
def wBk (p0:wAA) (p1:wAA):Option (Bool) :=
 (wBe p0.Starts p1.Starts).bind fun x9 =>
 if x9=true then
  (wBR p0.Splits p1.Splits).bind fun x23 =>
  if x23=true then
   (wBi p0.Clocks p1.Clocks).bind fun x39 =>
   if x39=true then
    (wBa p0.Readings p1.Readings).bind fun x57 =>
    some x57
   else
    some false
  else
   some false
 else
  some false
def wAn (p0:List wAC) (p1:List wAC):Option (Bool) :=
 if (↑p0.length:Int)=(↑p1.length:Int) then
  jn (wFU 0 (↑p0.length:Int) (fun k4 _ =>
   (idx p0 (↑k4:Int)).bind fun x26 =>
   (idx p1 (↑k4:Int)).bind fun x34 =>
   if x26=x34 then
    some (.inl ())
   else
    esc (some false)) ()) fun _ =>
  some true
 else
  some false
def wCO (p0:wAA) (p1:wAM) (p2:wAM) (p3:List wAC):Option (Bool) :=
 (wCH p0).bind fun x13 =>
 if x13=true then
  (wBI).bind fun x25 =>
  some x25
 else
  if 90 < (↑p3.length:Int) then
   (wBI).bind fun x38 =>
   some x38
  else
   ((wCU p0).bind fun x93 =>
   (wBM p3).bind fun x117 =>
   (wCi p0).bind fun x138 =>
   some (x93.Starts,x93.Splits,x93.Clocks,x93.Readings,x117,x138.Starts,x138.Splits,x138.Clocks,x138.Readings)).bind fun (l51,l54,l57,l60,l63,l68,l71,l74,l77) =>
   (wDl (⟨l51,l54,l57,l60⟩:wAA) p1 p2 l63).bind fun (x645,x646) =>
   (wAr p3).bind fun x666 =>
   (wBo (⟨l68,l71,l74,l77⟩:wAI) (⟨p1.Skier,p1.Mat⟩:wAQ) (⟨p2.Skier,p2.Mat⟩:wAQ) x666).bind fun (x714,x715) =>
   if x646=x715 then
    if x645=x714 then
     (wDS (⟨l51,l54,l57,l60⟩:wAA) l63).bind fun (x769,x770) =>
     (wAr p3).bind fun x805 =>
     (wAz (⟨l68,l71,l74,l77⟩:wAI) x805).bind fun (x839,x840) =>
     if x770=x840 then
      if x769=x839 then
       (wDe (⟨l51,l54,l57,l60⟩:wAA) p1 p2).bind fun (x870,x871) =>
       (wBu (⟨l68,l71,l74,l77⟩:wAI) (⟨p1.Skier,p1.Mat⟩:wAQ) (⟨p2.Skier,p2.Mat⟩:wAQ)).bind fun (x892,x893) =>
       (if x871=x893 then
        if x871=0 then
         some false
        else
         some (decide (0 < (↑x870.length:Int)))
       else
        some true).bind fun b910 =>
       if b910=true then
        some false
       else
        if x871=0 then
         (wAr x870).bind fun x964 =>
         (wBo (⟨l68,l71,l74,l77⟩:wAI) (⟨p1.Skier,p1.Mat⟩:wAQ) (⟨p2.Skier,p2.Mat⟩:wAQ) x964).bind fun (x1002,x1003) =>
         if x1003=0 then
          if x1002=x892.Hi then
           (wCd (⟨l51,l54,l57,l60⟩:wAA)).bind fun (x1045,x1046) =>
           (wBD (⟨l68,l71,l74,l77⟩:wAI)).bind fun x1067 =>
           jn (if x1067=7 then
            (wAr x1045).bind fun x1088 =>
            (wAz (⟨l68,l71,l74,l77⟩:wAI) x1088).bind fun (x1122,x1123) =>
            if x1046=0 then
             if x1123=0 then
              some (.inl ())
             else
              esc (some false)
            else
             esc (some false)
           else
            if x1067=0 then
             if x1046=6 then
              if 0 < (↑x1045.length:Int) then
               esc (some false)
              else
               some (.inl ())
             else
              esc (some false)
            else
             if x1046=x1067 then
              if 0 < (↑x1045.length:Int) then
               esc (some false)
              else
               some (.inl ())
             else
              esc (some false)) fun _ =>
           (wBk (⟨l51,l54,l57,l60⟩:wAA) p0).bind fun x1329 =>
           if x1329=true then
            (wAn l63 p3).bind fun x1370 =>
            if x1370=true then
             (wBI).bind fun x1382 =>
             some x1382
            else
             some false
           else
            some false
          else
           some false
         else
          some false
        else
         (wCd (⟨l51,l54,l57,l60⟩:wAA)).bind fun (x1409,x1410) =>
         (wBD (⟨l68,l71,l74,l77⟩:wAI)).bind fun x1435 =>
         jn (if x1435=7 then
          (wAr x1409).bind fun x1456 =>
          (wAz (⟨l68,l71,l74,l77⟩:wAI) x1456).bind fun (x1490,x1491) =>
          if x1410=0 then
           if x1491=0 then
            some (.inl ())
           else
            esc (some false)
          else
           esc (some false)
         else
          if x1435=0 then
           if x1410=6 then
            if 0 < (↑x1409.length:Int) then
             esc (some false)
            else
             some (.inl ())
           else
            esc (some false)
          else
           if x1410=x1435 then
            if 0 < (↑x1409.length:Int) then
             esc (some false)
            else
             some (.inl ())
           else
            esc (some false)) fun _ =>
         (wBk (⟨l51,l54,l57,l60⟩:wAA) p0).bind fun x1664 =>
         if x1664=true then
          (wAn l63 p3).bind fun x1697 =>
          if x1697=true then
           (wBI).bind fun x1709 =>
           some x1709
          else
           some false
         else
          some false
      else
       some false
     else
      some false
    else
     some false
   else
    some false
end Go.Proofs.YtlnfbjphfoipaaaGreat
namespace Go.KL
open Go.RowKit
section
variable {B:Base} {φ:PHeap} {L:List Res} {w:World}
theorem St.cutRowM {α:Type} {enc:α->List Value} {m:List α} {k c T sz b:Nat} {A:Option Addr} (h:St B φ L w) (hk:L[k]?=some (.row A c T sz (nA enc m))):St B φ (L.set k (.row A c T sz (nA enc (m.take b)))) w :=
 h.cutRow (a:=nA enc (m.take b)) (d:=nA enc (m.drop b)) (by rw [<- List.flatMap_append,List.take_append_drop];exact hk)
end
section
variable {P:Program} {N:Nat} {l:List Oper} {Q:wEo} {D:List Deferred} {ks:List Nat} {s:Sch} {σ:Env} {w:World} {B:Base} {φ:PHeap} {L:List Res} {i d:Nat} {o:Oper}
theorem slc0 {A:Option Addr} {c sz:Nat}:Value.slice (if c=(0:Int).toNat then A else A.map (·.add ((0:Int).toNat * sz))) ((0:Int).toNat - (0:Int).toNat) (c - (0:Int).toNat)=.slice A 0 c:=by
 have:A.map (·.add ((0:Int).toNat * sz))=A:=by
  cases A with
  | none=>rfl
  | some a=>simp [Addr.add]
 rw [this]
 simp
end
theorem St.cutRowC {α:Type} {enc:α->List Value} {m xs:List α} {k c T sz:Nat} {b:Int} {A:Option Addr} {B:Base} {φ:PHeap} {L:List Res} {w:World} (h:St B φ L w) (hk:L[k]?=some (.row A c T sz (nA enc m))) (hc:cut m 0 b=some xs):St B φ (L.set k (.row A c T sz (nA enc xs))) w:=by
 obtain ⟨h0,h1,h2,rfl,hn⟩:=wJF hc
 have:=h.cutRowM (b:=b.toNat) hk
 simpa using this
end Go.KL
namespace Go.KL
open Go.RowKit
section
variable {B:Base} {φ φ':PHeap} {L:List Res} {w w':World}
theorem Res.At.agree {w2:World} {r:Res} (h:r.At w) (he:∀ b,r.has b->w2.heap[b]?=w.heap[b]?):r.At w2:=by
 cases r with
 | blk b T cs=>exact (he b rfl).trans h
 | obj b o=>exact (he b rfl).trans h
 | abs fp P=>exact ⟨h.2.2 w2 he,fun b hb=>wCn ((he b hb).trans (Array.getElem?_eq_getElem (h.2.1 b hb))),fun w3 h3=>h.2.2 w3 fun b hb=>(h3 b hb).trans (he b hb)⟩
 | row A c T sz cs =>
  rcases h with h | ⟨b,cur,rfl,h1,h2⟩
  ·exact .inl h
  ·exact .inr ⟨b,cur,rfl,(he b rfl).trans h1,h2⟩
def DjL (rs:List Res):Prop:=∀ (i j:Nat) (r s:Res) (b:Nat),rs[i]?=some r->rs[j]?=some s->r.has b->s.has b->i=j
def pack (p:Prop) (rs:List Res):Res:=.abs (fun b=>∃ r ∈ rs,r.has b) (fun w=>p/\(∀ r ∈ rs,r.At w)/\DjL rs)
theorem wNV {p:Prop} {rs:List Res} (hp:p) (ha:∀ r ∈ rs,r.At w) (hd:DjL rs):(pack p rs).At w :=
 ⟨⟨hp,ha,hd⟩,fun b ⟨r,hr,hb⟩=>(ha r hr).lt hb,fun w2 h2=>⟨hp,fun r hr=>(ha r hr).agree fun b hb=>h2 b ⟨r,hr,hb⟩,hd⟩⟩
theorem wLV {α:Type} {X Y:List α} {i:Nat} {r:α} (h:(X ++ Y)[i]?=some r):X[i]?=some r \/ (X.length <= i/\Y[i - X.length]?=some r):=by
 rcases nz i X.length with h1 | h1
 ·rw [nL h1] at h;exact .inl h
 ·rw [nR h1] at h;exact .inr ⟨h1,h⟩
theorem St.unpack {p:Prop} {rs:List Res} (h:St B φ (pack p rs :: L) w):p/\St B φ (rs ++ L) w:=by
 obtain ⟨⟨hp,ha,hd⟩,_⟩:=h.at_ _ (kD ..)
 have ho:=h.own _ (kD ..)
 refine ⟨hp,h.os,h.tape,h.output,h.size,h.old,h.fro,h.le,h.src,fun r hr=>?_,fun r hr b hb=>?_,fun i j r s b hi hj hr hs=>?_⟩
 ·rcases nK.1 hr with hr | hr
  ·exact ha r hr
  ·exact h.at_ r (kS _ hr)
 ·rcases nK.1 hr with hr | hr
  ·exact ho b ⟨r,hr,hb⟩
  ·exact h.own r (kS _ hr) b hb
 ·rcases wLV hi with hi | ⟨h1,hi⟩ <;> rcases wLV hj with hj | ⟨h2,hj⟩
  ·exact hd i j r s b hi hj hr hs
  ·have:=h.dj 0 (j - rs.length + 1) _ s b rfl (by simpa using hj) ⟨r,nY hi,hr⟩ hs;omega
  ·have:=h.dj (i - rs.length + 1) 0 r _ b (by simpa using hi) rfl hr ⟨s,nY hj,hs⟩;omega
  ·have:=h.dj (i - rs.length + 1) (j - rs.length + 1) r s b (by simpa using hi) (by simpa using hj) hr hs;omega
theorem St.pack {p:Prop} {rs:List Res} (hp:p) (h:St B φ (rs ++ L) w):St B φ (pack p rs :: L) w:=by
 refine ⟨h.os,h.tape,h.output,h.size,h.old,h.fro,h.le,h.src,fun r hr=>?_,fun r hr b hb=>?_,fun i j r s b hi hj hr hs=>?_⟩
 ·rcases na.1 hr with rfl | hr
  ·refine wNV hp (fun r hr=>h.at_ r (kT _ hr)) fun i j r s b hi hj hr hs=>?_
   exact h.dj i j r s b (by rw [nL (nE.1 hi).1];exact hi) (by rw [nL (nE.1 hj).1];exact hj) hr hs
  ·exact h.at_ r (kP _ hr)
 ·rcases na.1 hr with rfl | hr
  ·obtain ⟨r,hr,hb⟩:=hb
   exact h.own r (kT _ hr) b hb
  ·exact h.own r (kP _ hr) b hb
 ·have up:∀ (q:Nat) (t:Res),L[q]?=some t->(rs ++ L)[rs.length + q]?=some t:=fun q t hq=>by rw [nR (by omega)];simpa using hq
  have lo:∀ (q:Nat) (t:Res),rs[q]?=some t->(rs ++ L)[q]?=some t:=fun q t hq=>by rw [nL (nE.1 hq).1];exact hq
  cases i with
  | zero =>
   simp only [kK,ke] at hi;subst hi
   cases j with
   | zero=>rfl
   | succ j =>
    obtain ⟨r,hr,hb⟩:=hr
    obtain ⟨q,hq⟩:=kU hr
    have:=h.dj q (rs.length + j) r s b (lo q r hq) (up j s (by simpa using hj)) hb hs
    have:=(nE.1 hq).1;omega
  | succ i =>
   cases j with
   | zero =>
    simp only [kK,ke] at hj;subst hj
    obtain ⟨s,hs,hb⟩:=hs
    obtain ⟨q,hq⟩:=kU hs
    have:=h.dj (rs.length + i) q r s b (up i r (by simpa using hi)) (lo q s hq) hr hb
    have:=(nE.1 hq).1;omega
   | succ j =>
    have:=h.dj (rs.length + i) (rs.length + j) r s b (up i r (by simpa using hi)) (up j s (by simpa using hj)) hr hs;omega
structure Hd where
 A:Option Addr
 n:Nat
 c:Nat
instance:Inhabited Hd:=⟨⟨none,0,0⟩⟩
def wFa (h:Hd):List Value:=[.slice h.A h.n h.c]
variable {α:Type} {T sz:Nat} {enc:α->List Value} {hs hs2:List Hd} {m m2:List (List α)}
def inR (T sz:Nat) (enc:α->List Value) (h:Hd) (l:List α):Res:=.row h.A h.c T sz (nA enc l)
def Fit (hs:List Hd) (m:List (List α)):Prop:=hs.map (·.n)=m.map kf
def inn (T sz:Nat) (enc:α->List Value) (hs:List Hd) (m:List (List α)):Res:=pack (Fit hs m) (nT (inR T sz enc) hs m)
def wJG (T sz:Nat) (enc:α->List Value) (hs:List Hd) (m:List (List α)) (k:Nat):Res:=pack (Fit hs m/\k < m.length) ((nT (inR T sz enc) hs m).eraseIdx k)
theorem Fit.len (h:Fit hs m):hs.length=m.length:=by simpa using congrArg kf h
theorem Fit.at_ (h:Fit hs m) {k:Nat} (hk:k < m.length):(gd hs k).n=(gd m k).length:=by
 have e:=congrArg (·[k]?) h
 have h1:=wBK (xs:=hs) (k:=k) (by rw [h.len];exact hk)
 have h2:=wBK (xs:=m) hk
 simpa [h1,h2] using e
theorem Fit.set (h:Fit hs m) {k:Nat} {A:Option Addr} {c:Nat} {l:List α}:Fit (hs.set k ⟨A,l.length,c⟩) (m.set k l):=by
 unfold Fit at *
 rw [List.map_set,List.map_set,h]
theorem St.innFit {j:Nat} (h:St B φ L w) (hk:L[j]?=some (inn T sz enc hs m)):Fit hs m:=(h.at_ _ (nY hk)).1.1
theorem St.innHFit {j k:Nat} (h:St B φ L w) (hk:L[j]?=some (wJG T sz enc hs m k)):Fit hs m/\k < m.length:=(h.at_ _ (nY hk)).1.1
theorem St.innNil (T sz:Nat) (enc:α->List Value) (h:St B φ L w):St B φ (inn T sz enc [] [] :: L) w:=St.pack (p:=Fit [] ([]:List (List α))) (rs:=[]) rfl h
theorem St.innOne {A:Option Addr} {c:Nat} {l:List α} (h:St B φ (.row A c T sz (nA enc l) :: L) w):St B φ (inn T sz enc [⟨A,l.length,c⟩] [l] :: L) w:=St.pack (p:=Fit [⟨A,l.length,c⟩] [l]) (rs:=[.row A c T sz (nA enc l)]) rfl h
theorem St.swap {r s:Res} (h:St B φ (r :: s :: L) w):St B φ (s :: r :: L) w:=by
 have:=h.front (k:=1) (r:=s) rfl
 exact this
theorem St.innApp (h:St B φ (inn T sz enc hs m :: inn T sz enc hs2 m2 :: L) w):St B φ (inn T sz enc (hs ++ hs2) (m ++ m2) :: L) w:=by
 obtain ⟨p1,h1⟩:=h.swap.unpack
 have h2:St B φ (inn T sz enc hs m :: (nT (inR T sz enc) hs2 m2 ++ L)) w:=by
  have:=h1.front (k:=(nT (inR T sz enc) hs2 m2).length) (r:=inn T sz enc hs m) (by rw [nR (nG _)];simp)
  rw [List.eraseIdx_append_of_length_le (nG _)] at this
  simpa using this
 obtain ⟨p2,h3⟩:=h2.unpack
 refine St.pack (by unfold Fit at *;rw [nJ,nJ,p1,p2]) ?_
 rw [List.zipWith_append p2.len]
 rw [nH]
 exact h3
theorem wOa (hf:Fit hs m) {k:Nat} (hk:k < m.length):(nT (inR T sz enc) hs m)[k]?=some (inR T sz enc (gd hs k) (gd m k)):=by
 rw [List.getElem?_zipWith,wBK (xs:=hs) (by rw [hf.len];exact hk),wBK (xs:=m) hk]
theorem wGy {β:Type}:∀ {l:List β} {i:Nat} (h:i < l.length),(l[i] :: l.eraseIdx i).Perm l
 | a :: l,0,_=>ki _
 | a :: l,i + 1,h=>by
  have hi:i < l.length:=by simpa using h
  simp only [List.getElem_cons_succ,List.eraseIdx_cons_succ]
  exact (List.Perm.swap a l[i] _).trans ((wGy hi).cons a)
theorem wMu (L:List Res):DjL L ↔ L.Pairwise (fun r s=>∀ b,r.has b->¬ s.has b):=by
 rw [kG]
 constructor
 ·intro h i j hi hj hij b h1 h2
  have:=h i j _ _ b (hU hi) (hU hj) h1 h2
  omega
 ·intro h i j r s b hi hj h1 h2
  obtain ⟨hi',rfl⟩:=nE.1 hi
  obtain ⟨hj',rfl⟩:=nE.1 hj
  rcases Nat.lt_trichotomy i j with q | q | q
  ·exact absurd h2 (h i j hi' hj' q b h1)
  ·exact q
  ·exact absurd h1 (h j i hj' hi' q b h2)
theorem St.perm {L':List Res} (h:St B φ L w) (p:L.Perm L'):St B φ L' w :=
 ⟨h.os,h.tape,h.output,h.size,h.old,h.fro,h.le,h.src,fun r hr=>h.at_ r (p.mem_iff.2 hr),fun r hr=>h.own r (p.mem_iff.2 hr),
  (wMu L').2 ((p.pairwise_iff fun hab b h1 h2=>hab b h2 h1).1 ((wMu L).1 h.dj))⟩
theorem wNW (hs:List Hd) (m:List (List α)) (k:Nat) (h:Hd) (l:List α):nT (inR T sz enc) (hs.set k h) (m.set k l)=(nT (inR T sz enc) hs m).set k (inR T sz enc h l):=by
 induction hs generalizing m k with
 | nil=>simp
 | cons a hs ih =>
  cases m with
  | nil=>simp
  | cons b m =>
   cases k with
   | zero=>simp
   | succ k=>simp [ih]
theorem St.innTake {k:Nat} (h:St B φ (inn T sz enc hs m :: L) w) (hk:k < m.length):St B φ (.row (gd hs k).A (gd hs k).c T sz (nA enc (gd m k)) :: wJG T sz enc hs m k :: L) w:=by
 obtain ⟨p,h1⟩:=h.unpack
 have hl:k < (nT (inR T sz enc) hs m).length:=by rw [kX,p.len];omega
 have e:(nT (inR T sz enc) hs m)[k]=inR T sz enc (gd hs k) (gd m k):=by
  have:=wOa (T:=T) (sz:=sz) (enc:=enc) p hk
  rw [hU hl] at this
  exact nZ this
 have h2:=h1.perm ((wGy hl).symm.append_right L)
 rw [e] at h2
 refine St.swap (St.pack ⟨p,hk⟩ (h2.perm ?_))
 exact nn.symm
theorem St.innPut {k:Nat} {A:Option Addr} {c:Nat} {l:List α} (h:St B φ (.row A c T sz (nA enc l) :: wJG T sz enc hs m k :: L) w):St B φ (inn T sz enc (hs.set k ⟨A,l.length,c⟩) (m.set k l) :: L) w:=by
 obtain ⟨⟨p,hk⟩,h1⟩:=h.swap.unpack
 refine St.pack p.set ?_
 rw [wNW]
 have hl:k < ((nT (inR T sz enc) hs m).set k (inR T sz enc ⟨A,l.length,c⟩ l)).length:=by rw [nP,kX,p.len];omega
 have h2:=h1.perm nn
 refine h2.perm (kh ?_ ((wGy hl).append_right L))
 rw [List.getElem_set_self,List.eraseIdx_set_eq]
 exact ki _
theorem St.innBack {k:Nat} {l:List α} (h:St B φ (.row (gd hs k).A (gd hs k).c T sz (nA enc l) :: wJG T sz enc hs m k :: L) w) (hl:l.length=(gd m k).length):St B φ (inn T sz enc hs (m.set k l) :: L) w:=by
 obtain ⟨p,hk⟩:=h.innHFit (j:=1) rfl
 have:=h.innPut
 rw [show hs.set k ⟨(gd hs k).A,l.length,(gd hs k).c⟩=hs from ?_] at this
 ·exact this
 ·have h1:=wBK (xs:=hs) (k:=k) (by rw [p.len];exact hk)
  apply nr
  intro i
  rw [nt]
  split
  ·rename_i e;subst e
   rw [if_pos (by rw [p.len];exact hk),h1,hl,<- p.at_ hk]
  ·rfl
theorem St.innBack0 {k:Nat} (h:St B φ (.row (gd hs k).A (gd hs k).c T sz (nA enc (gd m k)) :: wJG T sz enc hs m k :: L) w):St B φ (inn T sz enc hs m :: L) w:=by
 obtain ⟨p,hk⟩:=h.innHFit (j:=1) rfl
 have h2:=h.innBack rfl
 rw [show m.set k (gd m k)=m from ?_] at h2
 ·exact h2
 ·have h1:=wBK (xs:=m) hk
  apply nr
  intro i
  rw [nt]
  split
  ·rename_i e;subst e
   first | exact h1.symm | simp [hk,h1]
  ·rfl
theorem St.innFreeze {R:Rl (List α)} (hR:∀ φ A c l,Sl φ sz A c l.length (nA enc l)->R.r φ l [.slice A l.length c]) (he:∀ x,(enc x).length=sz) (hz:0 < sz):∀ {hs:List Hd} {m:List (List α)} {φ:PHeap} {L:List Res},Fit hs m->St B φ (nT (inR T sz enc) hs m ++ L) w->∃ φ',PHeap.Le φ φ'/\RlL φ' R m (nA wFa hs)/\St B φ' L w
 | [],[],φ,L,_,h=>⟨φ,PHeap.Le.refl φ,RlL.nil,h⟩
 | [],_ :: _,_,_,p,_=>by cases p
 | _ :: _,[],_,_,p,_=>by cases p
 | a :: hs,l :: m,φ,L,p,h=>by
  have p1:a.n=l.length/\Fit hs m:=by simpa [Fit] using p
  obtain ⟨φ1,g1,g2,g3⟩:=St.freezeR (n:=l.length) (sz:=sz) h (k:=0) rfl (wAE he l) hz
  obtain ⟨φ2,k1,k2,k3⟩:=St.innFreeze hR he hz p1.2 g3
  refine ⟨φ2,g1.trans k1,?_,k3⟩
  have:=RlL.cons (hR φ2 a.A a.c l (g2.le k1)) k2
  rw [<- p1.1] at this
  exact this
theorem St.freezeN {R:Rl (List α)} {A:Option Addr} {c S:Nat} (h:St B φ (.row A c S 1 (nA wFa hs) :: inn T sz enc hs m :: L) w) (hR:∀ φ A c l,Sl φ sz A c l.length (nA enc l)->R.r φ l [.slice A l.length c]) (he:∀ x,(enc x).length=sz) (hz:0 < sz) (hR1:R.sz=1) :
  ∃ φ',PHeap.Le φ φ'/\SlR φ' R A c m/\St B φ' L w:=by
 obtain ⟨p,h1⟩:=h.swap.unpack
 obtain ⟨φ1,g1,g2,g3⟩:=St.innFreeze hR he hz p h1
 obtain ⟨φ2,k1,k2,k3⟩:=g3.freezeRR (k:=0) rfl g2 hR1 (by decide)
 exact ⟨φ2,g1.trans k1,k2,k3⟩
theorem wOb {bytes:Nat} {z:List (List α)} (h:app bytes m m2=some z) (p:Fit hs m) (p2:Fit hs2 m2):app bytes hs hs2=some (hs ++ hs2)/\z=m ++ m2:=by
 obtain ⟨rfl,hb⟩:=wLN h
 refine ⟨?_,rfl⟩
 unfold app
 rw [p.len,p2.len,if_pos hb]
theorem slen {σ:Env} {x:Operand} {A:Option Addr} {c:Nat} (h:ev σ x=.slice A m.length c) (p:Fit hs m):ev σ x=.slice A hs.length c:=by rw [h,p.len]
end
section
variable {N:Nat} {P:Program} {l:List Oper} {Q:wEo} {D:List Deferred} {ks:List Nat} {σ:Env} {w:World} {i d:Nat} {s:Sch} {o:Oper} {B:Base} {φ:PHeap} {L:List Res}
theorem RunsK.to {v v':Value} (h:RunsK P σ w o v) (e:v=v'):RunsK P σ w o v':=e ▸ h
end
end Go.KL
namespace Go.KL
open Go.RowKit
section
variable {K V:Type} [DecidableEq K] {P:Program} {σ:Env} {o:Oper} {B:Base} {φ φ':PHeap} {L:List Res} {w:World} {m ck:Nat} {es:Array MapEntry} {mk:K->Value} {mv:V->Value} {t:List (K × V)}
def MpF {K V:Type} (φ:PHeap) (m:Nat) (es:Array MapEntry) (ck:Nat) (mk:K->Value) (mv:V->Value) (l:List (K × V)):Prop:=φ m=some (.map es ck)/\MpR es mk mv l
theorem MpF.le {K V:Type} {mk:K->Value} {mv:V->Value} {t:List (K × V)} (h:MpF φ m es ck mk mv t) (l:PHeap.Le φ φ'):MpF φ' m es ck mk mv t:=⟨l _ _ h.1,h.2⟩
theorem St.freezeM {K V:Type} {mk:K->Value} {mv:V->Value} {t:List (K × V)} (h:St B φ L w) {k:Nat} (hk:L[k]?=some (.obj m (.map es ck))) (hr:MpR es mk mv t) :
  ∃ φ',PHeap.Le φ φ'/\MpF φ' m es ck mk mv t/\St B φ' (L.eraseIdx k) w:=by
 obtain ⟨φ',h1,h2,h3⟩:=h.freezeO hk
 exact ⟨φ',h1,⟨h2,hr⟩,h3⟩
end
end Go.KL
namespace Go.KL
open Go.RowKit
section
variable {P:Program} {N:Nat} {l:List Oper} {Q:wEo} {D:List Deferred} {ks:List Nat} {s:Sch} {σ:Env} {w:World} {B:Base} {φ:PHeap} {L:List Res} {i d:Nat} {o:Oper}
theorem OKS.appendP {α:Type} {t e sz j c c2 k:Nat} {A A2:Option Addr} {inf:TypeInfo} {x y:Operand} {enc:α->List Value} {m:List α} {v:α}
  (ho:l[i]?=some o) (hd:o.dst=some d) (hN:Nat.blt d N=true) (hw:wanted l σ o=true) (hop:o.op=.call { callee:=.builtin .append,args:=#[x,y],argTypes:=#[t,t] })
  (ht:P.underlying t=some (.slice e)) (hi:P.info? e=some inf) (hsize:inf.size=sz) (hsz:Nat.blt 0 sz=true)
  (hS:St B φ L w) (hk:L[j]?=some (.row A c e sz (m.flatMap enc))) (hx:ev σ x=.slice A k c) (hy:ev σ y=.slice A2 1 c2)
  (hsrc:([v]:List α).length=0 \/ ∃ a,A2=some a/\∀ j u,(([v]:List α).flatMap enc)[j]?=some u->w.cell? (a.add j)=some u) (hel:∀ x,(enc x).length=sz) (h1:∀ x,(enc x).all (·.oneCell')=true)
  (hm:chk (k:Int) m.length=some ()) (hne:wGZ (kOf ks i)=false)
  (kk:∀ w',St B φ (L.set j (.row A c e sz ((m.set k v).flatMap enc))) w'->OKS N P l Q D ks s (upd σ d (.slice A (k + 1) c)) w'):OKS N P l Q D ks (.fx i s .stop) σ w:=by
 have hkm:k < m.length:=by have:=wAW hm;omega
 have hsz':0 < sz:=by simpa [Nat.blt_eq] using hsz
 have hlen:(m.flatMap enc).length=m.length * sz:=wAE hel m
 obtain ⟨b0,hA⟩:=hS.rowSome hk (by rw [hlen];exact Nat.mul_pos (by omega) hsz')
 subst hA hsize
 obtain ⟨cur,g1,g2,g3,g4,g5⟩:=RowAt.cells (hS.at_ _ (nY hk))
 have hmc:m.length <= c:=by rw [hlen] at g2;exact Nat.le_of_mul_le_mul_right g2 hsz'
 obtain ⟨a,rfl,hc⟩:=hsrc.resolve_left (by simp)
 have e1:([v]:List α).flatMap enc=enc v:=by simp
 rw [e1] at hc
 have hle:(k + 1) * inf.size <= c * inf.size:=nq _ (by omega)
 rw [kg,kM] at hle
 have hr:=run_append_room (P:=P) w t o.type e inf ht hi b0 k c cur g1 a 1 c2 (enc v) (by rw [hel,kM]) hc (fun u hu=>nb.1 (h1 v) u hu) (by omega) (by rw [hel,g4];exact hle)
 have hset:cur.toList.take (k * inf.size) ++ enc v ++ cur.toList.drop (k * inf.size + (enc v).length)=wFP cur.toList (k * inf.size) (enc v):=(wJm _ _ _ (by rw [hel];simp only [Array.length_toList];omega)).symm
 rw [hset] at hr
 refine OKS.v (v:=.slice (some ⟨b0,0,none⟩) (k + 1) c) (w':=w.setRow b0 (wFP cur.toList (k * inf.size) (enc v)).toArray) ho hd hN hw ⟨by rw [hop];rfl,?_⟩ (.inl hne) (kk _ (hS.set hk ⟨rfl,⟨rfl,nG _⟩,rfl,by simp [World.setRow],fun q _ hq=>setRow_other w b0 q _ fun e=>hq (by rw [e];rfl)⟩ (.inr ⟨b0,_,rfl,setRow_heap w b0 cur _ e _ g1,?_,g3,?_,?_⟩) fun b hb=>.inl hb))
 ·simp [execOp,hop,resolve,invoke,builtin,hx,hy,hr,Result.andThen]
 ·rw [wAE hel,nP]
  exact nq _ hmc
 ·simp [wDz,g4]
 ·have h2:(m.flatMap enc).length=((m.set k v).flatMap enc).length:=by rw [wAE hel,wAE hel,nP]
  have h3:k * inf.size + (enc v).length <= (m.flatMap enc).length:=by
   have:(k + 1) * inf.size <= m.length * inf.size:=nq _ (by omega)
   rw [kg,kM] at this
   rw [hel,hlen];exact this
  show (wFP cur.toList (k * inf.size) (enc v)).take _=_
  rw [<- h2,wHV _ _ _ _ h3,g5]
  have hx:m[k]?=some m[k]:=hU hkm
  have:=wFf (f:=enc) hel (vs:=enc v) (off:=0) m k _ v hx (by rw [hel];omega) (by
   have hv:(enc m[k]).length=(enc v).length:=by rw [hel,hel]
   rw [wJm _ _ _ (by omega),List.take_zero,kA,nU,<- hv,List.drop_length,kB])
  simpa using this
end
theorem wOc {α:Type} {m xs:List α} {k:Nat} (h:Go.KL.cut m 0 (k:Int)=some xs):xs.length=k:=by
 obtain ⟨_,_,_,_,hn⟩:=wJF h
 rw [hn];simp
end Go.KL
namespace Go.KL
open Go.RowKit
section
variable {B:Base} {φ:PHeap} {L:List Res} {w:World}
def DjQ (rs:List Res):Prop:=∀ (i j:Nat) (r s:Res) (b:Nat),rs[i]?=some r->rs[j]?=some s->r.has b->s.has b->i=j
theorem djQ (L:List Res):DjQ L ↔ L.Pairwise (fun r s=>∀ b,r.has b->¬ s.has b):=by
 rw [kG]
 constructor
 ·intro h i j hi hj hij b h1 h2
  have:=h i j _ _ b (hU hi) (hU hj) h1 h2
  omega
 ·intro h i j r s b hi hj h1 h2
  obtain ⟨hi',rfl⟩:=nE.1 hi
  obtain ⟨hj',rfl⟩:=nE.1 hj
  rcases Nat.lt_trichotomy i j with q | q | q
  ·exact absurd h2 (h i j hi' hj' q b h1)
  ·exact q
  ·exact absurd h1 (h j i hj' hi' q b h2)
theorem St.permQ {L':List Res} (h:St B φ L w) (p:L.Perm L'):St B φ L' w :=
 ⟨h.os,h.tape,h.output,h.size,h.old,h.fro,h.le,h.src,fun r hr=>h.at_ r (p.mem_iff.2 hr),fun r hr=>h.own r (p.mem_iff.2 hr),
  (djQ L').2 ((p.pairwise_iff fun hab b h1 h2=>hab b h2 h1).1 ((djQ L).1 h.dj))⟩
end
structure Ad where
 i:Nat
 d:Nat
 post:Value->List Res->Prop
def Kn:List (Nat × Value)->Env->Prop
 | [],_=>True
 | p :: l,σ=>σ p.1=p.2/\Kn l σ
theorem Kn.upd {d:Nat} {v:Value} {σ:Env}:∀ {kn:List (Nat × Value)},Kn kn σ->kn.all (fun p=>!Nat.beq p.1 d)=true->Kn kn (upd σ d v)
 | [],_,_=>trivial
 | p :: l,⟨h1,h2⟩,h=>by
  rw [kW,nc] at h
  refine ⟨?_,h2.upd h.2⟩
  have hne:p.1 ≠ d:=fun e=>by rw [e] at h;simp at h
  have hb:ny p.1 d=false:=by
   cases hq:ny p.1 d with
   | false=>rfl
   | true=>exact absurd (kQ hq) hne
  show (bif ny p.1 d then v else σ p.1)=p.2
  rw [hb]
  exact h1
theorem wOd (σ:Env) (d:Nat) (v:Value):upd σ d v d=v:=by
 show (bif ny d d then v else σ d)=v
 rw [Nat.beq_refl];rfl
theorem wNX {σ:Env} {d t:Nat} {v:Value} (h:t ≠ d):upd σ d v t=σ t:=by
 have hb:ny t d=false:=by
  cases hq:ny t d with
  | false=>rfl
  | true=>exact absurd (kQ hq) h
 show (bif ny t d then v else σ t)=σ t
 rw [hb];rfl
def adT (pr:List (Nat × List Nat)) (t:Sch):Nat->List Nat->List Nat->Sch
 | 0,_,_=>.stop
 | _ + 1,[],_=>t
 | n + 1,i :: td,dn=>((i :: td).filter fun j=>(pr.all fun q=>!Nat.beq q.1 j || q.2.all fun x=>dn.contains x)).foldr (fun j a=>.fx j (adT pr t n ((i :: td).erase j) (j :: dn)) a) .stop
def wOe (ads:List Ad) (kn:List (Nat × Value)):Bool:=decide ((ads.map (·.i)).Nodup) && decide ((ads.map (·.d)).Nodup) && ads.all fun a=>kn.all fun p=>!Nat.beq p.1 a.d
theorem wKI {α β:Type} {f:α->β}:∀ {ys:List β} {xs:List α},(xs.map f).Perm ys->∃ zs:List α,zs.Perm xs/\zs.map f=ys
 | [],xs,h=>⟨[],by
  have:=h.length_eq
  simp at this
  subst this;exact .refl _,rfl⟩
 | y :: ys,xs,h=>by
  obtain ⟨x,hx,e⟩:=nO.1 (h.mem_iff.2 (kD (a:=y) (l:=ys)))
  obtain ⟨s,t,rfl⟩:=kb hx
  have h2:((s ++ t).map f).Perm ys:=by
   rw [nJ,nV,e] at h
   rw [nJ]
   exact (List.Perm.cons_inv ((nn (a:=y)).symm.trans h))
  obtain ⟨zs,p,q⟩:=wKI h2
  exact ⟨x :: zs,(p.cons x).trans nn.symm,by rw [nV,e,q]⟩
theorem wLW {α β:Type} (g:α->List β) {xs ys:List α} (h:xs.Perm ys):(xs.flatMap g).Perm (ys.flatMap g):=by
 induction h with
 | nil=>exact .refl _
 | cons x _ ih=>rw [nM,nM];exact ih.append_left _
 | swap x y l =>
  rw [nM,nM,nM,nM,<- nH,<- nH]
  exact (List.perm_append_comm).append_right _
 | trans _ _ a b=>exact a.trans b
def AdE (G:List (Nat × Value)->List Res->Prop):List Ad->List (Nat × Value)->List Res->Prop
 | [],vs,L=>G vs L
 | a :: l,vs,L=>∀ v R,a.post v R->AdE G l (vs ++ [(a.d,v)]) (L ++ R)
section
variable {N:Nat} {P:Program} {Q:wEo} {D:List Deferred} {l:List Oper} {ks:List Nat} {B:Base} {φ0:PHeap} {L0:List Res}
def AdOK (N:Nat) (P:Program) (l:List Oper) (Q:wEo) (D:List Deferred) (ks:List Nat) (B:Base) (φ0:PHeap) (L0:List Res) (kn:List (Nat × Value)) (a:Ad):Prop :=
 ∀ (s:Sch) (σ:Env) (w:World) (φ:PHeap) (L:List Res),Kn kn σ->PHeap.Le φ0 φ->St B φ (L ++ L0) w ->
  (∀ v w' φ' R,PHeap.Le φ φ'->St B φ' (R ++ (L ++ L0)) w'->a.post v R->OKS N P l Q D ks s (upd σ a.d v) w')->OKS N P l Q D ks (.fx a.i s .stop) σ w
theorem wMv {G:List (Nat × Value)->List Res->Prop}:∀ (xs:List (Ad × Value × List Res)) (vs:List (Nat × Value)) (L:List Res),AdE G (xs.map (·.1)) vs L->(∀ x ∈ xs,x.1.post x.2.1 x.2.2)->G (vs ++ xs.map fun x=>(x.1.d,x.2.1)) (L ++ xs.flatMap (·.2.2))
 | [],vs,L,h,_=>by
  have h:G vs L:=h
  simpa using h
 | x :: xs,vs,L,h,hp=>by
  have:=wMv xs _ _ (h x.2.1 x.2.2 (hp x (.head _))) fun y hy=>hp y (.tail _ hy)
  simpa [nH] using this
theorem wOf {σ:Env}:∀ (xs:List (Ad × Value × List Res)),(∀ x ∈ xs,σ x.1.d=x.2.1)->Kn (xs.map fun x=>(x.1.d,x.2.1)) σ
 | [],_=>trivial
 | x :: xs,h=>⟨h x (.head _),wOf xs fun y hy=>h y (.tail _ hy)⟩
theorem OKS.adders {t:Sch} (pr:List (Nat × List Nat)) (ads:List Ad) (kn:List (Nat × Value)) (F:List Nat) (hc:wOe ads kn=true) (H:∀ a ∈ ads,AdOK N P l Q D ks B φ0 L0 kn a)
  (E:AdE (fun vs L=>∀ (σ:Env) (w:World) (φ:PHeap),Kn kn σ->Kn vs σ->PHeap.Le φ0 φ->St B φ (L ++ L0) w->OKS N P l Q D ks t σ w) ads [] []) {σ:Env} {w:World} (hk:Kn kn σ) (hS:St B φ0 L0 w) :
  OKS N P l Q D ks (adT pr t (ads.length + 1) (ads.map (·.i)) F) σ w:=by
 unfold wOe at hc
 simp only [nc,decide_eq_true_eq] at hc
 obtain ⟨⟨hi,hd⟩,hkn⟩:=hc
 have hkn:=nb.1 hkn
 have main:∀ (n:Nat) (td:List Ad) (dn:List (Ad × Value × List Res)) (F:List Nat) (σ:Env) (w:World) (φ:PHeap),td.length < n->(dn.map (·.1) ++ td).Perm ads->Kn kn σ->PHeap.Le φ0 φ->(∀ x ∈ dn,σ x.1.d=x.2.1/\x.1.post x.2.1 x.2.2)->St B φ (dn.flatMap (·.2.2) ++ L0) w->OKS N P l Q D ks (adT pr t n (td.map (·.i)) F) σ w:=by
  intro n
  induction n with
  | zero=>intro td dn F σ w φ h;omega
  | succ n ih =>
   intro td dn F σ w φ hn hp hk hle hx hS
   cases td with
   | nil =>
    rw [kB] at hp
    obtain ⟨zs,p,q⟩:=wKI hp
    have hz:∀ x ∈ zs,σ x.1.d=x.2.1/\x.1.post x.2.1 x.2.2:=fun x h=>hx x (p.mem_iff.1 h)
    have:=wMv zs [] [] (by rw [q];exact E) fun x h=>(hz x h).2
    exact this σ w φ hk (wOf zs fun x h=>(hz x h).1) hle (hS.permQ ((wLW _ p.symm).append_right _))
   | cons b td =>
    have hids:(((b :: td).map (·.i))).Nodup:=by
     have h1:=(hp.map (·.i)).nodup_iff.2 hi
     rw [nJ] at h1
     exact (nk.1 h1).2.1
    have each:∀ sub:List Nat,(∀ j ∈ sub,j ∈ (b :: td).map (·.i))->OKS N P l Q D ks (sub.foldr (fun j a=>.fx j (adT pr t n (((b :: td).map (·.i)).erase j) (j :: F)) a) .stop) σ w:=by
     intro sub
     induction sub with
     | nil=>exact fun _=>trivial
     | cons j sub ih2 =>
      intro hsub
      refine OKS.both ?_ (ih2 fun x h=>hsub x (.tail _ h))
      obtain ⟨a,ha,e⟩:=nO.1 (hsub j (.head _))
      subst e
      obtain ⟨s1,s2,es⟩:=kb ha
      rw [es] at hids hp hn ⊢
      have her:(((s1 ++ a :: s2).map (·.i)).erase a.i)=(s1 ++ s2).map (·.i):=by
       rw [nJ,nV] at hids ⊢
       have hno:a.i ∉ s1.map (·.i):=fun h=>(nk.1 hids).2.2 _ h _ (.head _) rfl
       rw [List.erase_append_right _ hno,List.erase_cons_head,nJ]
      rw [her]
      have ham:a ∈ ads:=hp.mem_iff.1 (nK.2 (.inr (nK.2 (.inr (.head _)))))
      refine H a ham _ σ w φ _ hk hle hS fun v w' φ' R h1 h2 h3=>?_
      refine ih (s1 ++ s2) ((a,v,R) :: dn) (a.i :: F) (upd σ a.d v) w' φ' (by simp only [nI,nB] at hn ⊢;omega) ?_ (hk.upd (hkn a ham)) (hle.trans h1) (fun x hxm=>?_) (by rw [nM,nH];exact h2)
      ·rw [nV,nv,<- nH]
       refine kh ?_ hp
       rw [<- nH]
       exact nn.symm
      ·rcases na.1 hxm with rfl | hxm
       ·exact ⟨wOd σ a.d v,h3⟩
       ·have hne:x.1.d ≠ a.d:=fun e=>by
         have h1:=(hp.map (·.d)).nodup_iff.2 hd
         rw [nJ] at h1
         exact (nk.1 h1).2.2 x.1.d (nO.2 ⟨x.1,nO.2 ⟨x,hxm,rfl⟩,rfl⟩) a.d (nO.2 ⟨a,nK.2 (.inr (.head _)),rfl⟩) e
        refine ⟨?_,(hx x hxm).2⟩
        rw [wNX hne]
        exact (hx x hxm).1
    exact each _ fun j hj=>(List.mem_filter.1 hj).1
 exact main _ ads [] F σ w φ0 (Nat.lt_succ_self _) (by simpa using .refl _) hk (PHeap.Le.refl _) (fun (x:Ad × Value × List Res) (h:x ∈ [])=>by cases h) (by simpa using hS)
end
end Go.KL
namespace Go.KL
open Go.RowKit
section
variable {N:Nat} {P:Program} {Q:wEo} {D:List Deferred} {l:List Oper} {ks:List Nat} {B:Base} {φ:PHeap} {L:List Res} {σ:Env} {w:World} {o:Oper} {d i:Nat} {s:Sch}
def phO:PHeap:=fun _=>none
theorem St.prot {L':List Res} {T:List Nat} {w2:World} (h:St B φ L w) (ix:List Nat) (hn:ix.Nodup) (hp:ix.map (fun j=>L[j]?)=L'.map some) (hT:OutT T L') (k:Keep w w2 (OutL T)):St ⟨w2,L',phO⟩ phO L' w2:=by
 have h':=h.pick ix L' hn hp
 exact ⟨rfl,TapeLe.refl w2,rfl,nG _,fun _ _ _=>rfl,fun _ _ e=>(by cases e),fun _ _ e=>(by cases e),fun _ _ e=>(by cases e),fun r hr=>(h'.at_ r hr).keep k fun b hb hx=>hx (hT.mem r hr b hb),fun r hr b hb=>⟨rfl,.inr ⟨r,hr,hb⟩⟩,h'.dj⟩
theorem OKS.mtP {v:Value} {T:List Nat} (ix:List Nat) (L':List Res) (ho:l[i]?=some o) (hd:o.dst=some d) (hN:Nat.blt d N=true) (hw:wanted l σ o=true) (hS:St B φ L w) (hc:chg l ks=OutL T)
  (hn:ix.Nodup) (hp:ix.map (fun j=>L[j]?)=L'.map some) (hT:OutT T L') (hr:∀ w2,St ⟨w2,L',phO⟩ phO L' w2->RunsK P σ w2 o v) (hk:ny (kOf ks i) 3=false)
  (k:OKS N P l Q D ks s (upd σ d v) w):OKS N P l Q D ks (.fl i s) σ w :=
 ⟨o,ho,dlt hd hN,.inl ⟨hw,v,hr w (hS.prot ix hn hp hT (Keep.refl w _)),⟨fun e=>(by rw [e] at hk;cases hk),fun _ w2 k2=>hr w2 (hS.prot ix hn hp hT (hc ▸ k2)) w2 (Keep.refl w2 _)⟩,(by rw [wEY hd];exact k)⟩⟩
theorem OKS.stP {t T:TypeId} {x y:Operand} {j b off:Nat} {v:Value} {vs cs cs':List Value} {T2 ts:List Nat} (ho:l[i]?=some o) (hd:o.dst=none) (hw:wanted l σ o=true) (hop:o.op=.store t x y) (hS:St B φ L w) (hk:L[j]?=some (.blk b T cs))
  (hx:ev σ x=.pointer (some ⟨b,off,none⟩)) (hy:ev σ y=v) (hc:v.cells=vs.toArray) (hsz:∀ w,(sizeOf t).run P w=.ok vs.length w) (hlt:off + vs.length <= cs.length) (h1:vs.all one=true) (hcs:wFP cs off vs=cs') (hk5:ny (kOf ks i) 2=false)
  (hcg:chg l ks=OutL T2) (hT:InT ts L T2) (hx2:ts.contains j=false)
  (k:∀ w',St B φ (L.set j (.blk b T cs')) w'->OKS N P l Q D ks s σ w'):OKS N P l Q D ks (.fx i s .stop) σ w:=by
 subst hy hcs
 obtain ⟨w',h2,h3,h4,h5⟩:=wEO (P:=P) (T:=T) off vs 0 cs w (hS.blkAt hk) hlt (nb.1 h1)
 have hb:b ∉ T2:=fun hb=>by
  obtain ⟨t,h1,r,h2,h3⟩:=hT.mem b hb
  have:=hS.dj t j r _ b h2 hk h3 rfl
  subst this
  simp [h1] at hx2
 refine ⟨⟨o,ho,dno hd,.inl ⟨hw,.inl ⟨hd,w',⟨by rw [hop];rfl,?_⟩,⟨fun e=>(by rw [e] at hk5;cases hk5),fun _=>(by rw [hcg];exact h4.weak fun x _ e=>(by rw [e];exact hb))⟩,?_⟩⟩⟩,trivial⟩
 ·simp [execOp,hop,Instr.storeAt,hx,Instr.sureAddr,storeVar,hc,hsz,h2]
 ·rw [wJA hd]
  exact k w' (hS.set hk (h4.weak fun x _ e=>by rw [e];rfl) h3 fun b hb=>.inl hb)
end
end Go.KL
namespace Go.KL
open Go.RowKit
section
variable {N:Nat} {P:Program} {l:List Oper} {Q:wEo} {D:List Deferred} {ks:List Nat} {s:Sch} {σ:Env} {w:World} {B:Base} {φ:PHeap} {L:List Res} {i d:Nat} {o:Oper}
theorem wKe (v:Value) (k n:Nat) (hk:0 < k):madeCells (kC k v) n=(hJ n v).toArray:=by
 apply Array.ext'
 simp only [madeCells]
 apply kH
 ·simp
 ·intro i h1 h2
  simp at h1 ⊢
  have hm:i % k < (kC k v).size:=by simpa using Nat.mod_lt i hk
  rw [getElem!_pos (kC k v) (i % k) hm]
  simp
theorem wGd {α:Type} {enc:α->List Value} {z:α} {v:Value} {k:Nat} (h:enc z=hJ k v) (n:Nat):nA enc (hJ n z)=hJ (n * k) v:=by
 induction n with
 | zero=>simp
 | succ n ih=>rw [List.replicate_succ,nM,ih,h,List.replicate_append_replicate,kg,kM,Nat.add_comm]
theorem OKS.makeSliceZ {α:Type} {t e:TypeId} {inf:TypeInfo} {x y:Operand} {n:Int} {v u:Value} {enc:α->List Value} {z:α} {xs:List α} {sz:Nat} (ho:l[i]?=some o) (hd:o.dst=some d) (hN:Nat.blt d N=true) (hw:wanted l σ o=true) (hop:o.op=.makeSlice t x y)
  (ht:P.underlying t=some (.slice e)) (hi:P.info? e=some inf) (hz:inf.zero=some u) (hc:u.cells=kC sz v) (hs:inf.size=sz) (henc:enc z=hJ sz v) (hsz:0 < sz) (hb:sz <= 16) (hx:ev σ x=.int .i64 n) (hy:ev σ y=.int .i64 n) (hm:mkz inf.bytes n z=some xs) (hS:St B φ L w)
  (k:∀ w' b,St B φ (.row (some ⟨b,0,none⟩) xs.length e sz (nA enc xs) :: L) w'->OKS N P l Q D ks s (upd σ d (.slice (some ⟨b,0,none⟩) xs.length xs.length)) w'):OKS N P l Q D ks (.fx i s .stop) σ w:=by
 unfold mkz at hm
 split at hm
 ·rename_i h
  obtain ⟨h0,h1,h2⟩:=h
  cases hm
  obtain ⟨m,rfl⟩:=kL h0
  have hr:=run_make (P:=P) w t e inf _ ht hi hz .i64 .i64 (m:Int) (m:Int) (by omega) (by omega) h2 (by omega)
  simp only [hs,nD,hc,wKe v sz (m * sz) hsz] at hr
  simp only [nD,List.length_replicate,wGd henc] at k
  have hmax:m <= maxLen:=by
   have h16:(16777216:Nat) <= maxLen:=by decide
   omega
  refine OKS.v (v:=.slice (some ⟨w.heap.size,0,none⟩) m m) (w':=w.alloc (.cells (hJ (m * sz) v).toArray e)) ho hd hN hw ⟨by rw [hop];rfl,?_⟩ (.inr (wCR w _))
   (k _ _ (hS.new (wCR w _) (.inr ⟨_,(hJ (m * sz) v).toArray,rfl,wFc w _ e,by simp,hmax,by simp,by simp⟩) rfl (nG _)))
  simp [execOp,hop,hx,hy,hr,Result.andThen]
 ·cases hm
end
end Go.KL
namespace Go.KL.Net
structure Ed where
 a:Nat
 b:Nat
 c:Int
def wHN (es:List Ed) (x:Nat->Int):Prop:=∀ e ∈ es,x e.b <= x e.a + e.c
theorem wNe {P:Int->Prop} {B:Int} (h:∃ m,P m) (hB:∀ m,P m->m <= B):∃ m,P m/\∀ k,P k->k <= m:=by
 have key:∀ (d:Nat) (m:Int),P m->(B - m).toNat <= d->∃ m,P m/\∀ k,P k->k <= m:=by
  intro d
  induction d with
  | zero =>
   intro m hm hd
   exact ⟨m,hm,fun k hk=>by have:=hB k hk;omega⟩
  | succ d ih =>
   intro m hm hd
   rcases kc (∃ k,P k/\m < k) with ⟨k,hk,hlt⟩ | h
   ·exact ih k hk (by have:=hB k hk;omega)
   ·exact ⟨m,hm,fun k hk=>by
     rcases kd m k with c | c
     ·exact absurd ⟨k,hk,c⟩ h
     ·exact c⟩
 obtain ⟨m,hm⟩:=h
 exact key _ m hm (nG _)
structure Con (n:Nat) (R:Int) (es:List Ed):Prop where
 ends:∀ e ∈ es,e.a < n/\e.b < n
 near:∀ x,wHN es x->∀ a b,a < n->b < n->x b - x a <= R
 all:∀ (S:Nat->Prop) (i:Nat),i < n->S i->(∀ e ∈ es,S e.a->S e.b)->∀ v,v < n->S v
structure Most (n:Nat) (es:List Ed) (top:Nat->Int) (δ:Nat->Int):Prop where
 ok:wHN es δ
 le:∀ v,v < n->δ v <= top v
 gr:∀ x,wHN es x->(∀ v,v < n->x v <= top v)->∀ v,v < n->x v <= δ v
theorem wOw {es:List Ed} {x:Nat->Int} (h:wHN es x) (k:Int):wHN es fun v=>x v + k:=fun e he=>by have:=h e he;simp only;omega
theorem wLd {n:Nat} {R:Int} {es:List Ed} (C:Con n R es) {x:Nat->Int} (hx:wHN es x) {top:Nat->Int} {i:Nat} (hi:i < n) (h0:top i=0) (hp:∀ v,v < n->0 <= top v):∃ δ,Most n es top δ:=by
  have ex:∀ v,∃ m:Int,(v < n->(∃ y,wHN es y/\(∀ u,u < n->y u <= top u)/\y v=m)/\∀ y,wHN es y->(∀ u,u < n->y u <= top u)->y v <= m):=by
    intro v
    by_cases hv:v < n
    · obtain ⟨m,hm,hm2⟩:=wNe (P:=fun m=>∃ y,wHN es y/\(∀ u,u < n->y u <= top u)/\y v=m) (B:=R) ⟨_,fun u=>x u + (-(x i + R)),wOw hx _,fun u hu=>by
          have:=C.near x hx i u hi hu
          have:=hp u hu
          simp only
          omega,rfl⟩ (by
          rintro m ⟨y,hy,hy2,rfl⟩
          have:=C.near y hy i v hi hv
          have:=hy2 i hi
          omega)
      exact ⟨m,fun _=>⟨hm,fun y hy hy2=>hm2 _ ⟨y,hy,hy2,rfl⟩⟩⟩
    · exact ⟨0,fun h=>absurd h hv⟩
  obtain ⟨δ,sp⟩:=Classical.axiomOfChoice ex
  refine ⟨δ,fun e he=>?_,fun v hv=>?_,fun y hy hy2 v hv=>(sp v hv).2 y hy hy2⟩
  · obtain ⟨h1,h2⟩:=C.ends e he
    obtain ⟨⟨y,hy,hy2,hy3⟩,_⟩:=sp e.b h2
    have:=(sp e.a h1).2 y hy hy2
    have:=hy e he
    omega
  · obtain ⟨⟨y,hy,hy2,hy3⟩,_⟩:=sp v hv
    have:=hy2 v hv
    omega
theorem Most.hi {n:Nat} {R:Int} {es:List Ed} (C:Con n R es) {top δ:Nat->Int} (M:Most n es top δ) {i:Nat} (hi:i < n) (h0:top i=0):∀ v,v < n->δ v <= R:=fun v hv=>by
 have:=C.near δ M.ok i v hi hv
 have:=M.le i hi
 omega
theorem Most.tight {n:Nat} {es:List Ed} {top δ:Nat->Int} (M:Most n es top δ) (hes:∀ e ∈ es,e.a < n/\e.b < n) (low:Nat->Int) (h0:∀ v,v < n->low v <= top v) (hT:∃ v,v < n/\δ v < low v) (hge:∀ v,v < n->δ v <= low v) :
  ∃ e ∈ es,low e.a=δ e.a/\δ e.b < low e.b/\δ e.b=δ e.a + e.c:=by
 rcases kc (∃ e ∈ es,low e.a=δ e.a/\δ e.b < low e.b/\δ e.b=δ e.a + e.c) with h | h
 ·exact h
 ·exfalso
  obtain ⟨v,hv,hlt⟩:=hT
  have hx:wHN es (fun u=>if δ u < low u then δ u + 1 else δ u):=by
   intro e he
   obtain ⟨h1,h2⟩:=hes e he
   have a:=M.ok e he
   have b:=hge e.a h1
   have c:=hge e.b h2
   simp only
   by_cases e1:δ e.b < low e.b
   ·by_cases e2:δ e.a < low e.a
    ·rw [if_pos e1,if_pos e2];omega
    ·rw [if_pos e1,if_neg e2]
     by_cases e3:δ e.b=δ e.a + e.c
     ·exact absurd ⟨e,he,by omega,e1,e3⟩ h
     ·omega
   ·rw [if_neg e1]
    split <;> omega
  have:=M.gr _ hx (fun u hu=>by
   have:=M.le u hu
   have:=h0 u hu
   show (if δ u < low u then δ u + 1 else δ u) <= top u
   split <;> omega) v hv
  have this:(if δ v < low v then δ v + 1 else δ v) <= δ v:=this
  rw [if_pos hlt] at this
  omega
theorem wKK (p q:Nat->Bool) (hpq:∀ v,p v=true->q v=true):∀ (l:List Nat),(∃ v ∈ l,p v=false/\q v=true)->l.countP p < l.countP q
 | [],⟨v,h,_⟩=>by cases h
 | a :: l,⟨v,h,hp,hq⟩=>by
  have mono:∀ l:List Nat,l.countP p <= l.countP q:=fun l=>List.countP_mono_left fun v _ h=>hpq v h
  rw [List.countP_cons,List.countP_cons]
  rcases na.1 h with rfl | h
  ·have:=mono l
   simp only [hp,hq,if_true,nS,if_false]
   omega
  ·have:=wKK p q hpq l ⟨v,h,hp,hq⟩
   have:(if p a=true then 1 else 0) <= (if q a=true then 1 else 0):=by
    cases e:p a with
    | true=>rw [hpq a e];simp
    | false=>simp
   omega
def wOQ (n:Nat) (δ low:Nat->Int):Nat:=(nN n).countP fun v=>decide (low v=δ v)
theorem wNf (n:Nat) (δ low:Nat->Int):wOQ n δ low <= n:=by
 have:=List.countP_le_length (p:=fun v=>decide (low v=δ v)) (l:=nN n)
 rw [List.length_range] at this
 exact this
theorem wNg {n:Nat} {δ low low':Nat->Int} (h1:∀ v,v < n->δ v <= low' v) (h2:∀ v,v < n->low' v <= low v) {v:Nat} (hv:v < n) (a:δ v < low v) (b:low' v=δ v):wOQ n δ low < wOQ n δ low':=by
 have:=wKK (fun v=>decide (low v=δ v)) (fun v=>decide (low' v=δ v) || !decide (v < n)) (fun u hu=>by
  have hu':=of_decide_eq_true hu
  by_cases hun:u < n
  ·have:=h1 u hun
   have:=h2 u hun
   simp only [Bool.or_eq_true,decide_eq_true_eq]
   exact .inl (by omega)
  ·simp [hun]) (nN n) ⟨v,kR.2 hv,decide_eq_false (by omega),by simp [b]⟩
 have e:(nN n).countP (fun v=>decide (low' v=δ v) || !decide (v < n))=(nN n).countP (fun v=>decide (low' v=δ v)):=by
  apply List.countP_congr
  intro u hu
  have:u < n:=kR.1 hu
  simp [this]
 unfold wOQ
 omega
structure IsD (n:Nat) (es:List Ed) (i:Nat) (f:Nat->Int):Prop where
 ok:wHN es f
 zero:f i=0
 gr:∀ x,wHN es x->∀ v,v < n->x v - x i <= f v
end Go.KL.Net
namespace Go.KL
variable {S S' B B' α:Type}
theorem wHO {body:Nat->S->Option (S ⊕ B)} (I:Nat->S->Prop) (Z:B->Prop):∀ (m k:Nat) (s:S),I k s ->
  (∀ i s,k <= i->i < k + m->I i s->(∃ s',body i s=some (.inl s')/\I (i + 1) s') \/ ∃ b,body i s=some (.inr b)/\Z b) ->
  (∃ s',forN body m k s=some (.inl s')/\I (k + m) s') \/ ∃ b,forN body m k s=some (.inr b)/\Z b
 | 0,k,s,h,_=>.inl ⟨s,rfl,h⟩
 | m + 1,k,s,h,hb=>by
  simp only [forN]
  rcases hb k s (nG _) (by omega) h with ⟨s',h1,h2⟩ | ⟨b,h1,h2⟩
  ·rw [h1]
   have:=wHO I Z m (k + 1) s' h2 fun i s h2 h3 h4=>hb i s (by omega) (by omega) h4
   rwa [show k + 1 + m=k + (m + 1) from by omega] at this
  ·rw [h1];exact .inr ⟨b,rfl,h2⟩
theorem wDh {body:Nat->S->Option S} (I:Nat->S->Prop):∀ (m k:Nat) (s:S),I k s ->
  (∀ i s,k <= i->i < k + m->I i s->∃ s',body i s=some s'/\I (i + 1) s')->∃ s',forN' body m k s=some s'/\I (k + m) s'
 | 0,k,s,h,_=>⟨s,rfl,h⟩
 | m + 1,k,s,h,hb=>by
  simp only [forN']
  obtain ⟨s',h1,h2⟩:=hb k s (nG _) (by omega) h
  rw [h1]
  have:=wDh I m (k + 1) s' h2 fun i s h2 h3 h4=>hb i s (by omega) (by omega) h4
  rwa [show k + 1 + m=k + (m + 1) from by omega] at this
theorem wDx {body:Nat->S->Option (S ⊕ B)} {n:Nat} {s:S} (hn:n <= 9223372036854775807):wFU 0 (n:Int) body s=forN body n 0 s:=by
 unfold wFU
 rw [if_pos (by omega),show ((n:Int) - 0).toNat=n from by omega]
theorem wCo {body:Nat->S->Option S} {n:Nat} {s:S} (hn:n <= 9223372036854775807):wCF 0 (n:Int) body s=forN' body n 0 s:=by
 unfold wCF
 rw [if_pos (by omega),show ((n:Int) - 0).toNat=n from by omega]
theorem wKl [DecidableEq α] {l m:List α} (hn:l.length <= 9223372036854775807) :
  (if (↑l.length:Int)=(↑m.length:Int) then jn (wFU 0 (↑l.length:Int) (fun k4 (_:Unit)=>(idx l (↑k4:Int)).bind fun x26=>(idx m (↑k4:Int)).bind fun x34=>if x26=x34 then some (.inl ()) else esc (some false)) ()) fun _=>some true else some false)=some (decide (l=m)):=by
 by_cases hl:l.length=m.length
 ·rw [if_pos (by omega),wDx hn]
  have key:∀ (n k:Nat),k + n=l.length->(jn (forN (fun k4 (_:Unit)=>(idx l (↑k4:Int)).bind fun x26=>(idx m (↑k4:Int)).bind fun x34=>if x26=x34 then some (.inl ()) else esc (some false)) n k ()) fun _=>some true)=some (decide (l.drop k=m.drop k)):=by
   intro n
   induction n with
   | zero=>intro k hk;rw [nf (by omega),nf (by omega)];simp [forN]
   | succ n ih =>
    intro k hk
    have h1:k < l.length:=by omega
    have h2:k < m.length:=by omega
    rw [nX h1,nX h2,forN,wHR,wHR,hU h1,hU h2]
    simp only [hD]
    by_cases h:l[k]=m[k]
    ·rw [if_pos h]
     simp only
     rw [ih (k + 1) (by omega)]
     congr 1
     exact decide_eq_decide.2 ⟨fun e=>by rw [e,h],fun e=>(kj e).2⟩
    ·rw [if_neg h]
     have:¬ l[k] :: l.drop (k + 1)=m[k] :: m.drop (k + 1):=fun e=>h (kj e).1
     simp only [wFr,wHS,this,decide_false]
  have:=key l.length 0 (by omega)
  simpa using this
 ·rw [if_neg (by omega)]
  have:l ≠ m:=fun e=>hl (by rw [e])
  simp [this]
theorem wFu {R:Type} {l:List α} {g:α->Option (Unit ⊕ R)} {p:α->Bool} {z:R} {K:Unit->Option R} (hg:∀ a ∈ l,g a=if p a=true then some (.inl ()) else some (.inr z)) (hn:l.length <= 9223372036854775807) :
  jn (wFU 0 (↑l.length:Int) (fun k (_:Unit)=>(idx l (↑k:Int)).bind g) ()) K=if l.all p=true then K () else some z:=by
 rw [wDx hn]
 have key:∀ (m k:Nat),k + m=l.length->jn (forN (fun k (_:Unit)=>(idx l (↑k:Int)).bind g) m k ()) K=if (l.drop k).all p=true then K () else some z:=by
  intro m
  induction m with
  | zero=>intro k hk;rw [nf (by omega)];rfl
  | succ m ih =>
   intro k hk
   have hlt:k < l.length:=by omega
   have e:l.drop k=l[k] :: l.drop (k + 1):=nX hlt
   rw [e,kW,forN,wHR,hU hlt]
   simp only [hD,hg _ (List.getElem_mem hlt)]
   by_cases h:p l[k]=true
   ·rw [h]
    simp only [if_true,Bool.true_and]
    exact ih (k + 1) (by omega)
   ·rw [if_neg h]
    have:p l[k]=false:=by simpa using h
    simp only [this,Bool.false_and,wHS,nS,if_false]
 exact key l.length 0 (by omega)
theorem wKL {β:Type} {l:List α} {f:α->β} {bytes:Nat} {g:α->List β->Option (List β)} (hg:∀ a ∈ l,∀ r,g a r=app bytes r [f a]) (hn:l.length <= 9223372036854775807) (hb:l.length * bytes <= 140737488355328) :
  wCF 0 (↑l.length:Int) (fun k r=>(idx l (↑k:Int)).bind fun x=>g x r) []=some (l.map f):=by
 rw [wCo hn]
 have key:∀ (m k:Nat) (r:List β),k + m=l.length->r.length=k->forN' (fun k r=>(idx l (↑k:Int)).bind fun x=>g x r) m k r=some (r ++ (l.drop k).map f):=by
  intro m
  induction m with
  | zero=>intro k r hk _;rw [nf (by omega)];simp [forN']
  | succ m ih =>
   intro k r hk hr
   have hlt:k < l.length:=by omega
   have e:l.drop k=l[k] :: l.drop (k + 1):=nX hlt
   rw [e,forN',wHR,hU hlt]
   have ha:app bytes r [f l[k]]=some (r ++ [f l[k]]):=by
    refine if_pos ?_
    simp only [nB,ni]
    exact Nat.le_trans (nq _ (by omega)) hb
   simp only [hD,hg _ (List.getElem_mem hlt),ha]
   rw [ih (k + 1) _ (by omega) (by simp [hr]),nH]
   rfl
 exact key l.length 0 [] (by omega) rfl
theorem wFV {bytes:Nat} {l m:List α} (h:(l.length + m.length) * bytes <= 140737488355328):app bytes l m=some (l ++ m):=if_pos h
end Go.KL
namespace Go.KL
variable {S B R α β:Type}
theorem wJM {body:Nat->S->Option S} (s:Nat->S):∀ (m k:Nat),(∀ i,k <= i->i < k + m->body i (s i)=some (s (i + 1)))->forN' body m k (s k)=some (s (k + m))
 | 0,_,_=>rfl
 | m + 1,k,h=>by
  rw [forN',h k (nG _) (by omega)]
  have:=wJM s m (k + 1) fun i h1 h2=>h i (by omega) (by omega)
  rw [show k + 1 + m=k + (m + 1) by omega] at this
  exact this
theorem wLe {body:Nat->S->Option S} {n:Nat} {s0:S} (s:Nat->S) (h0:s 0=s0) (hn:n <= 9223372036854775807) (h:∀ i,i < n->body i (s i)=some (s (i + 1))):wCF 0 (n:Int) body s0=some (s n):=by
 rw [wCo hn,<- h0]
 have:=wJM s n 0 fun i _ hi=>h i (by omega)
 rwa [nU] at this
theorem wCB [Inhabited α] {l:List α} {k:Nat} (h:k < l.length):idx l (k:Int)=some (gd l k):=by
 rw [wHR]
 exact wBK h
theorem wCl [Inhabited α] {l:List α} {k:Nat} (h:k < l.length):gd l k ∈ l:=nY (wBK h)
theorem wIe [Inhabited α] {l:List α} {k:Nat} (h:k < l.length):l.take (k + 1)=l.take k ++ [gd l k]:=by
 rw [List.take_add_one,wBK h]
 rfl
theorem wLf [Inhabited α] {l:List α} {k:Nat} (h:k < l.length):l.drop k=gd l k :: l.drop (k + 1):=by
 have:=wBK h
 rw [hU h] at this
 rw [nX h,nZ this]
theorem wIf [Inhabited α] {l m:List α} {k:Nat} (h:k < l.length):gd (l ++ m) k=gd l k:=by
 have h1:=wBK (xs:=l ++ m) (k:=k) (by rw [nI];omega)
 rw [nL h,wBK h] at h1
 exact (nZ h1).symm
theorem wMZ [Inhabited α] (l m:List α) (x:α):gd (l ++ x :: m) l.length=x:=by
 have h1:=wBK (xs:=l ++ x :: m) (k:=l.length) (by simp)
 rw [nR (nG _),Nat.sub_self] at h1
 exact (nZ h1).symm
theorem wEu [Inhabited α] [Inhabited β] (f:α->β) {l:List α} {k:Nat} (h:k < l.length):gd (l.map f) k=f (gd l k):=by
 have h1:=wBK (xs:=l.map f) (k:=k) (by simpa using h)
 rw [List.getElem?_map,wBK h] at h1
 exact (nZ h1).symm
theorem wOx [Inhabited α] {l m:List α} (h:l.length=m.length) (hk:∀ k,k < l.length->gd l k=gd m k):l=m:=by
 apply nr
 intro k
 rcases nz k l.length with h1 | h1
 ·rw [wBK h1,wBK (by omega),hk k h1]
 ·rw [nl h1,nl (by omega)]
end Go.KL
namespace Go.KL
variable {S B α:Type}
theorem wFv {body:S->Option (S ⊕ B)} (I:Nat->S->Prop) (Z:B->Prop) (m:Nat) (step:∀ i s,i <= m->I i s->(i < m/\∃ s',body s=some (.inl s')/\I (i + 1) s') \/ ∃ b,body s=some (.inr b)/\Z b) {s0:S} (h0:I 0 s0) (hm:m < 1000000):∃ b,iter body big s0=some b/\Z b:=by
 have key:∀ (d i:Nat) (s:S),i + d=m->I i s->∀ F,d < F->∃ b,iter body F s=some b/\Z b:=by
  intro d
  induction d with
  | zero =>
   intro i s hi hI F hF
   obtain ⟨F,rfl⟩:∃ G,F=G + 1:=⟨F - 1,by omega⟩
   rcases step i s (by omega) hI with ⟨h,_⟩ | ⟨b,h1,h2⟩
   ·omega
   ·exact ⟨b,by rw [iter,h1],h2⟩
  | succ d ih =>
   intro i s hi hI F hF
   obtain ⟨F,rfl⟩:∃ G,F=G + 1:=⟨F - 1,by omega⟩
   rcases step i s (by omega) hI with ⟨_,s',h1,h2⟩ | ⟨b,h1,h2⟩
   ·obtain ⟨b,h3,h4⟩:=ih (i + 1) s' (by omega) h2 F (by omega)
    exact ⟨b,by rw [iter,h1];exact h3,h4⟩
   ·exact ⟨b,by rw [iter,h1],h2⟩
 exact key m 0 s0 (by omega) h0 big (by unfold big;omega)
theorem wJq {body:S->Option (S ⊕ B)} (I:Nat->S->Prop) {b:B} (m:Nat) {s0:S} (h0:I 0 s0) (hm:m < 1000000) (step:∀ i s,i <= m->I i s->(i < m/\∃ s',body s=some (.inl s')/\I (i + 1) s') \/ body s=some (.inr b)):iter body big s0=some b:=by
 obtain ⟨c,h1,h2⟩:=wFv (body:=body) I (fun c=>c=b) m (fun i s hi hI=>by
  rcases step i s hi hI with h | h
  ·exact .inl h
  ·exact .inr ⟨b,h,rfl⟩) h0 hm
 rw [h1,h2]
theorem wFW [Inhabited α] {l:List α} {i k:Nat} {x:α} (hi:i < l.length) (hk:k < l.length):gd (l.set i x) k=if k=i then x else gd l k:=by
 have h1:=wBK (xs:=l.set i x) (k:=k) (by rw [nP];exact hk)
 rw [nt] at h1
 by_cases e:i=k
 ·subst e
  rw [if_pos rfl,if_pos hi] at h1
  rw [if_pos rfl]
  exact (nZ h1).symm
 ·rw [if_neg e,wBK hk] at h1
  rw [if_neg (fun h=>e h.symm)]
  exact (nZ h1).symm
theorem wHd [Inhabited α] {l:List α} {k:Nat} (h:k < l.length):gd l k=l[k]:=by
 have:=wBK h
 rw [hU h] at this
 exact (nZ this).symm
theorem wMa [Inhabited α] {l:List α} (hl:l.length <= 100000):iter (fun (l11,x12,x13) =>
  if x12 < x13 then
   (chk x13 l11.length).bind fun _ =>
   (chk x12 l11.length).bind fun _ =>
   (chk x13 (hH l11 x12.toNat (gd l11 x13.toNat)).length).bind fun _ =>
   some (.inl ((hH (hH l11 x12.toNat (gd l11 x13.toNat)) x13.toNat (gd l11 x12.toNat)),w64 (x12 + 1),w64 (x13 - 1)))
  else
   esc (some l11)) big (l,(0:Int),w64 ((↑l.length:Int) - 1))=some l.reverse:=by
 obtain ⟨b,h1,h2⟩:=wFv (S:=List α × Int × Int) (B:=List α) (body:=fun (l11,x12,x13) =>
  if x12 < x13 then
   (chk x13 l11.length).bind fun _ =>
   (chk x12 l11.length).bind fun _ =>
   (chk x13 (hH l11 x12.toNat (gd l11 x13.toNat)).length).bind fun _ =>
   some (.inl ((hH (hH l11 x12.toNat (gd l11 x13.toNat)) x13.toNat (gd l11 x12.toNat)),w64 (x12 + 1),w64 (x13 - 1)))
  else
   esc (some l11))
  (fun i s=>s.1.length=l.length/\s.2.1=i/\s.2.2=(l.length:Int) - 1 - i/\∀ k,k < l.length->gd s.1 k=if k < i \/ l.length - i <= k then gd l (l.length - 1 - k) else gd l k) (fun b=>b=l.reverse) (l.length / 2)
  (by
   rintro i ⟨c,a,b⟩ hi ⟨g1,g2,g3,g4⟩
   simp only at g1 g2 g3 g4
   subst g2 g3
   by_cases hlt:i < l.length / 2
   ·left
    refine ⟨hlt,?_⟩
    have hA:((i:Int)).toNat=i:=by omega
    have hB:((l.length:Int) - 1 - i).toNat=l.length - 1 - i:=by omega
    refine ⟨((c.set i (gd c (l.length - 1 - i))).set (l.length - 1 - i) (gd c i),(i:Int) + 1,(l.length:Int) - 1 - i - 1),?_,?_,by simp,by show (l.length:Int) - 1 - i - 1=_;omega,fun k hk=>?_⟩
    ·simp only
     rw [if_pos (by omega),wDm (by omega) (by omega),hD,wDm (by omega) (by omega),hD,nP,wDm (by omega) (by omega),hD,hA,hB,wAb (by omega) (by omega),wAb (by omega) (by omega)]
    ·simp only [nP];exact g1
    ·simp only
     rw [wFW (by rw [nP];omega) (by rw [nP];omega),wFW (by omega) (by omega)]
     by_cases e1:k=l.length - 1 - i
     ·rw [if_pos e1,if_pos (by omega),g4 i (by omega),if_neg (by omega)]
      congr 1
      omega
     ·rw [if_neg e1]
      by_cases e2:k=i
      ·rw [if_pos e2,if_pos (by omega),g4 _ (by omega),if_neg (by omega)]
       congr 1
       omega
      ·rw [if_neg e2,g4 k hk]
       by_cases e3:k < i \/ l.length - i <= k
       ·rw [if_pos e3,if_pos (by omega)]
       ·rw [if_neg e3,if_neg (by omega)]
   ·right
    refine ⟨c,by simp only;rw [if_neg (by omega)];rfl,?_⟩
    apply nr
    intro k
    rcases nz k l.length with hk | hk
    ·rw [wBK (by omega),List.getElem?_reverse hk,wBK (by omega),g4 k hk]
     congr 1
     split
     ·rfl
     ·congr 1
      omega
    ·rw [nl (by omega),nl (by rw [List.length_reverse];omega)])
  (s0:=(l,0,w64 ((↑l.length:Int) - 1))) ⟨rfl,rfl,by show w64 _=_;rw [wAb (by omega) (by omega)];omega,fun k hk=>by rw [if_neg (by omega)]⟩ (by omega)
 rw [h1,h2]
theorem wFL [DecidableEq α] {l:List α} (hn:l.length <= 9223372036854775807) :
  (if (↑l.length:Int)=(↑l.length:Int) then jn (wFU 0 (↑l.length:Int) (fun k4 (_:Unit)=>(idx l (↑k4:Int)).bind fun x26=>(idx l (↑k4:Int)).bind fun x34=>if x26=x34 then some (.inl ()) else esc (some false)) ()) fun _=>some true else some false)=some true:=by
 rw [wKl hn]
 simp
end Go.KL
namespace Go.Proofs.YtlnfbjphfoipaaaGreat
open Go.KL Go.KL.Net
structure wML (n:Nat) (e:wAX):Prop where
 f0:0 <= e.from_
 f1:e.from_ < n
 t0:0 <= e.to_
 t1:e.to_ < n
 c0:-400000 <= e.count
 c1:e.count <= 400000
def ed (p:Bool) (e:wAX):Ed:=if p then ⟨e.to_.toNat,e.from_.toNat,e.count⟩ else ⟨e.from_.toNat,e.to_.toNat,e.count⟩
abbrev SS:=List Int × List Int × Int
def spB (es:List wAX) (p2:Bool):Nat->SS->Option SS:=fun k1375 (l1372,l1373,x1374) =>
      ((idx es (↑k1375:Int)).bind fun x1412 =>
      if p2=true then
        (chk x1412.to_ l1372.length).bind fun _ =>
        if (gd l1372 x1412.to_.toNat) < 1125899906842624 then
          (chk x1412.from_ l1372.length).bind fun _ =>
          if (w64 ((gd l1372 x1412.to_.toNat) + x1412.count)) < (gd l1372 x1412.from_.toNat) then
            ((chk x1412.from_ l1373.length).bind fun _ =>
            some ()).bind fun _ =>
            some ((hH l1372 x1412.from_.toNat (w64 ((gd l1372 x1412.to_.toNat) + x1412.count))),(hH l1373 x1412.from_.toNat (↑k1375:Int)),x1412.from_)
          else
            some (l1372,l1373,x1374)
        else
          some (l1372,l1373,x1374)
      else
        (chk x1412.from_ l1372.length).bind fun _ =>
        if (gd l1372 x1412.from_.toNat) < 1125899906842624 then
          (chk x1412.to_ l1372.length).bind fun _ =>
          if (w64 ((gd l1372 x1412.from_.toNat) + x1412.count)) < (gd l1372 x1412.to_.toNat) then
            ((chk x1412.to_ l1373.length).bind fun _ =>
            some ()).bind fun _ =>
            some ((hH l1372 x1412.to_.toNat (w64 ((gd l1372 x1412.from_.toNat) + x1412.count))),(hH l1373 x1412.to_.toNat (↑k1375:Int)),x1412.to_)
          else
            some (l1372,l1373,x1374)
        else
          some (l1372,l1373,x1374)).bind fun (l1406,l1407,x1408) =>
      some (l1406,l1407,x1408)
theorem wKM {n:Nat} {es:List wAX} (hes:∀ e ∈ es,wML n e) {p:Bool} {k:Nat} (hk:k < es.length) {far by_:List Int} {last:Int} (hf:far.length=n) (hb:by_.length=n) {M:Int} (hM:M <= 1000000000000000) (h0:0 <= M) (hr:∀ v,v < n->gd far v=1125899906842624 \/ (-M <= gd far v/\gd far v <= M)) :
  (ed p (gd es k)).a < n/\(ed p (gd es k)).b < n /\
  spB es p k (far,by_,last)=some (if gd far (ed p (gd es k)).a < 1125899906842624/\gd far (ed p (gd es k)).a + (ed p (gd es k)).c < gd far (ed p (gd es k)).b then
   (far.set (ed p (gd es k)).b (gd far (ed p (gd es k)).a + (ed p (gd es k)).c),by_.set (ed p (gd es k)).b (k:Int),((ed p (gd es k)).b:Int)) else (far,by_,last)):=by
 obtain ⟨f0,f1,t0,t1,c0,c1⟩:=hes _ (wCl hk)
 have hw:∀ a:Int,0 <= a->a < n->gd far a.toNat < 1125899906842624->w64 (gd far a.toNat + (gd es k).count)=gd far a.toNat + (gd es k).count:=fun a h1 h2 h3=>by
  rcases hr a.toNat (by omega) with c | c
  ·omega
  ·exact wAb (by omega) (by omega)
 unfold spB ed
 rw [wCB hk]
 cases p with
 | true =>
  refine ⟨by simp only [if_true];omega,by simp only [if_true];omega,?_⟩
  simp only [hD,if_true]
  rw [wDm t0 (by omega),hD]
  by_cases a:gd far (gd es k).to_.toNat < 1125899906842624
  ·rw [if_pos a,wDm f0 (by omega),hD,hw _ t0 t1 a]
   by_cases b:gd far (gd es k).to_.toNat + (gd es k).count < gd far (gd es k).from_.toNat
   ·rw [if_pos b,wDm f0 (by omega),if_pos ⟨a,b⟩]
    simp only [hD]
    rw [show (((gd es k).from_.toNat:Nat):Int)=(gd es k).from_ by omega]
   ·rw [if_neg b,if_neg (fun h=>b h.2)];rfl
  ·rw [if_neg a,if_neg (fun h=>a h.1)];rfl
 | false =>
  refine ⟨by simp only [nS,if_false];omega,by simp only [nS,if_false];omega,?_⟩
  simp only [hD,nS,if_false]
  rw [wDm f0 (by omega),hD]
  by_cases a:gd far (gd es k).from_.toNat < 1125899906842624
  ·rw [if_pos a,wDm t0 (by omega),hD,hw _ f0 f1 a]
   by_cases b:gd far (gd es k).from_.toNat + (gd es k).count < gd far (gd es k).to_.toNat
   ·rw [if_pos b,wDm t0 (by omega),if_pos ⟨a,b⟩]
    simp only [hD]
    rw [show (((gd es k).to_.toNat:Nat):Int)=(gd es k).to_ by omega]
   ·rw [if_neg b,if_neg (fun h=>b h.2)];rfl
  ·rw [if_neg a,if_neg (fun h=>a h.1)];rfl
structure Ps (n:Nat) (es:List wAX) (p:Bool) (far:List Int) (M:Int) (i:Nat) (s:SS):Prop where
 fl:s.1.length=n
 bl:s.2.1.length=n
 rg:∀ v,v < n->gd s.1 v=1125899906842624 \/ (-(M + 400000 * (i:Int)) <= gd s.1 v/\gd s.1 v <= M + 400000 * (i:Int))
 le:∀ v,v < n->gd s.1 v <= gd far v
 ch:(s.2.2=-1/\s.1=far/\∀ e ∈ es.take i,gd far (ed p e).a < 1125899906842624->gd far (ed p e).b <= gd far (ed p e).a + (ed p e).c) \/ (0 <= s.2.2/\s.2.2 < n/\∃ v,v < n/\gd s.1 v < gd far v)
 fe:∀ x,wHN (es.map (ed p)) x->(∀ v,v < n->x v <= gd far v)->∀ v,v < n->x v <= gd s.1 v
 st:∀ δ,wHN (es.map (ed p)) δ->(∀ v,v < n->δ v <= gd far v)->(∀ v,v < n->δ v < 1125899906842624)->∀ e ∈ es.take i,gd far (ed p e).a=δ (ed p e).a->δ (ed p e).b=δ (ed p e).a + (ed p e).c->gd s.1 (ed p e).b=δ (ed p e).b
theorem wJr {n:Nat} {es:List wAX} (hes:∀ e ∈ es,wML n e) (hl:es.length <= 1000) (p:Bool) {far by_:List Int} (hf:far.length=n) (hb:by_.length=n) {M:Int} (hM:M <= 900000000000000) (h0:0 <= M) (hr:∀ v,v < n->gd far v=1125899906842624 \/ (-M <= gd far v/\gd far v <= M)) :
  ∃ s,wCF 0 (↑es.length:Int) (spB es p) (far,by_,-1)=some s/\Ps n es p far M es.length s:=by
 rw [wCo (by omega)]
 obtain ⟨s,e,P⟩:=wDh (body:=spB es p) (fun i s=>Ps n es p far M i s) es.length 0 (far,by_,-1)
  ⟨hf,hb,fun v hv=>by have:=hr v hv;simp only;omega,fun _ _=>nu _,.inl ⟨rfl,rfl,fun e he=>by simp at he⟩,fun _ _ h=>h,fun _ _ _ _ e he=>by simp at he⟩ (by
  rintro i ⟨f,b,last⟩ _ hi P
  have hi':i < es.length:=by omega
  obtain ⟨fl,bl,rg,le,ch,fe,st⟩:=P
  simp only at fl bl rg le ch fe st
  obtain ⟨ha,hbb,e⟩:=wKM hes (p:=p) hi' (last:=last) fl bl (M:=M + 400000 * (i:Int)) (by omega) (by omega) rg
  have hm:=wCl hi'
  have hok:=hes _ hm
  have hc:-400000 <= (ed p (gd es i)).c/\(ed p (gd es i)).c <= 400000:=by
   have:=hok.c0;have:=hok.c1
   unfold ed
   split <;> exact ⟨by assumption,by assumption⟩
  have hfe:∀ x,wHN (es.map (ed p)) x->x (ed p (gd es i)).b <= x (ed p (gd es i)).a + (ed p (gd es i)).c:=fun x hx=>hx _ (nO.2 ⟨_,hm,rfl⟩)
  have hends:∀ e ∈ es.take i,(ed p e).a < n/\(ed p e).b < n:=fun e he=>by
   obtain ⟨a1,a2,a3,a4,_,_⟩:=hes e (List.mem_of_mem_take he)
   unfold ed
   split <;> (simp only;omega)
  generalize hE:ed p (gd es i)=E at ha hbb e hc hfe
  rw [e]
  by_cases c:gd f E.a < 1125899906842624/\gd f E.a + E.c < gd f E.b
  ·rw [if_pos c]
   obtain ⟨c1,c2⟩:=c
   have rga:-(M + 400000 * (i:Int)) <= gd f E.a/\gd f E.a <= M + 400000 * (i:Int):=by
    rcases rg E.a ha with q | q
    ·omega
    ·exact q
   have hg:∀ v,v < n->gd (f.set E.b (gd f E.a + E.c)) v=if v=E.b then gd f E.a + E.c else gd f v:=fun v hv=>wFW (by omega) (by omega)
   refine ⟨_,rfl,by simp [fl],by simp [bl],fun v hv=>?_,fun v hv=>?_,.inr ⟨by simp only;omega,by simp only;omega,E.b,hbb,?_⟩,fun x hx hxt v hv=>?_,fun δ hδ h1 h2 e' he' g1 g2=>?_⟩
   ·simp only
    rw [hg v hv]
    split
    ·right;omega
    ·rcases rg v hv with q | q
     ·exact .inl q
     ·right;omega
   ·simp only
    rw [hg v hv]
    split
    ·rename_i h;have:=le E.b hbb;rw [h];omega
    ·exact le v hv
   ·simp only
    rw [hg _ hbb,if_pos rfl]
    have:=le E.b hbb
    omega
   ·simp only
    rw [hg v hv]
    have:=fe x hx hxt
    split
    ·rename_i h
     have a1:=this E.a ha
     have a2:=hfe x hx
     rw [h];omega
    ·exact this v hv
   ·have lo:=fe δ hδ h1
    simp only
    rw [wIe hi'] at he'
    rcases nK.1 he' with he' | he'
    ·have old:=st δ hδ h1 h2 e' he' g1 g2
     rw [hg _ (hends e' he').2]
     split
     ·rename_i h
      have a1:=lo E.a ha
      have a2:=hfe δ hδ
      rw [h] at old ⊢
      omega
     ·exact old
    ·have:=nW.1 he'
     subst this
     rw [hE] at g1 g2 ⊢
     rw [hg _ hbb,if_pos rfl]
     have a1:=lo E.a ha
     have a2:=le E.a ha
     omega
  ·rw [if_neg c]
   refine ⟨_,rfl,fl,bl,fun v hv=>?_,le,?_,fe,fun δ hδ h1 h2 e' he' g1 g2=>?_⟩
   ·rcases rg v hv with q | q
    ·exact .inl q
    ·right;simp only;omega
   ·simp only
    rcases ch with ⟨q1,q2,q3⟩ | q
    ·refine .inl ⟨q1,q2,fun e' he' g=>?_⟩
     rw [wIe hi'] at he'
     rcases nK.1 he' with he' | he'
     ·exact q3 e' he' g
     ·have:=nW.1 he'
      subst this
      rw [hE] at g ⊢
      rw [q2] at c
      rcases kd (gd far E.a + E.c) (gd far E.b) with d | d
      ·exact absurd ⟨g,d⟩ c
      ·exact d
    ·exact .inr q
   ·have lo:=fe δ hδ h1
    rw [wIe hi'] at he'
    rcases nK.1 he' with he' | he'
    ·exact st δ hδ h1 h2 e' he' g1 g2
    ·have:=nW.1 he'
     subst this
     rw [hE] at g1 g2 ⊢
     simp only
     have a1:=lo E.a ha
     have a2:=le E.a ha
     have a3:=lo E.b hbb
     have a4:=h2 E.a ha
     have fa:gd f E.a=δ E.a:=by omega
     rw [fa] at c
     rcases kd (δ E.a + E.c) (gd f E.b) with d | d
     ·exact absurd ⟨a4,d⟩ c
     ·omega)
 rw [nU] at P
 exact ⟨s,e,P⟩
end Go.Proofs.YtlnfbjphfoipaaaGreat
namespace Go.Proofs.YtlnfbjphfoipaaaGreat
open Go.KL Go.KL.Net
theorem wFw {α:Type} [Inhabited α] (l:List α) (k:Nat):gd l k=(l[k]?).getD default:=by unfold gd;rw [kF]
theorem wLg {α:Type} {m ys:List α} {a:Nat} (h:a <= m.length):(cpy m a ys).length=m.length:=by
 unfold cpy
 simp only [nI,nQ,nw]
 omega
theorem wNA {α:Type} [Inhabited α] {m ys:List α} {a j:Nat} (h:a <= m.length) (hj:j < m.length):gd (cpy m a ys) j=if j < a then gd m j else if j < a + ys.length then gd ys (j - a) else gd m j:=by
 rw [wFw,wFw,wFw]
 unfold cpy
 rw [nH]
 by_cases c:j < a
 ·rw [if_pos c,nL (by rw [nQ];omega),kE,if_pos c]
 ·rw [if_neg c,nR (by rw [nQ];omega),nQ,Nat.min_eq_left h]
  by_cases d:j < a + ys.length
  ·rw [if_pos d,nL (by rw [nQ];omega),kE,if_pos (by omega)]
  ·rw [if_neg d,nR (by rw [nQ];omega),nQ,List.getElem?_drop,Nat.min_eq_right (by omega)]
   congr 2
   omega
theorem wFM (x:Int) {n:Nat} (h1:1 <= n) (h2:n <= 1000):wBY [x] (n:Int)=some (hJ n x):=by
 unfold wBY wEI
 have e1:wMP (([x]:List Int).length:Int)=1:=rfl
 have e2:wMP (n:Int)=n:=by unfold wMP;omega
 rw [if_neg (by omega),e1,e2,if_pos (by omega),hD]
 simp only
 rw [show (1:Int) * (n:Int) / 18446744073709551616=0 by omega,show (1:Int) * (n:Int) % 18446744073709551616=n by omega,if_neg (by omega),hD,decide_eq_false (by omega),if_neg (by simp),wAb (by omega) (by omega),mkz,if_pos (by omega),hD,wMQ,if_pos (by simp),hD]
 have hlen:(hJ (n:Int).toNat (0:Int)).length=n:=by simp
 generalize hJ (n:Int).toNat (0:Int)=z at hlen
 have e3:((min ([x]:List Int).length z.length:Nat):Int)=1:=by simp only [nm];omega
 refine wJq (I:=fun i (s:List Int × Int)=>s.1.length=n/\(i:Int) + 1 <= s.2/\s.2 <= n/\∀ j,j < s.2.toNat->gd s.1 j=x) n ⟨by rw [wLg (by simp)];exact hlen,by simp only;omega,by simp only;omega,fun j hj=>?_⟩ (by omega) ?_
 ·simp only at hj ⊢
  rw [wNA (by simp) (by omega),if_neg (by simp),if_pos (by simp only [nm];omega)]
  have:j=0:=by omega
  subst this
  rfl
 ·rintro i ⟨l,k⟩ hi ⟨q1,q2,q3,q4⟩
  simp only at q1 q2 q3 q4 ⊢
  by_cases c:k < (l.length:Int)
  ·left
   refine ⟨by omega,?_⟩
   have hd:(List.take ((l.length:Int).toNat - k.toNat) (List.drop k.toNat l)).length=l.length - k.toNat:=by
    rw [nQ,nw];omega
   have ht:(List.take (k.toNat - (0:Int).toNat) (List.drop (0:Int).toNat l))=l.take k.toNat:=by simp
   rw [if_pos c,cut,if_pos (by omega),hD,cut,if_pos (by omega),hD,wMQ,if_pos (by omega),hD,ht,hd,nQ]
   rw [wAb (by omega) (by omega)]
   refine ⟨_,rfl,by simp only;rw [wLg (by omega)];exact q1,by simp only;omega,by simp only;omega,fun j hj=>?_⟩
   simp only at hj ⊢
   rw [wNA (by omega) (by omega),nQ]
   by_cases d:j < k.toNat
   ·rw [if_pos d];exact q4 j d
   ·rw [if_neg d,if_pos (by omega)]
    have:=q4 (j - k.toNat) (by omega)
    rw [wFw] at this ⊢
    rw [kE,if_pos (by omega)]
    exact this
  ·right
   rw [if_neg c,wFr]
   have:l=hJ n x:=wOx (by simp [q1]) fun j hj=>by
    rw [q4 j (by omega),wHd (by simpa [q1] using hj)];simp
   rw [this]
def wHB (i:Int) (v:Nat):Int:=if i < 0 \/ (v:Int)=i then 0 else 1125899906842624
theorem wNB (i:Int) (v:Nat):0 <= wHB i v/\wHB i v <= 1125899906842624:=by unfold wHB;split <;> omega
theorem wJs {n:Nat} (i:Int) {l:List Int} (hl:l.length=n) (hn:n <= 1000) (h0:∀ v,v < n->gd l v=1125899906842624):∃ y,(wCF 0 (↑l.length:Int) (fun k1254 l1253 =>
  if i < 0 then
   (chk (↑k1254:Int) l1253.length).bind fun _ =>
   some (hH l1253 k1254 0)
  else
   if (↑k1254:Int)=i then
    (chk (↑k1254:Int) l1253.length).bind fun _ =>
    some (hH l1253 k1254 0)
   else
    some l1253) l)=some y/\y.length=n/\∀ v,v < n->gd y v=wHB i v:=by
 rw [wCo (by omega)]
 obtain ⟨y,e,y1,y2⟩:=wDh (body:=fun (k1254:Nat) (l1253:List Int) =>
  if i < 0 then
   (chk (↑k1254:Int) l1253.length).bind fun _ =>
   some (hH l1253 k1254 0)
  else
   if (↑k1254:Int)=i then
    (chk (↑k1254:Int) l1253.length).bind fun _ =>
    some (hH l1253 k1254 0)
   else
    some l1253) (fun k s=>s.length=n/\∀ v,v < n->gd s v=if v < k then wHB i v else 1125899906842624) l.length 0 l ⟨hl,fun v hv=>by rw [if_neg (by omega)];exact h0 v hv⟩ (by
  rintro k s _ hk ⟨s1,s2⟩
  have hk':k < n:=by omega
  have hset:∀ v,v < n->gd (s.set k 0) v=if v=k then 0 else gd s v:=fun v hv=>wFW (by omega) (by omega)
  by_cases c:i < 0 \/ (k:Int)=i
  ·have hb:(if i < 0 then (chk (↑k:Int) s.length).bind fun _=>some (hH s k 0) else if (↑k:Int)=i then (chk (↑k:Int) s.length).bind fun _=>some (hH s k 0) else some s)=some (s.set k 0):=by
    rw [wDm (by omega) (by omega)]
    rcases c with c | c
    ·rw [if_pos c];rfl
    ·rw [if_pos c]
     split <;> rfl
   refine ⟨_,hb,by simp [s1],fun v hv=>?_⟩
   rw [hset v hv]
   by_cases e:v=k
   ·subst e
    rw [if_pos rfl,if_pos (by omega),wHB,if_pos c]
   ·rw [if_neg e,s2 v hv]
    by_cases d:v < k
    ·rw [if_pos d,if_pos (by omega)]
    ·rw [if_neg d,if_neg (by omega)]
  ·refine ⟨s,by rw [if_neg (fun h=>c (.inl h)),if_neg (fun h=>c (.inr h))],s1,fun v hv=>?_⟩
   rw [s2 v hv]
   by_cases d:v < k
   ·rw [if_pos d,if_pos (by omega)]
   ·by_cases e:v=k
    ·subst e
     rw [if_neg (by omega),if_pos (by omega),wHB,if_neg c]
    ·rw [if_neg d,if_neg (by omega)])
 rw [nU] at y2
 exact ⟨y,e,y1,fun v hv=>by rw [y2 v hv,if_pos (by omega)]⟩
structure SpT (n:Nat) (es:List Ed) (i:Int) (far:List Int):Prop where
 fl:far.length=n
 rl:∀ e ∈ es,gd far e.a < 1125899906842624->gd far e.b <= gd far e.a + e.c
 rg:∀ v,v < n->gd far v=1125899906842624 \/ (-400000000000 <= gd far v/\gd far v <= 400000000000)
 le:∀ v,v < n->gd far v <= wHB i v
 fe:∀ x,wHN es x->(∀ v,v < n->x v <= wHB i v)->∀ v,v < n->x v <= gd far v
structure SpI (n:Nat) (es:List Ed) (i:Int) (t:Nat) (s:SS):Prop where
 fl:s.1.length=n
 bl:s.2.1.length=n
 rg:∀ v,v < n->gd s.1 v=1125899906842624 \/ (-(400000000 * (t:Int)) <= gd s.1 v/\gd s.1 v <= 400000000 * (t:Int))
 le:∀ v,v < n->gd s.1 v <= wHB i v
 fe:∀ x,wHN es x->(∀ v,v < n->x v <= wHB i v)->∀ v,v < n->x v <= gd s.1 v
 st:∀ δ,Most n es (wHB i) δ->(∀ v,v < n->δ v < 1125899906842624)->t <= wOQ n δ fun v=>gd s.1 v
 la:t=0 \/ (0 <= s.2.2/\s.2.2 < n)
theorem wJN {d:wAg} {n:Nat} (hn:d.number.length=n) (h1:1 <= n) (h2:n <= 500) (hes:∀ e ∈ d.edges,wML n e) (hl:d.edges.length <= 1000) (i:Int) (p:Bool) :
  ∃ f last ok,wAh d i p=some (f,last,ok)/\f.by_.length=n/\f.far.length=n/\(ok=true->SpT n (d.edges.map (ed p)) i f.far)/\(ok=false->0 <= last/\last < n/\∀ δ,Most n (d.edges.map (ed p)) (wHB i) δ->¬ ∀ v,v < n->δ v < 1125899906842624):=by
 unfold wAh
 rw [hn,wFM _ h1 (by omega),hD,wFM _ h1 (by omega),hD,hD]
 simp only
 obtain ⟨y,e1,y1,y2⟩:=wJs (n:=n) i (l:=hJ n 1125899906842624) (by simp) (by omega) (fun v hv=>by rw [wHd (by simpa using hv)];simp)
 rw [e1,hD,wAb (by omega) (by omega)]
 have hn1:((n:Int) + 1)=((n + 1:Nat):Int):=by omega
 rw [hn1,wDx (by omega)]
 have hmap:∀ e ∈ d.edges.map (ed p),e.a < n/\e.b < n:=fun e he=>by
  obtain ⟨q,hq,rfl⟩:=nO.1 he
  obtain ⟨a1,a2,a3,a4,_,_⟩:=hes q hq
  unfold ed
  split <;> (simp only;omega)
 rcases wHO (B:=wAf × Int × Bool) (body:=fun (k1336:Nat) ((l1333,l1334,x1335):SS) =>
  (wCF 0 (↑d.edges.length:Int) (spB d.edges p) (l1333,l1334,-1)).bind fun (y1380,y1381,y1382) =>
  if y1382 < 0 then
   esc (some ((⟨y1380,y1381⟩:wAf),0,true))
  else
   some (.inl (y1380,y1381,y1382))) (fun t s=>SpI n (d.edges.map (ed p)) i t s) (fun b=>b.2.2=true/\b.1.by_.length=n/\SpT n (d.edges.map (ed p)) i b.1.far) (n + 1) 0 (y,hJ n (-1),-1)
  ⟨y1,by simp,fun v hv=>by simp only;rw [y2 v hv];unfold wHB;split <;> omega,fun v hv=>by simp only;rw [y2 v hv];exact nu _,fun x _ hx v hv=>by simp only;rw [y2 v hv];exact hx v hv,fun _ _ _=>Nat.zero_le _,.inl rfl⟩ (by
   rintro t ⟨far,by_,last⟩ _ ht ⟨fl,bl,rg,le,fe,st,la⟩
   simp only at fl bl rg le fe st
   obtain ⟨⟨far',by',last'⟩,e,P⟩:=wJr hes hl p fl bl (M:=400000000 * (t:Int)) (by omega) (by omega) rg
   obtain ⟨gl,ql,qg,qle,ch,qfe,qst⟩:=P
   simp only at gl ql qg qle ch qfe qst
   simp only
   rw [e,hD]
   simp only
   rcases ch with ⟨c1,c2,c3⟩ | ⟨c1,c2,v,hv,c3⟩
   ·right
    subst c1
    rw [if_pos (by omega)]
    refine ⟨_,rfl,rfl,ql,gl,fun e' he' hlt=>?_,fun v hv=>?_,fun v hv=>ng (qle v hv) (le v hv),fun x hx hxt v hv=>qfe x hx (fe x hx hxt) v hv⟩
    ·obtain ⟨q,hq,rfl⟩:=nO.1 he'
     simp only at hlt ⊢
     rw [c2] at hlt ⊢
     rw [List.take_length] at c3
     exact c3 q hq hlt
    ·simp only
     rw [c2]
     rcases rg v hv with q | q
     ·exact .inl q
     ·right;omega
   ·left
    rw [if_neg (by omega)]
    refine ⟨_,rfl,gl,ql,fun v hv=>?_,fun v hv=>ng (qle v hv) (le v hv),fun x hx hxt v hv=>qfe x hx (fe x hx hxt) v hv,fun δ M hδ=>?_,.inr ⟨c1,c2⟩⟩
    ·simp only
     rcases qg v hv with q | q
     ·exact .inl q
     ·right;omega
    ·have old:=st δ M hδ
     have lo:=fe δ M.ok M.le
     have lo':=qfe δ M.ok lo
     simp only
     obtain ⟨e',he',g1,g2,g3⟩:=M.tight hmap (fun u=>gd far u) (fun u hu=>le u hu) ⟨v,hv,by have:=lo' v hv;omega⟩ lo
     obtain ⟨q,hq,rfl⟩:=nO.1 he'
     rw [List.take_length] at qst
     have h5:=qst δ M.ok lo hδ q hq g1 g3
     have:=wNg (n:=n) (δ:=δ) (low:=fun u=>gd far u) (low':=fun u=>gd far' u) lo' (fun u hu=>qle u hu) (hmap _ he').2 g2 h5
     omega) with ⟨⟨far,by_,last⟩,e,I⟩ | ⟨⟨f,last,ok⟩,e,h3,h4,h5⟩
 ·refine ⟨⟨far,by_⟩,last,false,?_,I.bl,I.fl,(fun h=>by cases h),fun _=>?_⟩
  ·show jn (forN _ (n + 1) 0 (y,hJ n (-1),-1)) _=_
   erw [e]
   rfl
  ·have hla:=I.la
   simp only at hla
   refine ⟨by omega,by omega,fun δ M hδ=>?_⟩
   have h6:0 + (n + 1) <= wOQ n δ fun v=>gd far v:=I.st δ M hδ
   have:=wNf n δ fun v=>gd far v
   omega
 ·simp only at h3 h4 h5
  subst h3
  refine ⟨f,last,true,?_,h4,h5.fl,fun _=>h5,fun h=>by cases h⟩
  show jn (forN _ (n + 1) 0 (y,hJ n (-1),-1)) _=_
  erw [e]
  rfl
theorem SpT.fin {n:Nat} {R:Int} {es:List Ed} (C:Con n R es) (hc:∀ e ∈ es,e.c <= 400000) {i:Int} {far:List Int} (S:SpT n es i far) {k:Nat} (hk:k < n) (h0:wHB i k=0):∀ v,v < n->gd far v < 1125899906842624 :=
 C.all (fun v=>v < n->gd far v < 1125899906842624) k hk (fun _=>by have:=S.le k hk;omega) (fun e he h _=>by
  obtain ⟨h1,h2⟩:=C.ends e he
  have a:=h h1
  have b:=S.rl e he a
  have c:=hc e he
  rcases S.rg e.a h1 with q | q <;> omega) |> fun h v hv=>h v hv hv
theorem SpT.feas {n:Nat} {R:Int} {es:List Ed} (C:Con n R es) (hc:∀ e ∈ es,e.c <= 400000) {i:Int} {far:List Int} (S:SpT n es i far) {k:Nat} (hk:k < n) (h0:wHB i k=0):wHN es fun v=>gd far v :=
 fun e he=>S.rl e he (S.fin C hc hk h0 e.a (C.ends e he).1)
theorem SpT.isD {n:Nat} {R:Int} (hR:R <= 1000000000000) {es:List Ed} (C:Con n R es) (hc:∀ e ∈ es,e.c <= 400000) {i:Nat} (hi:i < n) {far:List Int} (S:SpT n es i far):IsD n es i fun v=>gd far v:=by
 have t0:wHB i i=0:=by unfold wHB;rw [if_pos (.inr rfl)]
 have F:=S.feas C hc hi t0
 have gr:∀ x,wHN es x->∀ v,v < n->x v - x i <= gd far v:=fun x hx v hv=>by
  have:=S.fe (fun u=>x u + (-(x i))) (wOw hx _) (fun u hu=>by
   show x u + (-(x i)) <= _
   have:=C.near x hx i u hi hu
   unfold wHB
   split
   ·rename_i h
    rcases h with h | h
    ·omega
    ·have:u=i:=by omega
     subst this;omega
   ·omega) v hv
  have this:x v + (-(x i)) <= gd far v:=this
  omega
 have h1:=gr _ F i hi
 have h2:=S.le i hi
 exact ⟨F,by show gd far i=0;omega,gr⟩
end Go.Proofs.YtlnfbjphfoipaaaGreat
namespace Go.KL
def wLh (q:Nat->Bool):Nat->Nat->Bool
 | 0,_=>true
 | m + 1,k=>q k && wLh q m (k + 1)
def fnd {B:Type} (f:Nat->Option B):Nat->Nat->Option B
 | 0,_=>none
 | m + 1,k=>match f k with
  | some c=>some c
  | none=>fnd f m (k + 1)
theorem wIg (q:Nat->Bool):∀ m k,wLh q m k=true ↔ ∀ i,k <= i->i < k + m->q i=true
 | 0,k=>⟨fun _ i h1 h2=>by omega,fun _=>rfl⟩
 | m + 1,k=>by
  rw [wLh,nc,wIg q m (k + 1)]
  constructor
  ·rintro ⟨h1,h2⟩ i h3 h4
   by_cases e:i=k
   ·exact e ▸ h1
   ·exact h2 i (by omega) (by omega)
  ·exact fun h=>⟨h k (by omega) (by omega),fun i h1 h2=>h i (by omega) (by omega)⟩
theorem wLi {B:Type} (q:Nat->Bool) (c:B):∀ m k,fnd (fun i=>if q i=true then none else some c) m k=if wLh q m k=true then none else some c
 | 0,_=>rfl
 | m + 1,k=>by
  rw [fnd,wLi q c m (k + 1),wLh]
  cases q k <;> simp
def out {S B:Type} (s:S):Option B->S ⊕ B
 | none=>.inl s
 | some c=>.inr c
theorem wKN {B:Type} {body:Nat->Unit->Option (Unit ⊕ B)} {f:Nat->Option B}:∀ (m k:Nat),(∀ i,k <= i->i < k + m->body i ()=some (out () (f i)))->forN body m k ()=some (out () (fnd f m k))
 | 0,_,_=>rfl
 | m + 1,k,h=>by
  rw [forN,h k (by omega) (by omega),fnd]
  cases f k with
  | none=>exact wKN m (k + 1) fun i h1 h2=>h i (by omega) (by omega)
  | some c=>rfl
theorem wMb {B:Type} {body:Nat->Unit->Option (Unit ⊕ B)} {n:Nat} (f:Nat->Option B) (hn:n <= 1000) (h:∀ i,i < n->body i ()=some (out () (f i))):wFU 0 (n:Int) body ()=some (out () (fnd f n 0)):=by
 rw [wDx (by omega)]
 exact wKN n 0 fun i _ hi=>h i (by omega)
theorem wKO {B:Type} {body:Nat->Unit->Option (Unit ⊕ B)} {n:Nat} (q:Nat->Bool) (c:B) (hn:n <= 1000) (h:∀ i,i < n->body i ()=some (if q i=true then .inl () else .inr c)):wFU 0 (n:Int) body ()=some (if wLh q n 0=true then .inl () else .inr c):=by
 rw [wMb (fun i=>if q i=true then none else some c) hn fun i hi=>by rw [h i hi];split <;> rfl,wLi]
 split <;> rfl
theorem wGk {B:Type} {body:Int->Option (Int ⊕ B)} {f:Nat->Option B} {z:B} {n:Nat} (h:∀ i,i < n->body (i:Int)=some (out ((i:Int) + 1) (f i))) (hz:body (n:Int)=some (.inr z)):∀ (m k F:Nat),k + m=n->m < F->iter body F (k:Int)=some ((fnd f m k).getD z)
 | 0,k,F,hk,hF=>by
  obtain ⟨F,rfl⟩:∃ G,F=G + 1:=⟨F - 1,by omega⟩
  obtain rfl:k=n:=by omega
  rw [iter,hz]
  rfl
 | m + 1,k,F,hk,hF=>by
  obtain ⟨F,rfl⟩:∃ G,F=G + 1:=⟨F - 1,by omega⟩
  rw [iter,h k (by omega),fnd]
  cases f k with
  | none=>exact wGk h hz m (k + 1) F (by omega) (by omega)
  | some c=>rfl
theorem wMc {B:Type} {body:Int->Option (Int ⊕ B)} {n:Nat} (f:Nat->Option B) {z:B} (hn:n <= 1000) (h:∀ i,i < n->body (i:Int)=some (out ((i:Int) + 1) (f i))) (hz:body (n:Int)=some (.inr z)):iter body big 0=some ((fnd f n 0).getD z) :=
 wGk h hz n 0 big (by omega) (by unfold big;omega)
theorem wGl {B:Type} {body:Int->Option (Int ⊕ B)} {n:Nat} (q:Nat->Bool) (c:B) {z:B} (hn:n <= 1000) (h:∀ i,i < n->body (i:Int)=some (if q i=true then .inl ((i:Int) + 1) else .inr c)) (hz:body (n:Int)=some (.inr z)):iter body big 0=some (if wLh q n 0=true then z else c):=by
 rw [wMc (fun i=>if q i=true then none else some c) hn (fun i hi=>by rw [h i hi];split <;> rfl) hz,wLi]
 split <;> rfl
theorem wFx {α:Type} [Inhabited α] (p:α->Bool) (l:List α):l.all p=wLh (fun k=>p (gd l k)) l.length 0:=by
 rw [Bool.eq_iff_iff,wIg,nb]
 constructor
 ·exact fun h i _ hi=>h _ (wCl (by omega))
 ·intro h a ha
  obtain ⟨k,hk,e⟩:=kY ha
  have:=h k (by omega) (by omega)
  rw [wHd hk,e] at this
  exact this
end Go.KL
namespace Go.Proofs.YtlnfbjphfoipaaaGreat
open Go.KL Go.KL.Net
structure RC (r:wAA):Prop where
 n:1 <= r.Starts.length/\r.Starts.length <= 8
 m:r.Splits.length <= 7
 c:r.Clocks.length <= 4
 q:r.Readings.length <= 40
 st:∀ s ∈ r.Starts,0 <= s/\s <= 360000
 sp:∀ s ∈ r.Splits,s.Lo <= s.Hi/\0 <= s.Lo/\s.Hi <= 360000
 ck:∀ s ∈ r.Clocks,(s.Offset.Lo <= s.Offset.Hi/\-36000 <= s.Offset.Lo/\s.Offset.Hi <= 36000)/\0 <= s.Error/\s.Error <= 600
 rt:∀ x ∈ r.Readings,0 <= x.Time/\x.Time <= 360000
 ru:∀ x ∈ r.Readings,0 <= x.Skier/\x.Skier < r.Starts.length/\0 <= x.Mat/\x.Mat <= r.Splits.length/\0 <= x.Clock/\x.Clock < r.Clocks.length
def zp:wAH:=⟨-1,0⟩
def wFG (r:wAA) (p:wAH):Prop:=p=zp \/ (0 <= p.skier/\p.skier < r.Starts.length/\0 <= p.mat/\p.mat <= r.Splits.length) \/ (p.skier=-1/\1 <= p.mat/\p.mat <= r.Clocks.length)
def wBB (r:wAA) (x:wAC):Prop :=
 (x.Kind=0/\0 <= x.Skier/\x.Skier < r.Starts.length/\x.Index=0) \/ (x.Kind=1/\0 <= x.Skier/\x.Skier < r.Starts.length/\0 <= x.Index/\x.Index < r.Splits.length) \/
 (x.Kind=2/\x.Skier=0/\0 <= x.Index/\x.Index < r.Clocks.length) \/ (x.Kind=3/\x.Skier=0/\0 <= x.Index/\x.Index < r.Readings.length)
abbrev Pt:=wAH
def wCk (r:wAA) (x:wAC):Pt × Pt × Int × Int :=
 if x.Kind=0 then (zp,⟨x.Skier,0⟩,gd r.Starts x.Skier.toNat,-gd r.Starts x.Skier.toNat)
 else if x.Kind=1 then (⟨x.Skier,x.Index⟩,⟨x.Skier,x.Index + 1⟩,(gd r.Splits x.Index.toNat).Hi,-(gd r.Splits x.Index.toNat).Lo)
 else if x.Kind=2 then (zp,⟨-1,1 + x.Index⟩,-(gd r.Clocks x.Index.toNat).Offset.Lo,(gd r.Clocks x.Index.toNat).Offset.Hi)
 else (⟨-1,1 + (gd r.Readings x.Index.toNat).Clock⟩,⟨(gd r.Readings x.Index.toNat).Skier,(gd r.Readings x.Index.toNat).Mat⟩,(gd r.Readings x.Index.toNat).Time + (gd r.Clocks (gd r.Readings x.Index.toNat).Clock.toNat).Error,(gd r.Clocks (gd r.Readings x.Index.toNat).Clock.toNat).Error - (gd r.Readings x.Index.toNat).Time)
def wBy (r:wAA) (x:wAC):Pt × Pt × Int:=if x.Up=true then ((wCk r x).1,(wCk r x).2.1,(wCk r x).2.2.1) else ((wCk r x).2.1,(wCk r x).1,(wCk r x).2.2.2)
theorem wEv {α:Type} [Inhabited α] {l:List α} {i:Int} (h0:0 <= i) (h1:i < l.length):idx l i=some (gd l i.toNat):=by
 obtain ⟨k,rfl⟩:=kL h0
 rw [wCB (by omega)]
 rfl
theorem wCj {α:Type} [Inhabited α] {l:List α} {i:Int} (h0:0 <= i) (h1:i < l.length):gd l i.toNat ∈ l:=wCl (by omega)
theorem wIh {r:wAA} (C:RC r) {x:wAC} (h:wBB r x):wBW r x=some (wBy r x):=by
 unfold wBW wAo wEP wEQ wER wES wET wEU wEG wEH wDD wDR
 have hm:=C.m;have hc:=C.c;have hq:=C.q;have hn:=C.n
 rcases h with ⟨k,a,b,c⟩ | ⟨k,a,b,c,d⟩ | ⟨k,a,c,d⟩ | ⟨k,a,c,d⟩
 ·have g:=C.st _ (wCj a b)
  have e4:wCk r x=(zp,⟨x.Skier,0⟩,gd r.Starts x.Skier.toNat,-gd r.Starts x.Skier.toNat):=if_pos k
  have w:w64 (-gd r.Starts x.Skier.toNat)=-gd r.Starts x.Skier.toNat:=wAb (by omega) (by omega)
  rw [if_pos k,wEv a b]
  simp only [hD]
  rw [w]
  unfold wBy
  rw [e4]
  split <;> rfl
 ·have g:=C.sp _ (wCj c d)
  have e4:wCk r x=(⟨x.Skier,x.Index⟩,⟨x.Skier,x.Index + 1⟩,(gd r.Splits x.Index.toNat).Hi,-(gd r.Splits x.Index.toNat).Lo):=(if_neg (by omega)).trans (if_pos k)
  have w:w64 (-(gd r.Splits x.Index.toNat).Lo)=-(gd r.Splits x.Index.toNat).Lo:=wAb (by omega) (by omega)
  have w2:w64 (x.Index + 1)=x.Index + 1:=wAb (by omega) (by omega)
  rw [if_neg (by omega),if_pos k,wEv c d]
  simp only [hD]
  rw [w,w2]
  unfold wBy
  rw [e4]
  split <;> rfl
 ·have g:=C.ck _ (wCj c d)
  have e4:wCk r x=(zp,⟨-1,1 + x.Index⟩,-(gd r.Clocks x.Index.toNat).Offset.Lo,(gd r.Clocks x.Index.toNat).Offset.Hi):=(if_neg (by omega)).trans ((if_neg (by omega)).trans (if_pos k))
  have w:w64 (-(gd r.Clocks x.Index.toNat).Offset.Lo)=-(gd r.Clocks x.Index.toNat).Offset.Lo:=wAb (by omega) (by omega)
  have w2:w64 (1 + x.Index)=1 + x.Index:=wAb (by omega) (by omega)
  rw [if_neg (by omega),if_neg (by omega),if_pos k,wEv c d]
  simp only [hD]
  rw [w,w2]
  unfold wBy
  rw [e4]
  split <;> rfl
 ·have g:=C.rt _ (wCj c d)
  have u:=C.ru _ (wCj c d)
  have gc:=C.ck _ (wCj u.2.2.2.2.1 u.2.2.2.2.2)
  have e4:wCk r x=(⟨-1,1 + (gd r.Readings x.Index.toNat).Clock⟩,⟨(gd r.Readings x.Index.toNat).Skier,(gd r.Readings x.Index.toNat).Mat⟩,(gd r.Readings x.Index.toNat).Time + (gd r.Clocks (gd r.Readings x.Index.toNat).Clock.toNat).Error,(gd r.Clocks (gd r.Readings x.Index.toNat).Clock.toNat).Error - (gd r.Readings x.Index.toNat).Time):=(if_neg (by omega)).trans ((if_neg (by omega)).trans (if_neg (by omega)))
  rw [if_neg (by omega),if_neg (by omega),if_neg (by omega),if_pos k,wEv c d]
  simp only [hD]
  rw [wEv u.2.2.2.2.1 u.2.2.2.2.2]
  simp only [hD]
  generalize gd r.Readings x.Index.toNat=X at *
  generalize gd r.Clocks X.Clock.toNat=Y at *
  have w:w64 (X.Time + Y.Error)=X.Time + Y.Error:=wAb (by omega) (by omega)
  have w2:w64 (1 + X.Clock)=1 + X.Clock:=wAb (by omega) (by omega)
  have w3:w64 (Y.Error - X.Time)=Y.Error - X.Time:=wAb (by omega) (by omega)
  rw [w,w2,w3]
  unfold wBy
  rw [e4]
  split <;> rfl
theorem wCm {r:wAA} (C:RC r) {x:wAC} (h:wBB r x):wFG r (wBy r x).1/\wFG r (wBy r x).2.1/\-400000 <= (wBy r x).2.2/\(wBy r x).2.2 <= 400000:=by
 have key:wFG r (wCk r x).1/\wFG r (wCk r x).2.1/\(-400000 <= (wCk r x).2.2.1/\(wCk r x).2.2.1 <= 400000)/\(-400000 <= (wCk r x).2.2.2/\(wCk r x).2.2.2 <= 400000):=by
  have hn:=C.n
  unfold wCk
  rcases h with ⟨k,a,b,c⟩ | ⟨k,a,b,c,d⟩ | ⟨k,a,c,d⟩ | ⟨k,a,c,d⟩
  ·have g:=C.st _ (wCj a b)
   rw [if_pos k]
   exact ⟨.inl rfl,.inr (.inl ⟨a,b,by simp only;omega,by simp only;omega⟩),by simp only;omega,by simp only;omega⟩
  ·have g:=C.sp _ (wCj c d)
   rw [if_neg (by omega),if_pos k]
   exact ⟨.inr (.inl ⟨a,b,by simp only;omega,by simp only;omega⟩),.inr (.inl ⟨a,b,by simp only;omega,by simp only;omega⟩),by simp only;omega,by simp only;omega⟩
  ·have g:=C.ck _ (wCj c d)
   rw [if_neg (by omega),if_neg (by omega),if_pos k]
   exact ⟨.inl rfl,.inr (.inr ⟨rfl,by simp only;omega,by simp only;omega⟩),by simp only;omega,by simp only;omega⟩
  ·have g:=C.rt _ (wCj c d)
   have u:=C.ru _ (wCj c d)
   have gc:=C.ck _ (wCj u.2.2.2.2.1 u.2.2.2.2.2)
   rw [if_neg (by omega),if_neg (by omega),if_neg (by omega)]
   exact ⟨.inr (.inr ⟨rfl,by simp only;omega,by simp only;omega⟩),.inr (.inl ⟨u.1,u.2.1,u.2.2.1,u.2.2.2.1⟩),by simp only;omega,by simp only;omega⟩
 obtain ⟨h1,h2,h3,h4⟩:=key
 unfold wBy
 split
 ·exact ⟨h1,h2,h3⟩
 ·exact ⟨h2,h1,h4⟩
def two (kind skier i:Nat):List wAC:=[⟨kind,skier,i,true⟩,⟨kind,skier,i,false⟩]
def wJO (kind skier m:Nat):List wAC:=(nN m).flatMap (two kind skier)
def skL (kind ns m:Nat):List wAC:=(nN ns).flatMap fun s=>wJO kind s m
def wJP (r:wAA):List wAC:=skL 0 r.Starts.length 1 ++ (skL 1 r.Starts.length r.Splits.length ++ (skL 2 1 r.Clocks.length ++ skL 3 1 r.Readings.length))
theorem wNh {kind ns m:Nat} {x:wAC}:x ∈ skL kind ns m ↔ x.Kind=kind/\0 <= x.Skier/\x.Skier < ns/\0 <= x.Index/\x.Index < m:=by
 unfold skL wJO two
 simp only [List.mem_flatMap,kR,na,List.not_mem_nil,or_false]
 constructor
 ·rintro ⟨s,hs,i,hi,rfl | rfl⟩ <;> exact ⟨rfl,by simp only;omega,by simp only;omega,by simp only;omega,by simp only;omega⟩
 ·rintro ⟨a,b,c,d,e⟩
  refine ⟨x.Skier.toNat,by omega,x.Index.toNat,by omega,?_⟩
  obtain ⟨k,s,i,u⟩:=x
  simp only at a b c d e
  subst a
  rw [nh b,nh d]
  cases u <;> simp
theorem wFN {r:wAA} {x:wAC}:x ∈ wJP r ↔ wBB r x:=by
 unfold wJP wBB
 simp only [nK,wNh]
 omega
theorem wNi (kind ns m:Nat):(skL kind ns m).length=2 * m * ns:=by
 unfold skL wJO
 rw [kZ]
 have:∀ s:Nat,((nN m).flatMap (two kind s)).length=2 * m:=fun s=>by
  rw [kZ]
  have e:(nN m).map (fun a=>(two kind s a).length)=hJ m 2:=by
   apply kH (by simp)
   intro i h1 h2
   simp [two]
  rw [e,kO]
  omega
 have e:(nN ns).map (fun s=>((nN m).flatMap (two kind s)).length)=hJ ns (2 * m):=by
  apply kH (by simp)
  intro i h1 h2
  simp [this]
 rw [e,kO,Nat.mul_comm]
theorem wJQ {r:wAA} (C:RC r):(wJP r).length <= 216:=by
 unfold wJP
 simp only [nI,wNi]
 have hm:=C.m;have hc:=C.c;have hq:=C.q;have hn:=C.n
 have h1:2 * r.Splits.length * r.Starts.length <= 14 * 8:=Nat.mul_le_mul (by omega) hn.2
 omega
section
variable {S E:Type}
def wIu (f:S->wAC->Option (S ⊕ E)):List wAC->S->Option (S ⊕ E)
 | [],s=>some (.inl s)
 | x :: l,s=>(f s x).bind fun y=>match y with
  | .inl s'=>wIu f l s'
  | .inr e=>some (.inr e)
theorem wKP (f:S->wAC->Option (S ⊕ E)):∀ (l m:List wAC) (s:S),wIu f (l ++ m) s=(wIu f l s).bind fun y=>match y with
  | .inl s'=>wIu f m s'
  | .inr e=>some (.inr e)
 | [],_,_=>rfl
 | x :: l,m,s=>by
  rw [nv,wIu,wIu]
  cases f s x with
  | none=>rfl
  | some y=>cases y with
   | inl s'=>exact wKP f l m s'
   | inr e=>rfl
def lif {B:Type} (k:E->B) (x:Option (S ⊕ E)):Option (S ⊕ B):=x.bind fun y=>match y with
 | .inl s=>some (.inl s)
 | .inr e=>some (.inr (k e))
theorem wHP {B:Type} (k:E->B) {body:Nat->S->Option (S ⊕ B)} {f:S->wAC->Option (S ⊕ E)} {L:Nat->List wAC}:∀ (m i:Nat) (s:S),(∀ j s,i <= j->j < i + m->body j s=lif k (wIu f (L j) s))->forN body m i s=lif k (wIu f ((List.range' i m).flatMap L) s)
 | 0,_,_,_=>rfl
 | m + 1,i,s,h=>by
  rw [forN,h i s (nG _) (by omega),List.range'_succ,nM,wKP]
  cases wIu f (L i) s with
  | none=>rfl
  | some y=>cases y with
   | inl s'=>exact wHP k m (i + 1) s' fun j s h1 h2=>h j s (by omega) (by omega)
   | inr e=>rfl
theorem wNC {B:Type} (k:E->B) (x:Option (S ⊕ E)):jn (lif (fun e=>(.inr (k e):S ⊕ B)) x) (fun y=>some (.inl y))=lif k x:=by
 cases x with
 | none=>rfl
 | some y=>cases y <;> rfl
theorem wOy (x:Option (S ⊕ E)):jn (lif (fun e=>(.inr e:S ⊕ E)) x) (fun y=>some (.inl y))=x:=by
 cases x with
 | none=>rfl
 | some y=>cases y <;> rfl
theorem wOz (f:S->wAC->Option (S ⊕ E)) (kind skier i:Nat) (s:S):((f s (⟨(kind:Int),(skier:Int),(i:Int),true⟩:wAC)).bind fun yr141 =>
          match yr141 with
          | .inl s151 =>
            (f s151 (⟨(kind:Int),(skier:Int),(i:Int),false⟩:wAC)).bind fun yr154 =>
            match yr154 with
            | .inl s164 =>
              some (.inl s164)
            | .inr s164 =>
              esc (esc (esc (some (.inr s164))))
          | .inr s151 =>
            esc (esc (esc (some (.inr s151)))))=lif (fun e=>(.inr (.inr (.inr e)):S ⊕ (S ⊕ (S ⊕ E)))) (wIu f (two kind skier i) s):=by
  unfold two
  rw [wIu]
  cases f s (⟨(kind:Int),(skier:Int),(i:Int),true⟩:wAC) with
  | none=>rfl
  | some y=>cases y with
    | inr e=>rfl
    | inl s' =>
      simp only [hD]
      rw [wIu]
      cases f s' (⟨(kind:Int),(skier:Int),(i:Int),false⟩:wAC) with
      | none=>rfl
      | some y=>cases y <;> rfl
theorem wLj (f:S->wAC->Option (S ⊕ E)) (s0:S) {r:wAA} (C:RC r):wCg f s0 r=wIu f (wJP r) s0:=by
  unfold wCg
  have hm:=C.m;have hc:=C.c;have hq:=C.q;have hn:=C.n
  have inner:∀ (kind skier m:Nat) (s:S),m <= 1000->(wFU 0 (m:Int) (fun k113 s111 =>
          (f s111 (⟨(kind:Int),(skier:Int),(↑k113:Int),true⟩:wAC)).bind fun yr141 =>
          match yr141 with
          | .inl s151 =>
            (f s151 (⟨(kind:Int),(skier:Int),(↑k113:Int),false⟩:wAC)).bind fun yr154 =>
            match yr154 with
            | .inl s164 =>
              some (.inl s164)
            | .inr s164 =>
              esc (esc (esc (some (.inr s164))))
          | .inr s151 =>
            esc (esc (esc (some (.inr s151))))) s)=lif (fun e=>(.inr (.inr (.inr e)):S ⊕ (S ⊕ (S ⊕ E)))) (wIu f (wJO kind skier m) s):=fun kind skier m s hm=>by
    rw [wDx (by omega),wHP (fun e=>(.inr (.inr (.inr e)):S ⊕ (S ⊕ (S ⊕ E)))) (f:=f) (L:=two kind skier) m 0 s fun j s _ _=>wOz f kind skier j s,<- kV]
    rfl
  have skier:∀ (kind ns m:Nat) (s:S),ns <= 1000->m <= 1000->(jn (wFU 0 (ns:Int) (fun k78 s76 =>
        jn (wFU 0 (m:Int) (fun k113 s111 =>
          (f s111 (⟨(kind:Int),(↑k78:Int),(↑k113:Int),true⟩:wAC)).bind fun yr141 =>
          match yr141 with
          | .inl s151 =>
            (f s151 (⟨(kind:Int),(↑k78:Int),(↑k113:Int),false⟩:wAC)).bind fun yr154 =>
            match yr154 with
            | .inl s164 =>
              some (.inl s164)
            | .inr s164 =>
              esc (esc (esc (some (.inr s164))))
          | .inr s151 =>
            esc (esc (esc (some (.inr s151))))) s76) fun y195 =>
        some (.inl y195)) s) fun y219 =>
      some (.inl y219))=lif (fun e=>(.inr e:S ⊕ E)) (wIu f (skL kind ns m) s):=fun kind ns m s hns hm=>by
    rw [wDx (by omega),wHP (fun e=>(.inr (.inr e):S ⊕ (S ⊕ E))) (f:=f) (L:=fun q=>wJO kind q m) ns 0 s fun j s _ _=>by rw [inner kind j m s hm,wNC],wNC,<- kV]
    rfl
  unfold wFU
  rw [if_pos (by omega)]
  show jn (forN _ 4 0 s0) _=_
  rw [wHP (fun e=>(.inr e:S ⊕ E)) (f:=f) (L:=fun k=>if k=0 then skL 0 r.Starts.length 1 else if k=1 then skL 1 r.Starts.length r.Splits.length else if k=2 then skL 2 1 r.Clocks.length else skL 3 1 r.Readings.length) 4 0 s0 fun j s _ hj=>?_,wOy]
  · congr 1
    show nA _ [0,1,2,3]=_
    simp only [nM,List.flatMap_nil,kB]
    rfl
  · have:j=0 \/ j=1 \/ j=2 \/ j=3:=by omega
    rcases this with rfl | rfl | rfl | rfl
    · exact skier 0 r.Starts.length 1 s (by omega) (by omega)
    · exact skier 1 r.Starts.length r.Splits.length s (by omega) (by omega)
    · exact skier 2 1 r.Clocks.length s (by omega) (by omega)
    · exact skier 3 1 r.Readings.length s (by omega) (by omega)
end
end Go.Proofs.YtlnfbjphfoipaaaGreat
namespace Go.Proofs.YtlnfbjphfoipaaaGreat
open Go.KL Go.KL.Net
def wFX:List Pt->Nat->List (Pt × Int)
 | [],_=>[]
 | p :: l,k=>(p,(k:Int)) :: wFX l (k + 1)
theorem wIi:∀ (l:List Pt) (k:Nat),(wFX l k).length=l.length
 | [],_=>rfl
 | _ :: l,k=>by rw [wFX,nB,nB,wIi l]
theorem wKQ:∀ (l:List Pt) (p:Pt) (k:Nat),wFX (l ++ [p]) k=wFX l k ++ [(p,((k + l.length:Nat):Int))]
 | [],p,k=>by simp [wFX]
 | a :: l,p,k=>by
  rw [nv,wFX,wFX,wKQ l p (k + 1),nv,nB]
  congr 4
  omega
theorem wKR:∀ {l:List Pt} {k:Nat} {p:Pt},p ∉ l->wMK (wFX l k) p=none/\∀ v,wGu (wFX l k) p v=wFX l k ++ [(p,v)]
 | [],_,_,_=>⟨rfl,fun _=>rfl⟩
 | a :: l,k,p,h=>by
  rw [na,not_or] at h
  obtain ⟨h1,h2⟩:=wKR (l:=l) (k:=k + 1) h.2
  refine ⟨by rw [wFX,wMK,if_neg h.1];exact h1,fun v=>?_⟩
  rw [wFX,wGu,if_neg h.1,h2 v];rfl
theorem wLk:∀ {l:List Pt} {k i:Nat},l.Nodup->i < l.length->wMK (wFX l k) (gd l i)=some ((k + i:Nat):Int)
 | a :: l,k,0,_,_=>by
  rw [wFX,wMK]
  exact if_pos rfl
 | a :: l,k,i + 1,nd,hi=>by
  rw [List.nodup_cons] at nd
  have hi':i < l.length:=by simpa using hi
  have e:gd (a :: l) (i + 1)=gd l i:=rfl
  have hne:gd l i ≠ a:=fun h=>nd.1 (h ▸ wCl hi')
  rw [e,wFX,wMK,if_neg hne,wLk nd.2 hi']
  congr 2
  omega
def pos (pts:List Pt) (p:Pt):Nat:=(wBP (wFX pts 0) p 0).toNat
theorem wND {α:Type} [Inhabited α] {l:List α} {a:α} (h:a ∈ l):∃ i,i < l.length/\gd l i=a:=by
 obtain ⟨i,hi,e⟩:=kY h
 exact ⟨i,hi,by rw [wHd hi,e]⟩
theorem wKS {pts:List Pt} (nd:pts.Nodup) {i:Nat} (hi:i < pts.length):pos pts (gd pts i)=i/\wBP (wFX pts 0) (gd pts i) 0=(i:Int)/\wLF (wFX pts 0) (gd pts i)=true:=by
 unfold pos wBP wLF
 rw [wLk nd hi]
 simp
theorem wHI {pts:List Pt} (nd:pts.Nodup) {p:Pt} (h:p ∈ pts):pos pts p < pts.length/\gd pts (pos pts p)=p/\wBP (wFX pts 0) p 0=(pos pts p:Int)/\wLF (wFX pts 0) p=true:=by
 obtain ⟨i,hi,rfl⟩:=wND h
 obtain ⟨h1,h2,h3⟩:=wKS nd hi
 rw [h1]
 exact ⟨hi,rfl,h2,h3⟩
def wHm (pts:List Pt) (p:Pt):List Pt:=if p ∈ pts then pts else pts ++ [p]
theorem wJt {pts:List Pt} (nd:pts.Nodup) (p:Pt):(wHm pts p).Nodup:=by
 unfold wHm
 split
 ·exact nd
 ·rename_i h
  rw [nk]
  exact ⟨nd,by simp,fun a ha b hb e=>h (by rw [nW.1 hb] at e;exact e ▸ ha)⟩
theorem wEW {pts:List Pt} {p q:Pt}:q ∈ wHm pts p ↔ q ∈ pts \/ q=p:=by
 unfold wHm
 split
 ·rename_i h
  exact ⟨.inl,fun e=>e.elim id fun e=>e ▸ h⟩
 ·rw [nK,nW]
theorem wKT (pts:List Pt) (p:Pt):pts.length <= (wHm pts p).length/\(wHm pts p).length <= pts.length + 1:=by
 unfold wHm
 split <;> simp
theorem wKU {pts:List Pt} (nd:pts.Nodup) {p q:Pt} (h:q ∈ pts):wBP (wFX (wHm pts p) 0) q 0=wBP (wFX pts 0) q 0:=by
 unfold wHm
 split
 ·rfl
 ·rename_i hp
  obtain ⟨i,hi,rfl⟩:=wND h
  have e:gd (pts ++ [p]) i=gd pts i:=wIf hi
  have nd2:=wJt nd p
  unfold wHm at nd2
  rw [if_neg hp] at nd2
  rw [(wKS nd hi).2.1,<- e,(wKS nd2 (by rw [nI];omega)).2.1]
theorem wKV {pts:List Pt} (nd:pts.Nodup) (p:Pt):(if (wLF (wFX pts 0) p)=true then some (wFX pts 0) else some (wGu (wFX pts 0) p (↑((wFX pts 0).length):Int)))=some (wFX (wHm pts p) 0):=by
 by_cases h:p ∈ pts
 ·rw [if_pos (wHI nd h).2.2.2,wHm,if_pos h]
 ·have ho:=wKR (k:=0) h
  have hn:¬ wLF (wFX pts 0) p=true:=by unfold wLF;rw [ho.1];simp
  rw [if_neg hn,ho.2,wHm,if_neg h,wKQ,wIi,nU]
theorem wLl {pts:List Pt} {p:Pt} {i:Nat} (h:i < pts.length):gd (wHm pts p) i=gd pts i:=by
 unfold wHm
 split
 ·rfl
 ·exact wIf h
def mkE (r:wAA) (pts:List Pt) (x:wAC):wAX:=⟨x,wBP (wFX pts 0) (wBy r x).1 0,wBP (wFX pts 0) (wBy r x).2.1 0,(wBy r x).2.2⟩
structure Desk (r:wAA) (d:wAg) (pts:List Pt):Prop where
 c:RC r
 race:d.Race=r
 num:d.number=wFX pts 0
 nd:pts.Nodup
 len:1 <= pts.length/\pts.length <= 433
 zero:gd pts 0=zp
 all:∀ p,p ∈ pts ↔ wFG r p
 edges:d.edges=(wJP r).map (mkE r pts)
structure OpI (r:wAA) (pre:List wAC) (s:List wAX × List (Pt × Int)) (pts:List Pt):Prop where
 num:s.2=wFX pts 0
 nd:pts.Nodup
 len:1 <= pts.length/\pts.length <= 1 + 2 * pre.length
 zero:gd pts 0=zp
 ok:∀ p ∈ pts,wFG r p
 has:∀ x ∈ pre,(wBy r x).1 ∈ pts/\(wBy r x).2.1 ∈ pts
 edges:s.1=pre.map (mkE r pts)
def opF (r:wAA):List wAX × List (Pt × Int)->wAC->Option ((List wAX × List (Pt × Int)) ⊕ Empty):=fun (l1591,l1595) x1616 =>
  (wBW r x1616).bind fun (x1652,x1653,x1654) =>
  (wCF 0 2 (fun k1692 l1689 =>
   (idx ([x1652,x1653]:List wAH) (↑k1692:Int)).bind fun x1718 =>
   if (wLF l1689 x1718)=true then
    some l1689
   else
    some (wGu l1689 x1718 (↑(l1689.length):Int))) l1595).bind fun y1697 =>
  (app 56 l1591 [(⟨x1616,(wBP y1697 x1652 0),(wBP y1697 x1653 0),x1654⟩:wAX)]).bind fun x1773 =>
  some (.inl (x1773,y1697))
theorem wPA {r:wAA} (C:RC r) {pre:List wAC} (hp:pre.length <= 216) {x:wAC} (hx:wBB r x) {s:List wAX × List (Pt × Int)} {pts:List Pt} (I:OpI r pre s pts):∃ s' pts',opF r s x=some (.inl s')/\OpI r (pre ++ [x]) s' pts':=by
 obtain ⟨es,num⟩:=s
 obtain ⟨hn,nd,hl,hz,ok,has,he⟩:=I
 simp only at hn he
 subst hn he
 obtain ⟨o1,o2,_,_⟩:=wCm C hx
 unfold opF
 simp only
 rw [wIh C hx,hD]
 have nd1:=wJt nd (wBy r x).1
 have nd2:=wJt nd1 (wBy r x).2.1
 have loop:(wCF 0 2 (fun k1692 l1689 =>
   (idx ([(wBy r x).1,(wBy r x).2.1]:List wAH) (↑k1692:Int)).bind fun x1718 =>
   if (wLF l1689 x1718)=true then
    some l1689
   else
    some (wGu l1689 x1718 (↑(l1689.length):Int))) (wFX pts 0))=some (wFX (wHm (wHm pts (wBy r x).1) (wBy r x).2.1) 0):=by
  unfold wCF
  rw [if_pos (by omega)]
  show forN' _ 2 0 (wFX pts 0)=_
  have i0:idx ([(wBy r x).1,(wBy r x).2.1]:List wAH) ((0:Nat):Int)=some (wBy r x).1:=rfl
  have i1:idx ([(wBy r x).1,(wBy r x).2.1]:List wAH) ((0 + 1:Nat):Int)=some (wBy r x).2.1:=rfl
  simp only [forN',i0,i1,hD]
  rw [wKV nd]
  simp only
  rw [wKV nd1]
 rw [loop,hD,wFV (by rw [List.length_map];simp only [nB,ni];omega),hD]
 have l1:=wKT pts (wBy r x).1
 have l2:=wKT (wHm pts (wBy r x).1) (wBy r x).2.1
 have same:∀ q ∈ pts,wBP (wFX (wHm (wHm pts (wBy r x).1) (wBy r x).2.1) 0) q 0=wBP (wFX pts 0) q 0:=fun q hq=>by
  rw [wKU nd1 (wEW.2 (.inl hq)),wKU nd hq]
 refine ⟨_,wHm (wHm pts (wBy r x).1) (wBy r x).2.1,rfl,rfl,nd2,⟨by omega,by rw [nI,nm];omega⟩,?_,fun p hp=>?_,fun y hy=>?_,?_⟩
 ·rw [wLl (by omega),wLl (by omega),hz]
 ·rcases wEW.1 hp with hp | rfl
  ·rcases wEW.1 hp with hp | rfl
   ·exact ok p hp
   ·exact o1
  ·exact o2
 ·rcases nK.1 hy with hy | hy
  ·obtain ⟨a,b⟩:=has y hy
   exact ⟨wEW.2 (.inl (wEW.2 (.inl a))),wEW.2 (.inl (wEW.2 (.inl b)))⟩
  ·have:=nW.1 hy
   subst this
   exact ⟨wEW.2 (.inl (wEW.2 (.inr rfl))),wEW.2 (.inr rfl)⟩
 ·simp only
  rw [nJ]
  congr 1
  refine ka fun y hy=>?_
  obtain ⟨a,b⟩:=has y hy
  unfold mkE
  rw [same _ a,same _ b]
theorem skip (r:wAA) (p:Pt) (h:wFG r p) (C:RC r):p=zp \/ ∃ x,wBB r x/\(wBy r x).2.1=p:=by
 rcases h with h | ⟨a,b,c,d⟩ | ⟨a,b,c⟩
 ·exact .inl h
 ·right
  by_cases e:p.mat=0
  ·refine ⟨⟨0,p.skier,0,true⟩,.inl ⟨rfl,a,b,rfl⟩,?_⟩
   show (⟨p.skier,0⟩:Pt)=p
   rw [<- e]
  ·refine ⟨⟨1,p.skier,p.mat - 1,true⟩,.inr (.inl ⟨rfl,a,b,by simp only;omega,by simp only;omega⟩),?_⟩
   show (⟨p.skier,p.mat - 1 + 1⟩:Pt)=p
   rw [nj]
 ·right
  refine ⟨⟨2,0,p.mat - 1,true⟩,.inr (.inr (.inl ⟨rfl,rfl,by simp only;omega,by simp only;omega⟩)),?_⟩
  show (⟨-1,1 + (p.mat - 1)⟩:Pt)=p
  rw [<- a,kI,nj]
theorem wLm {r:wAA} (C:RC r):∃ d pts,wDk r=some d/\Desk r d pts:=by
 unfold wDk wDD wDj
 simp only [hD]
 rw [wLj _ _ C]
 have hlen:=wJQ C
 have key:∀ (l pre:List wAC) (s:List wAX × List (Pt × Int)) (pts:List Pt),OpI r pre s pts->pre.length + l.length <= 216->(∀ x ∈ l,wBB r x)->∃ s' pts',wIu (opF r) l s=some (.inl s')/\OpI r (pre ++ l) s' pts':=by
  intro l
  induction l with
  | nil=>intro pre s pts I _ _;exact ⟨s,pts,rfl,by rw [kB];exact I⟩
  | cons x l ih =>
   intro pre s pts I hl hx
   simp only [nB] at hl
   obtain ⟨s1,p1,e,I1⟩:=wPA C (by omega) (hx x (by simp)) I
   obtain ⟨s2,p2,e2,I2⟩:=ih (pre ++ [x]) s1 p1 I1 (by rw [nI,nm];omega) fun y hy=>hx y (by simp [hy])
   refine ⟨s2,p2,by rw [wIu,e];exact e2,?_⟩
   rw [nH] at I2
   exact I2
 obtain ⟨⟨es,num⟩,pts,e,I⟩:=key (wJP r) [] ([],wGu ([]:List (Pt × Int)) (⟨-1,0⟩:wAH) 0) [zp] ⟨rfl,by simp,⟨by simp,by simp⟩,rfl,fun p hp=>.inl (nW.1 hp),(fun x hx=>by cases hx),rfl⟩ (by simpa using hlen) fun x hx=>wFN.1 hx
 rw [kA] at I
 have hz:zp ∈ pts:=I.zero ▸ wCl I.len.1
 refine ⟨⟨r,num,es⟩,pts,?_,C,rfl,I.num,I.nd,⟨I.len.1,by have:=I.len.2;omega⟩,I.zero,fun p=>⟨I.ok p,fun h=>?_⟩,I.edges⟩
 ·show (wIu (opF r) (wJP r) _).bind _=_
  rw [e]
  rfl
 ·rcases skip r p h C with rfl | ⟨x,hx,rfl⟩
  ·exact hz
  ·exact (I.has x (wFN.2 hx)).2
end Go.Proofs.YtlnfbjphfoipaaaGreat
namespace Go.Proofs.YtlnfbjphfoipaaaGreat
open Go.KL Go.KL.Net
def wEN (r:wAA) (y:Pt->Int):Prop:=∀ x,wBB r x->y (wBy r x).2.1 <= y (wBy r x).1 + (wBy r x).2.2
section
variable {r:wAA} {y:Pt->Int}
theorem fp0 (F:wEN r y) {s:Int} (h0:0 <= s) (h1:s < r.Starts.length):y ⟨s,0⟩=y zp + gd r.Starts s.toNat:=by
 have a:y ⟨s,0⟩ <= y zp + gd r.Starts s.toNat:=F ⟨0,s,0,true⟩ (.inl ⟨rfl,h0,h1,rfl⟩)
 have b:y zp <= y ⟨s,0⟩ + -gd r.Starts s.toNat:=F ⟨0,s,0,false⟩ (.inl ⟨rfl,h0,h1,rfl⟩)
 omega
theorem fp1 (F:wEN r y) {s k:Int} (h0:0 <= s) (h1:s < r.Starts.length) (k0:0 <= k) (k1:k < r.Splits.length):y ⟨s,k⟩ + (gd r.Splits k.toNat).Lo <= y ⟨s,k + 1⟩/\y ⟨s,k + 1⟩ <= y ⟨s,k⟩ + (gd r.Splits k.toNat).Hi:=by
 have a:y ⟨s,k + 1⟩ <= y ⟨s,k⟩ + (gd r.Splits k.toNat).Hi:=F ⟨1,s,k,true⟩ (.inr (.inl ⟨rfl,h0,h1,k0,k1⟩))
 have b:y ⟨s,k⟩ <= y ⟨s,k + 1⟩ + -(gd r.Splits k.toNat).Lo:=F ⟨1,s,k,false⟩ (.inr (.inl ⟨rfl,h0,h1,k0,k1⟩))
 omega
theorem fp2 (F:wEN r y) {k:Int} (k0:0 <= k) (k1:k < r.Clocks.length):y ⟨-1,1 + k⟩ <= y zp - (gd r.Clocks k.toNat).Offset.Lo/\y zp <= y ⟨-1,1 + k⟩ + (gd r.Clocks k.toNat).Offset.Hi:=by
 have a:y ⟨-1,1 + k⟩ <= y zp + -(gd r.Clocks k.toNat).Offset.Lo:=F ⟨2,0,k,true⟩ (.inr (.inr (.inl ⟨rfl,rfl,k0,k1⟩)))
 have b:y zp <= y ⟨-1,1 + k⟩ + (gd r.Clocks k.toNat).Offset.Hi:=F ⟨2,0,k,false⟩ (.inr (.inr (.inl ⟨rfl,rfl,k0,k1⟩)))
 omega
theorem wJR (C:RC r) (F:wEN r y) {p:Pt} (hp:wFG r p):-3300000 <= y p - y zp/\y p - y zp <= 3300000:=by
 rcases hp with rfl | ⟨a,b,c,d⟩ | ⟨a,b,c⟩
 ·omega
 ·have key:∀ k:Nat,(k:Int) <= r.Splits.length->0 <= y ⟨p.skier,k⟩ - y zp/\y ⟨p.skier,k⟩ - y zp <= 360000 * ((k:Int) + 1):=by
   intro k
   induction k with
   | zero =>
    intro _
    have:=fp0 F a b
    have:=C.st _ (wCj a b)
    show 0 <= y ⟨p.skier,0⟩ - y zp/\y ⟨p.skier,0⟩ - y zp <= _
    omega
   | succ k ih =>
    intro hk
    have h:=ih (by omega)
    have f:=fp1 F a b (k:=(k:Int)) (by omega) (by omega)
    have g:=C.sp _ (wCj (l:=r.Splits) (i:=(k:Int)) (by omega) (by omega))
    have e:((k + 1:Nat):Int)=(k:Int) + 1:=by omega
    rw [e]
    omega
  have:=key p.mat.toNat (by omega)
  rw [nh c] at this
  have hm:=C.m
  have e:(⟨p.skier,p.mat⟩:Pt)=p:=rfl
  rw [e] at this
  omega
 ·have f:=fp2 F (k:=p.mat - 1) (by omega) (by omega)
  have g:=(C.ck _ (wCj (l:=r.Clocks) (i:=p.mat - 1) (by omega) (by omega))).1
  have e:(⟨-1,1 + (p.mat - 1)⟩:Pt)=p:=by rw [<- a,kI,nj]
  rw [e] at f
  omega
theorem wPB {S:Pt->Prop} (hS:∀ x,wBB r x->S (wBy r x).1->S (wBy r x).2.1) {p:Pt} (hp:wFG r p) (h:S p):S zp:=by
 rcases hp with rfl | ⟨a,b,c,d⟩ | ⟨a,b,c⟩
 ·exact h
 ·have key:∀ k:Nat,(k:Int) <= r.Splits.length->S ⟨p.skier,k⟩->S zp:=by
   intro k
   induction k with
   | zero=>intro _ hk;exact hS ⟨0,p.skier,0,false⟩ (.inl ⟨rfl,a,b,rfl⟩) hk
   | succ k ih =>
    intro hk h
    refine ih (by omega) ?_
    have e:((k + 1:Nat):Int)=(k:Int) + 1:=by omega
    rw [e] at h
    exact hS ⟨1,p.skier,k,false⟩ (.inr (.inl ⟨rfl,a,b,by simp only;omega,by simp only;omega⟩)) h
  refine key p.mat.toNat (by omega) ?_
  rw [nh c];exact h
 ·have e:(⟨-1,1 + (p.mat - 1)⟩:Pt)=p:=by rw [<- a,kI,nj]
  refine hS ⟨2,0,p.mat - 1,false⟩ (.inr (.inr (.inl ⟨rfl,rfl,by simp only;omega,by simp only;omega⟩))) ?_
  show S ⟨-1,1 + (p.mat - 1)⟩
  rw [e];exact h
theorem wNj {S:Pt->Prop} (hS:∀ x,wBB r x->S (wBy r x).1->S (wBy r x).2.1) (h:S zp) {p:Pt} (hp:wFG r p):S p:=by
 rcases hp with rfl | ⟨a,b,c,d⟩ | ⟨a,b,c⟩
 ·exact h
 ·have key:∀ k:Nat,(k:Int) <= r.Splits.length->S ⟨p.skier,k⟩:=by
   intro k
   induction k with
   | zero=>intro _;exact hS ⟨0,p.skier,0,true⟩ (.inl ⟨rfl,a,b,rfl⟩) h
   | succ k ih =>
    intro hk
    have e:((k + 1:Nat):Int)=(k:Int) + 1:=by omega
    rw [e]
    exact hS ⟨1,p.skier,k,true⟩ (.inr (.inl ⟨rfl,a,b,by simp only;omega,by simp only;omega⟩)) (ih (by omega))
  have:=key p.mat.toNat (by omega)
  rw [nh c] at this
  exact this
 ·have e:(⟨-1,1 + (p.mat - 1)⟩:Pt)=p:=by rw [<- a,kI,nj]
  have:=hS ⟨2,0,p.mat - 1,true⟩ (.inr (.inr (.inl ⟨rfl,rfl,by simp only;omega,by simp only;omega⟩))) h
  rw [<- e];exact this
def wNk (x:wAC):wAC:=⟨x.Kind,x.Skier,x.Index,!x.Up⟩
theorem wLn {x:wAC} (h:wBB r x):wBB r (wNk x)/\(wBy r (wNk x)).1=(wBy r x).2.1/\(wBy r (wNk x)).2.1=(wBy r x).1:=by
 refine ⟨h,?_⟩
 obtain ⟨k,s,i,u⟩:=x
 unfold wBy wNk
 cases u <;> exact ⟨rfl,rfl⟩
structure IsDP (r:wAA) (a:Pt) (f:Pt->Int):Prop where
 ok:wEN r f
 zero:f a=0
 gr:∀ y,wEN r y->∀ p,wFG r p->y p - y a <= f p
theorem IsDP.one {a:Pt} {f g:Pt->Int} (F:IsDP r a f) (G:IsDP r a g) {p:Pt} (hp:wFG r p):f p=g p:=by
 have h1:=F.gr g G.ok p hp
 have h2:=G.gr f F.ok p hp
 have:=F.zero;have:=G.zero
 omega
theorem IsDP.near {a:Pt} {f:Pt->Int} (C:RC r) (F:IsDP r a f) (ha:wFG r a) {p:Pt} (hp:wFG r p):-6600000 <= f p/\f p <= 6600000:=by
 have h1:=wJR C F.ok ha
 have h2:=wJR C F.ok hp
 have:=F.zero
 omega
end
section
variable {r:wAA} {d:wAg} {pts:List Pt} (D:Desk r d pts)
include D
theorem Desk.pos_ok {p:Pt} (hp:wFG r p):pos pts p < pts.length/\gd pts (pos pts p)=p/\wBP d.number p 0=(pos pts p:Int):=by
 obtain ⟨h1,h2,h3,_⟩:=wHI D.nd ((D.all p).2 hp)
 exact ⟨h1,h2,by rw [D.num];exact h3⟩
theorem Desk.gd_ok {v:Nat} (hv:v < pts.length):wFG r (gd pts v)/\pos pts (gd pts v)=v:=⟨(D.all _).1 (wCl hv),(wKS D.nd hv).1⟩
theorem Desk.ed_is {x:wAC} (h:wBB r x) (p:Bool):ed p (mkE r pts x)=if p then ⟨pos pts (wBy r x).2.1,pos pts (wBy r x).1,(wBy r x).2.2⟩ else ⟨pos pts (wBy r x).1,pos pts (wBy r x).2.1,(wBy r x).2.2⟩:=by
 obtain ⟨o1,o2,_,_⟩:=wCm D.c h
 have h1:=(wHI D.nd ((D.all _).2 o1)).2.2.1
 have h2:=(wHI D.nd ((D.all _).2 o2)).2.2.1
 unfold ed mkE
 simp only [h1,h2,nD]
theorem Desk.mem {p:Bool} {e:Ed}:e ∈ d.edges.map (ed p) ↔ ∃ x,wBB r x/\e=ed p (mkE r pts x):=by
 rw [D.edges,List.map_map]
 constructor
 ·intro h
  obtain ⟨x,hx,rfl⟩:=nO.1 h
  exact ⟨x,wFN.1 hx,rfl⟩
 ·rintro ⟨x,hx,rfl⟩
  exact nO.2 ⟨x,wFN.2 hx,rfl⟩
theorem Desk.edOK:∀ e ∈ d.edges,wML pts.length e:=by
 intro e he
 rw [D.edges] at he
 obtain ⟨x,hx,rfl⟩:=nO.1 he
 have h:=wFN.1 hx
 obtain ⟨o1,o2,c1,c2⟩:=wCm D.c h
 obtain ⟨h1,_,h2,_⟩:=wHI D.nd ((D.all _).2 o1)
 obtain ⟨g1,_,g2,_⟩:=wHI D.nd ((D.all _).2 o2)
 unfold mkE
 rw [h2,g2]
 exact ⟨by simp only;omega,by simp only;omega,by simp only;omega,by simp only;omega,c1,c2⟩
theorem Desk.elen:d.edges.length <= 1000:=by
 have:=wJQ D.c
 rw [D.edges,List.length_map]
 omega
theorem Desk.feas {y:Pt->Int} (F:wEN r y):wHN (d.edges.map (ed false)) fun v=>y (gd pts v):=by
 intro e he
 obtain ⟨x,hx,rfl⟩:=D.mem.1 he
 obtain ⟨o1,o2,_,_⟩:=wCm D.c hx
 rw [D.ed_is hx]
 simp only [nS,if_false]
 rw [(D.pos_ok o1).2.1,(D.pos_ok o2).2.1]
 exact F x hx
theorem Desk.back {z:Nat->Int} (F:wHN (d.edges.map (ed false)) z):wEN r fun p=>z (pos pts p):=by
 intro x hx
 have:=F _ (D.mem.2 ⟨x,hx,rfl⟩)
 rw [D.ed_is hx] at this
 simp only [nS,if_false] at this
 exact this
theorem Desk.backT {z:Nat->Int} (F:wHN (d.edges.map (ed true)) z):wEN r fun p=>-z (pos pts p):=by
 intro x hx
 have:=F _ (D.mem.2 ⟨x,hx,rfl⟩)
 rw [D.ed_is hx] at this
 simp only [if_true] at this
 simp only
 omega
theorem Desk.con (p:Bool):Con pts.length 6600000 (d.edges.map (ed p)):=by
 refine ⟨fun e he=>?_,fun z hz a b ha hb=>?_,fun S i hi hSi hS v hv=>?_⟩
 ·obtain ⟨x,hx,rfl⟩:=D.mem.1 he
  obtain ⟨o1,o2,_,_⟩:=wCm D.c hx
  have h1:=(D.pos_ok o1).1
  have h2:=(D.pos_ok o2).1
  rw [D.ed_is hx]
  split
  ·exact ⟨h2,h1⟩
  ·exact ⟨h1,h2⟩
 ·obtain ⟨pa,ea⟩:=D.gd_ok ha
  obtain ⟨pb,eb⟩:=D.gd_ok hb
  cases p with
  | false =>
   have h1:=wJR D.c (D.back hz) pa
   have h2:=wJR D.c (D.back hz) pb
   simp only [ea,eb] at h1 h2
   omega
  | true =>
   have h1:=wJR D.c (D.backT hz) pa
   have h2:=wJR D.c (D.backT hz) pb
   simp only [ea,eb] at h1 h2
   omega
 ·have hcl:∀ x,wBB r x->S (pos pts (wBy r x).1)->S (pos pts (wBy r x).2.1):=fun x hx h=>by
   cases p with
   | false =>
    have:=hS _ (D.mem.2 ⟨x,hx,rfl⟩)
    rw [D.ed_is hx] at this
    simp only [nS,if_false] at this
    exact this h
   | true =>
    obtain ⟨t1,t2,t3⟩:=wLn hx
    have:=hS _ (D.mem.2 ⟨_,t1,rfl⟩)
    rw [D.ed_is t1] at this
    simp only [if_true] at this
    rw [t2,t3] at this
    exact this h
  obtain ⟨pi,ei⟩:=D.gd_ok hi
  obtain ⟨pv,ev⟩:=D.gd_ok hv
  have:=wNj (S:=fun q=>S (pos pts q)) hcl (wPB (S:=fun q=>S (pos pts q)) hcl pi (by show S (pos pts (gd pts i));rw [ei];exact hSi)) pv
  have this:S (pos pts (gd pts v)):=this
  rwa [ev] at this
theorem Desk.cost (p:Bool):∀ e ∈ d.edges.map (ed p),e.c <= 400000:=by
 intro e he
 obtain ⟨x,hx,rfl⟩:=D.mem.1 he
 obtain ⟨_,_,_,c⟩:=wCm D.c hx
 rw [D.ed_is hx]
 split <;> exact c
theorem Desk.nlen:d.number.length=pts.length:=by rw [D.num,wIi]
theorem Desk.any:∃ f last ok,wAh d (-1) false=some (f,last,ok)/\f.far.length=pts.length/\f.by_.length=pts.length/\(ok=true ↔ ∃ y,wEN r y)/\(ok=true->wEN r fun p=>gd f.far (pos pts p))/\(ok=false->0 <= last/\last < pts.length):=by
 obtain ⟨f,last,ok,e,bl,fl,h1,h2⟩:=wJN D.nlen D.len.1 (by have:=D.len.2;omega) D.edOK D.elen (-1) false
 have hp:0 < pts.length:=D.len.1
 have t0:wHB (-1) 0=0:=by unfold wHB;rw [if_pos (.inl (by omega))]
 have feas:ok=true->wEN r fun p=>gd f.far (pos pts p):=fun h=>D.back ((h1 h).feas (D.con false) (D.cost false) hp t0)
 refine ⟨f,last,ok,e,fl,bl,⟨fun h=>⟨_,feas h⟩,fun ⟨y,hy⟩=>?_⟩,feas,fun h=>⟨(h2 h).1,(h2 h).2.1⟩⟩
 cases ok with
 | true=>rfl
 | false =>
  exfalso
  obtain ⟨δ,M⟩:=wLd (D.con false) (D.feas hy) hp t0 (fun v _=>(wNB (-1) v).1)
  exact (h2 rfl).2.2 δ M fun v hv=>by have:=M.hi (D.con false) hp t0 v hv;omega
theorem Desk.from_ (hy:∃ y,wEN r y) {a:Pt} (ha:wFG r a):∃ f last,wAh d (pos pts a:Int) false=some (f,last,true)/\f.far.length=pts.length/\IsDP r a fun p=>gd f.far (pos pts p):=by
 obtain ⟨f,last,ok,e,bl,fl,h1,h2⟩:=wJN D.nlen D.len.1 (by have:=D.len.2;omega) D.edOK D.elen (pos pts a:Int) false
 obtain ⟨hp,hg,_⟩:=D.pos_ok ha
 have t0:wHB (pos pts a:Int) (pos pts a)=0:=by unfold wHB;rw [if_pos (.inr rfl)]
 obtain ⟨y,hy⟩:=hy
 have hok:ok=true:=by
  cases ok with
  | true=>rfl
  | false =>
   exfalso
   obtain ⟨δ,M⟩:=wLd (D.con false) (D.feas hy) hp t0 (fun v _=>(wNB _ v).1)
   exact (h2 rfl).2.2 δ M fun v hv=>by have:=M.hi (D.con false) hp t0 v hv;omega
 subst hok
 have I:=(h1 rfl).isD (by omega) (D.con false) (D.cost false) hp
 refine ⟨f,last,e,fl,D.back I.ok,I.zero,fun z hz p hpt=>?_⟩
 have:=I.gr _ (D.feas hz) (pos pts p) (D.pos_ok hpt).1
 simp only [hg,(D.pos_ok hpt).2.1] at this
 exact this
end
end Go.Proofs.YtlnfbjphfoipaaaGreat
namespace Go.Proofs.YtlnfbjphfoipaaaGreat
open Go.KL Go.KL.Net
def inB (n lo hi:Int):Bool:=decide (lo <= n/\n <= hi)
theorem wEb (n lo hi:Int):wBg n lo hi=some (inB n lo hi):=by
 unfold wBg inB
 by_cases h:lo <= n
 ·rw [if_pos h];simp [h]
 ·rw [if_neg h];simp [h]
def wMM (s:wAO) (lo hi:Int):Bool:=decide (s.Lo <= s.Hi/\lo <= s.Lo/\s.Hi <= hi)
theorem wIQ (s:wAO) (lo hi:Int):wDM s lo hi=some (wMM s lo hi):=by
 unfold wDM wMM
 by_cases h:s.Lo <= s.Hi
 ·by_cases h2:lo <= s.Lo
  ·rw [if_pos h,if_pos h2];simp [h,h2]
  ·rw [if_pos h,if_neg h2];simp [h2]
 ·rw [if_neg h];simp [h]
theorem wLo {l:List Int} {f:Int->Option Bool} {p:Int->Bool} (hf:∀ a ∈ l,f a=some (p a)) (hn:l.length <= 1000):wCy l f=some (l.all p):=by
 unfold wCy
 refine (wFu (R:=Bool) (p:=p) (z:=false) (K:=fun _=>some true) (fun a ha=>?_) (by omega)).trans ?_
 ·rw [hf a ha,hD];split <;> rfl
 ·split <;> simp_all
theorem wKm {l:List wAO} {f:wAO->Option Bool} {p:wAO->Bool} (hf:∀ a ∈ l,f a=some (p a)) (hn:l.length <= 1000):wCE l f=some (l.all p):=by
 unfold wCE
 refine (wFu (R:=Bool) (p:=p) (z:=false) (K:=fun _=>some true) (fun a ha=>?_) (by omega)).trans ?_
 ·rw [hf a ha,hD];split <;> rfl
 ·split <;> simp_all
theorem wJu {l:List wAi} {f:wAi->Option Bool} {p:wAi->Bool} (hf:∀ a ∈ l,f a=some (p a)) (hn:l.length <= 1000):wBm l f=some (l.all p):=by
 unfold wBm
 refine (wFu (R:=Bool) (p:=p) (z:=false) (K:=fun _=>some true) (fun a ha=>?_) (by omega)).trans ?_
 ·rw [hf a ha,hD];split <;> rfl
 ·split <;> simp_all
theorem wGm {l:List wAK} {f:wAK->Option Bool} {p:wAK->Bool} (hf:∀ a ∈ l,f a=some (p a)) (hn:l.length <= 1000):wBE l f=some (l.all p):=by
 unfold wBE
 refine (wFu (R:=Bool) (p:=p) (z:=false) (K:=fun _=>some true) (fun a ha=>?_) (by omega)).trans ?_
 ·rw [hf a ha,hD];split <;> rfl
 ·split <;> simp_all
structure wCt (r:wAA):Prop where
 n:r.Starts.length <= 10
 m:r.Splits.length <= 9
 c:r.Clocks.length <= 6
 q:r.Readings.length <= 44
def stP (s:Int):Bool:=inB s 0 360000
def spP (s:wAO):Bool:=wMM s 0 360000
def ckP (c:wAi):Bool:=wMM c.Offset (-36000) 36000 && inB c.Error 0 600
def rtP (x:wAK):Bool:=inB x.Time 0 360000
def ruP (r:wAA) (x:wAK):Bool:=inB x.Skier 0 ((r.Starts.length:Int) - 1) && (inB x.Mat 0 r.Splits.length && inB x.Clock 0 ((r.Clocks.length:Int) - 1))
def code (r:wAA):Int :=
 if ¬ (1 <= r.Starts.length/\r.Starts.length <= 8) then 2 else if 7 < r.Splits.length then 2 else if 4 < r.Clocks.length then 2 else if 40 < r.Readings.length then 2
 else if r.Starts.all stP=true then (if r.Splits.all spP=true then (if r.Clocks.all ckP=true then (if r.Readings.all rtP=true then (if r.Readings.all (ruP r)=true then 0 else 1) else 3) else 3) else 3) else 3
theorem wFk {r:wAA} (h:code r=0):RC r:=by
 unfold code at h
 split at h
 ·omega
 ·split at h
  ·omega
  ·split at h
   ·omega
   ·split at h
    ·omega
    ·split at h
     ·split at h
      ·split at h
       ·split at h
        ·split at h
         ·rename_i a1 a2 a3 a4 h1 h2 h3 h4 h5
          rw [nb] at h1 h2 h3 h4 h5
          refine ⟨by omega,by omega,by omega,by omega,fun s hs=>?_,fun s hs=>?_,fun s hs=>?_,fun s hs=>?_,fun s hs=>?_⟩
          ·have:=h1 s hs
           simp only [stP,inB,decide_eq_true_eq] at this
           exact this
          ·have:=h2 s hs
           simp only [spP,wMM,decide_eq_true_eq] at this
           exact this
          ·have:=h3 s hs
           simp only [ckP,wMM,inB,nc,decide_eq_true_eq] at this
           exact this
          ·have:=h4 s hs
           simp only [rtP,inB,decide_eq_true_eq] at this
           exact this
          ·have:=h5 s hs
           simp only [ruP,inB,nc,decide_eq_true_eq] at this
           omega
         ·omega
        ·omega
       ·omega
      ·omega
     ·omega
theorem wIj {r:wAA} (S:wCt r) (s:wAM):wAu r s=some (inB s.Skier 0 ((r.Starts.length:Int) - 1) && inB s.Mat 0 r.Splits.length):=by
 have:=S.n
 unfold wAu
 rw [wAb (by omega) (by omega),wEb,hD,wEb,hD]
 cases inB s.Skier 0 ((r.Starts.length:Int) - 1)
 ·rw [if_neg (by simp)];rfl
 ·rw [if_pos rfl,Bool.true_and]
theorem wHC {r:wAA} (S:wCt r):wDB r=some (code r):=by
 have hn:=S.n;have hm:=S.m;have hc:=S.c;have hq:=S.q
 unfold wDB code
 rw [wEb,hD]
 by_cases c1:1 <= r.Starts.length/\r.Starts.length <= 8
 ·have e1:inB (r.Starts.length:Int) 1 8=true:=by unfold inB;rw [decide_eq_true_eq];omega
  rw [e1,if_pos rfl,if_neg (show ¬ ¬ (1 <= r.Starts.length/\r.Starts.length <= 8) from fun h=>h c1)]
  by_cases c2:7 < r.Splits.length
  ·rw [if_pos (show (7:Int) < (r.Splits.length:Int) by omega),if_pos c2]
  ·rw [if_neg (show ¬ (7:Int) < (r.Splits.length:Int) by omega),if_neg c2]
   by_cases c3:4 < r.Clocks.length
   ·rw [if_pos (show (4:Int) < (r.Clocks.length:Int) by omega),if_pos c3]
   ·rw [if_neg (show ¬ (4:Int) < (r.Clocks.length:Int) by omega),if_neg c3]
    by_cases c4:40 < r.Readings.length
    ·rw [if_pos (show (40:Int) < (r.Readings.length:Int) by omega),if_pos c4]
    ·rw [if_neg (show ¬ (40:Int) < (r.Readings.length:Int) by omega),if_neg c4]
     rw [wLo (p:=stP) (fun a _=>by unfold wDL;rw [wEb];rfl) (by omega),hD]
     rw [wKm (p:=spP) (fun a _=>by unfold wDN;rw [wIQ];rfl) (by omega),hD]
     rw [wJu (p:=ckP) (fun a _=>by
      unfold wDO ckP
      rw [wIQ,hD,wEb,hD]
      cases wMM a.Offset (-36000) 36000
      ·rw [if_neg (by simp)];rfl
      ·rw [if_pos rfl];rfl) (by omega),hD]
     rw [wGm (p:=rtP) (fun a _=>by unfold wDP;rw [wEb];rfl) (by omega),hD]
     rw [wGm (p:=ruP r) (fun a _=>by
      unfold wDQ ruP
      rw [wIj S,hD,wAb (by omega) (by omega),wEb,hD]
      simp only
      cases inB a.Skier 0 ((r.Starts.length:Int) - 1)
      ·rw [if_neg (by simp)];rfl
      ·cases inB a.Mat 0 (r.Splits.length:Int)
       ·rw [if_neg (by simp)];rfl
       ·simp) (by omega),hD]
     split
     ·split
      ·split
       ·split
        ·split <;> rfl
        ·rfl
       ·rfl
      ·rfl
     ·rfl
 ·have e1:inB (r.Starts.length:Int) 1 8=false:=by unfold inB;rw [decide_eq_false_iff_not];omega
  rw [e1,if_neg (by simp),if_pos c1]
end Go.Proofs.YtlnfbjphfoipaaaGreat
namespace Go.Proofs.YtlnfbjphfoipaaaGreat
open Go.KL Go.KL.Net
open Classical
def wFO (r:wAA) (s:wAM):Bool:=inB s.Skier 0 ((r.Starts.length:Int) - 1) && inB s.Mat 0 r.Splits.length
def pt (s:wAM):Pt:=⟨s.Skier,s.Mat⟩
theorem wGS {r:wAA} {s:wAM} (h:wFO r s=true):wFG r (pt s)/\0 <= s.Skier/\s.Skier < r.Starts.length/\0 <= s.Mat/\s.Mat <= r.Splits.length:=by
 simp only [wFO,inB,nc,decide_eq_true_eq] at h
 exact ⟨.inr (.inl ⟨h.1.1,by simp only [pt];omega,h.2.1,h.2.2⟩),h.1.1,by omega,h.2.1,h.2.2⟩
noncomputable def wGC (r:wAA) (l:List wAM):Int:=if code r=0 then (if l.all (wFO r)=true then (if ∃ y,wEN r y then 0 else 7) else 1) else code r
theorem err0 {r:wAA} {l:List wAM} (h:wGC r l=0):RC r/\code r=0/\l.all (wFO r)=true/\∃ y,wEN r y:=by
 unfold wGC at h
 split at h
 ·split at h
  ·split at h
   ·rename_i a b c
    exact ⟨wFk a,a,b,c⟩
   ·omega
  ·omega
 ·contradiction
theorem wIk {r:wAA} (S:wCt r):(code r ≠ 0/\wCb r=some (none,code r)) \/ (code r=0/\∃ d pts,wCb r=some (some d,0)/\Desk r d pts):=by
 unfold wCb
 rw [wHC S,hD]
 by_cases c:code r=0
 ·right
  obtain ⟨d,pts,e,D⟩:=wLm (wFk c)
  refine ⟨c,d,pts,?_,D⟩
  rw [if_pos c,e];rfl
 ·left
  exact ⟨c,if_neg c⟩
end Go.Proofs.YtlnfbjphfoipaaaGreat
namespace Go.Proofs.YtlnfbjphfoipaaaGreat
open Go.KL Go.KL.Net
open Classical
theorem wKn {l:List wAM} {f:wAM->Option Bool} {p:wAM->Bool} (hf:∀ a ∈ l,f a=some (p a)) (hn:l.length <= 1000):wBX l f=some (l.all p):=by
 unfold wBX
 refine (wFu (R:=Bool) (p:=p) (z:=false) (K:=fun _=>some true) (fun a ha=>?_) (by omega)).trans ?_
 ·rw [hf a ha,hD];split <;> rfl
 ·split <;> simp_all
section
variable {r:wAA} {d:wAg} {pts:List Pt} (D:Desk r d pts)
include D
theorem Desk.holds:∃ b,wBG d=some b/\(b=true ↔ ∃ y,wEN r y):=by
 obtain ⟨f,last,ok,e,_,_,h,_⟩:=D.any
 refine ⟨ok,?_,h⟩
 unfold wBG
 rw [e];rfl
end
theorem wKW {r:wAA} (S:wCt r) {l:List wAM} (hl:l.length <= 10):∃ o,wDC r l=some (o,wGC r l)/\(wGC r l=0->∃ d pts,o=some d/\Desk r d pts)/\(wGC r l ≠ 0->o=none):=by
 unfold wDC
 rcases wIk S with ⟨c,e⟩ | ⟨c,d,pts,e,D⟩
 ·have ee:wGC r l=code r:=by unfold wGC;rw [if_neg c]
  refine ⟨none,?_,fun h=>absurd (ee ▸ h) c,fun _=>rfl⟩
  rw [e,hD,ee]
  simp only
  rw [if_neg c]
 ·rw [e,hD]
  simp only
  rw [if_pos trivial,wKn (p:=wFO r) (fun s _=>wIj S s) (by omega),hD]
  by_cases c2:l.all (wFO r)=true
  ·rw [if_pos c2]
   obtain ⟨b,e3,h3⟩:=D.holds
   rw [e3,hD]
   by_cases c3:∃ y,wEN r y
   ·have ee:wGC r l=0:=by unfold wGC;rw [if_pos c,if_pos c2,if_pos c3]
    rw [if_pos (h3.2 c3),ee]
    exact ⟨_,rfl,fun _=>⟨d,pts,rfl,D⟩,fun h=>absurd rfl h⟩
   ·have ee:wGC r l=7:=by unfold wGC;rw [if_pos c,if_pos c2,if_neg c3]
    rw [if_neg (fun h=>c3 (h3.1 h)),ee]
    exact ⟨_,rfl,fun h=>by omega,fun _=>rfl⟩
  ·have ee:wGC r l=1:=by unfold wGC;rw [if_pos c,if_neg c2]
   rw [if_neg c2,ee]
   exact ⟨_,rfl,fun h=>by omega,fun _=>rfl⟩
end Go.Proofs.YtlnfbjphfoipaaaGreat
namespace Go.Proofs.YtlnfbjphfoipaaaGreat
open Go.KL Go.KL.Net
open Classical
inductive Up (P:Nat->Option Nat):Nat->Prop
 | root {v:Nat}:P v=none->Up P v
 | step {v a:Nat}:P v=some a->Up P a->Up P v
theorem wPC {P P':Nat->Option Nat} {q:Nat->Int} {v a:Nat} (hP:∀ u,u ≠ v->P' u=P u) (hv:P' v=some a) (hq:∀ u x,P u=some x->q x <= q u) (hlt:q a < q v) (ha:Up P a):∀ w,Up P w->Up P' w:=by
 have low:∀ u,Up P u->q u < q v->Up P' u:=by
  intro u h
  induction h with
  | @root u h=>exact fun hu=>.root (by rw [hP u (fun e=>by subst e;omega)];exact h)
  | @step u x h _ ih=>exact fun hu=>.step (by rw [hP u (fun e=>by subst e;omega)];exact h) (ih (by have:=hq u x h;omega))
 intro w h
 induction h with
 | @root u h =>
  by_cases e:u=v
  ·subst e
   exact .step hv (low a ha hlt)
  ·exact .root (by rw [hP u e];exact h)
 | @step u x h _ ih =>
  by_cases e:u=v
  ·subst e
   exact .step hv (low a ha hlt)
  ·exact .step (by rw [hP u e];exact h) ih
def par (es:List wAX) (p:Bool) (by_:List Int) (v:Nat):Option Nat:=if v < by_.length/\0 <= gd by_ v then some (ed p (gd es (gd by_ v).toNat)).a else none
structure BI (n:Nat) (es:List wAX) (p:Bool) (i:Int) (far by_:List Int):Prop where
 fl:far.length=n
 bl:by_.length=n
 pa:∀ v,v < n->(gd by_ v=-1/\gd far v=wHB i v) \/ ∃ k,k < es.length/\gd by_ v=(k:Int)/\(ed p (gd es k)).b=v/\gd far (ed p (gd es k)).a + (ed p (gd es k)).c <= gd far v/\gd far (ed p (gd es k)).a < 1125899906842624
 up:∀ v,v < n->Up (par es p by_) v
section
variable {n:Nat} {es:List wAX} (hes:∀ e ∈ es,wML n e) {p:Bool} {i:Int} {y:Nat->Int} (hy:wHN (es.map (ed p)) y)
include hes hy
theorem wNl {k:Nat} (hk:k < es.length) {far by_:List Int} {last M:Int} (hM:M <= 1000000000000000) (h0:0 <= M) (hr:∀ v,v < n->gd far v=1125899906842624 \/ (-M <= gd far v/\gd far v <= M)) (I:BI n es p i far by_) {s:SS} (e:spB es p k (far,by_,last)=some s) :
  BI n es p i s.1 s.2.1/\∀ v,v < n->gd s.1 v=1125899906842624 \/ (-(M + 400000) <= gd s.1 v/\gd s.1 v <= M + 400000):=by
 obtain ⟨fl,bl,pa,up⟩:=I
 obtain ⟨ha,hb,e'⟩:=wKM hes (p:=p) hk (last:=last) fl bl hM h0 hr
 rw [e'] at e
 have hm:=wCl hk
 have hok:=hes _ hm
 have hc:-400000 <= (ed p (gd es k)).c/\(ed p (gd es k)).c <= 400000:=by
  have:=hok.c0;have:=hok.c1
  unfold ed
  split <;> exact ⟨by assumption,by assumption⟩
 have fe:∀ j,j < es.length->y (ed p (gd es j)).b <= y (ed p (gd es j)).a + (ed p (gd es j)).c:=fun j hj=>hy _ (nO.2 ⟨_,wCl hj,rfl⟩)
 have hk':=fe k hk
 have ends:∀ j,j < es.length->(ed p (gd es j)).a < n:=fun j hj=>by
  obtain ⟨a1,a2,a3,a4,_,_⟩:=hes _ (wCl hj)
  unfold ed
  split <;> (simp only;omega)
 by_cases c:gd far (ed p (gd es k)).a < 1125899906842624/\gd far (ed p (gd es k)).a + (ed p (gd es k)).c < gd far (ed p (gd es k)).b
 ·rw [if_pos c] at e
  cases e
  generalize hE:ed p (gd es k)=E at *
  obtain ⟨c1,c2⟩:=c
  have ra:-M <= gd far E.a/\gd far E.a <= M:=by
   rcases hr E.a ha with q | q
   ·omega
   ·exact q
  have hg:∀ v,v < n->gd (far.set E.b (gd far E.a + E.c)) v=if v=E.b then gd far E.a + E.c else gd far v:=fun v hv=>wFW (by omega) (by omega)
  have hB:∀ v,v < n->gd (by_.set E.b (k:Int)) v=if v=E.b then (k:Int) else gd by_ v:=fun v hv=>wFW (by omega) (by omega)
  have hab:E.a ≠ E.b:=fun h=>by rw [h] at c2 hk';omega
  refine ⟨⟨by simp [fl],by simp [bl],fun v hv=>?_,fun v hv=>?_⟩,fun v hv=>?_⟩
  ·simp only
   rw [hg v hv,hB v hv]
   by_cases ev:v=E.b
   ·right
    rw [if_pos ev,if_pos ev]
    refine ⟨k,hk,rfl,by rw [hE,ev],?_,?_⟩
    ·rw [hE,hg _ ha,if_neg hab];exact nu _
    ·rw [hE,hg _ ha,if_neg hab];exact c1
   ·rw [if_neg ev,if_neg ev]
    rcases pa v hv with q | ⟨j,hj,q1,q2,q3,q4⟩
    ·exact .inl q
    ·right
     refine ⟨j,hj,q1,q2,?_,?_⟩
     ·rw [hg _ (ends j hj)]
      split
      ·rename_i h
       rw [h] at q3;omega
      ·exact q3
     ·rw [hg _ (ends j hj)]
      split
      ·omega
      ·exact q4
  ·refine wPC (P:=par es p by_) (q:=fun u=>gd far u - y u) (v:=E.b) (a:=E.a) (fun u hu=>?_) ?_ (fun u x hx=>?_) ?_ (up _ ha) v (up v hv)
   ·unfold par
    simp only [nP]
    by_cases hl:u < by_.length
    ·have:gd (by_.set E.b (k:Int)) u=gd by_ u:=by rw [hB u (by omega),if_neg hu]
     rw [this]
    ·rw [if_neg (fun h=>hl h.1),if_neg (fun h=>hl h.1)]
   ·unfold par
    simp only [nP]
    rw [hB _ hb,if_pos rfl,if_pos ⟨by omega,by omega⟩,nD,hE]
   ·unfold par at hx
    split at hx
    ·rename_i h
     cases hx
     rcases pa u (by omega) with q | ⟨j,hj,q1,q2,q3,q4⟩
     ·omega
     ·rw [q1,nD]
      have:=fe j hj
      rw [q2] at this
      omega
    ·cases hx
   ·omega
  ·simp only
   rw [hg v hv]
   split
   ·right;omega
   ·rcases hr v hv with q | q
    ·exact .inl q
    ·right;omega
 ·rw [if_neg c] at e
  cases e
  refine ⟨⟨fl,bl,pa,up⟩,fun v hv=>?_⟩
  show gd far v=_ \/ (_ <= gd far v/\gd far v <= _)
  rcases hr v hv with q | q
  ·exact .inl q
  ·right;omega
theorem wNm (hl:es.length <= 1000) {far by_:List Int} {M:Int} (hM:M <= 900000000000000) (h0:0 <= M) (hr:∀ v,v < n->gd far v=1125899906842624 \/ (-M <= gd far v/\gd far v <= M)) (I:BI n es p i far by_) {s:SS} (e:wCF 0 (↑es.length:Int) (spB es p) (far,by_,-1)=some s):BI n es p i s.1 s.2.1:=by
 rw [wCo (by omega)] at e
 obtain ⟨s',e',P⟩:=wDh (body:=spB es p) (fun (j:Nat) s=>BI n es p i s.1 s.2.1/\∀ v,v < n->gd s.1 v=1125899906842624 \/ (-(M + 400000 * (j:Int)) <= gd s.1 v/\gd s.1 v <= M + 400000 * (j:Int))) es.length 0 (far,by_,-1) ⟨I,fun v hv=>by simpa using hr v hv⟩ (by
  rintro j ⟨f,b,la⟩ _ hj ⟨J,rg⟩
  obtain ⟨_,_,e2⟩:=wKM hes (p:=p) (k:=j) (by omega) (last:=la) J.fl J.bl (M:=M + 400000 * (j:Int)) (by omega) (by omega) rg
  obtain ⟨J2,rg2⟩:=wNl hes hy (k:=j) (by omega) (last:=la) (M:=M + 400000 * (j:Int)) (by omega) (by omega) rg J e2
  refine ⟨_,e2,J2,fun v hv=>?_⟩
  rcases rg2 v hv with q | q
  ·exact .inl q
  ·right;omega)
 rw [e'] at e
 cases e
 exact P.1
end
theorem wLp {d:wAg} {n:Nat} (hn:d.number.length=n) (h1:1 <= n) (h2:n <= 500) (hes:∀ e ∈ d.edges,wML n e) (hl:d.edges.length <= 1000) (i:Int) (p:Bool) {y:Nat->Int} (hy:wHN (d.edges.map (ed p)) y) {f:wAf} {last:Int} {ok:Bool} (e:wAh d i p=some (f,last,ok)):BI n d.edges p i f.far f.by_:=by
 unfold wAh at e
 rw [hn,wFM _ h1 (by omega),hD,wFM _ h1 (by omega),hD,hD] at e
 simp only at e
 obtain ⟨z,e1,y1,y2⟩:=wJs (n:=n) i (l:=hJ n 1125899906842624) (by simp) (by omega) (fun v hv=>by rw [wHd (by simpa using hv)];simp)
 rw [e1,hD,wAb (by omega) (by omega)] at e
 have hn1:((n:Int) + 1)=((n + 1:Nat):Int):=by omega
 rw [hn1,wDx (by omega)] at e
 have gm:∀ v,v < n->gd (hJ n (-1:Int)) v=-1:=fun v hv=>by rw [wHd (by simpa using hv)];simp
 have I0:BI n d.edges p i z (hJ n (-1)):=⟨y1,by simp,fun v hv=>.inl ⟨gm v hv,y2 v hv⟩,fun v hv=>.root (by
  unfold par
  rw [if_neg (fun h=>by rw [gm v hv] at h;omega)])⟩
 rcases wHO (B:=wAf × Int × Bool) (body:=fun (k1336:Nat) ((l1333,l1334,x1335):SS) =>
  (wCF 0 (↑d.edges.length:Int) (spB d.edges p) (l1333,l1334,-1)).bind fun (y1380,y1381,y1382) =>
  if y1382 < 0 then
   esc (some ((⟨y1380,y1381⟩:wAf),0,true))
  else
   some (.inl (y1380,y1381,y1382))) (fun (t:Nat) s=>BI n d.edges p i s.1 s.2.1/\∀ v,v < n->gd s.1 v=1125899906842624 \/ (-(400000000 * (t:Int)) <= gd s.1 v/\gd s.1 v <= 400000000 * (t:Int))) (fun b=>BI n d.edges p i b.1.far b.1.by_) (n + 1) 0 (z,hJ n (-1),-1)
  ⟨I0,fun v hv=>by simp only;rw [y2 v hv];unfold wHB;split <;> omega⟩ (by
   rintro t ⟨far,by_,la⟩ _ ht ⟨J,rg⟩
   simp only at J rg
   obtain ⟨⟨far',by',last'⟩,e2,P⟩:=wJr hes hl p J.fl J.bl (M:=400000000 * (t:Int)) (by omega) (by omega) rg
   have J2:=wNm hes hy hl (M:=400000000 * (t:Int)) (by omega) (by omega) rg J e2
   simp only at J2 ⊢
   rw [e2,hD]
   simp only
   by_cases c:last' < 0
   ·right
    rw [if_pos c]
    exact ⟨_,rfl,J2⟩
   ·left
    rw [if_neg c]
    refine ⟨_,rfl,J2,fun v hv=>?_⟩
    show gd far' v=_ \/ (_ <= gd far' v/\gd far' v <= _)
    rcases P.rg v hv with q | q
    ·exact .inl q
    ·right;simp only at q;omega) with ⟨⟨far,by_,la⟩,e2,I,_⟩ | ⟨⟨f2,la,o⟩,e2,I⟩
 ·have e:jn (forN (B:=wAf × Int × Bool) (fun (k1336:Nat) ((l1333,l1334,x1335):SS) =>
  (wCF 0 (↑d.edges.length:Int) (spB d.edges p) (l1333,l1334,-1)).bind fun (y1380,y1381,y1382) =>
  if y1382 < 0 then
   esc (some ((⟨y1380,y1381⟩:wAf),0,true))
  else
   some (.inl (y1380,y1381,y1382))) (n + 1) 0 (z,hJ n (-1),-1)) (fun (a,b,c)=>some ((⟨a,b⟩:wAf),c,false))=some (f,last,ok):=e
  rw [e2] at e
  cases e
  exact I
 ·have e:jn (forN (B:=wAf × Int × Bool) (fun (k1336:Nat) ((l1333,l1334,x1335):SS) =>
  (wCF 0 (↑d.edges.length:Int) (spB d.edges p) (l1333,l1334,-1)).bind fun (y1380,y1381,y1382) =>
  if y1382 < 0 then
   esc (some ((⟨y1380,y1381⟩:wAf),0,true))
  else
   some (.inl (y1380,y1381,y1382))) (n + 1) 0 (z,hJ n (-1),-1)) (fun (a,b,c)=>some ((⟨a,b⟩:wAf),c,false))=some (f,last,ok):=e
  rw [e2] at e
  cases e
  exact I
end Go.Proofs.YtlnfbjphfoipaaaGreat
namespace Go.Proofs.YtlnfbjphfoipaaaGreat
open Go.KL Go.KL.Net
open Classical
def Fol (r:wAA):Pt->List wAC->Pt->Int->Prop
 | p,[],q,s=>p=q/\s=0
 | p,x :: l,q,s=>wBB r x/\(wBy r x).1=p/\Fol r (wBy r x).2.1 l q (s - (wBy r x).2.2)
theorem Fol.snoc {r:wAA} {x:wAC} (hx:wBB r x):∀ {p:Pt} {l:List wAC} {s:Int},Fol r p l (wBy r x).1 s->Fol r p (l ++ [x]) (wBy r x).2.1 (s + (wBy r x).2.2)
 | p,[],s,⟨h1,h2⟩=>⟨hx,h1.symm,rfl,by omega⟩
 | p,z :: l,s,⟨h1,h2,h3⟩=>⟨h1,h2,by
  have:=Fol.snoc hx h3
  rwa [show s - (wBy r z).2.2 + (wBy r x).2.2=s + (wBy r x).2.2 - (wBy r z).2.2 by omega] at this⟩
theorem Fol.ok {r:wAA}:∀ {p:Pt} {l:List wAC} {q:Pt} {s:Int},Fol r p l q s->∀ x ∈ l,wBB r x
 | _,[],_,_,_=>fun _ h=>by cases h
 | _,z :: l,_,_,⟨h1,_,h3⟩=>fun x hx=>by
  rcases na.1 hx with rfl | h
  ·exact h1
  ·exact h3.ok x h
theorem wIl:∀ (n:Nat) (f:Nat->Nat),(∀ k,k <= n + 1->f k <= n)->∃ i j,i < j/\j <= n + 1/\f i=f j
 | 0,f,h=>⟨0,1,by omega,by omega,by have:=h 0 (by omega);have:=h 1 (by omega);omega⟩
 | n + 1,f,h=>by
  rcases kc (∃ i,i <= n + 1/\f i=f (n + 2)) with ⟨i,h1,h2⟩ | hne
  ·exact ⟨i,n + 2,by omega,by omega,h2⟩
  ·have hne':∀ i,i <= n + 1->f i ≠ f (n + 2):=fun i hi e=>hne ⟨i,hi,e⟩
   have hl:=h (n + 2) (by omega)
   obtain ⟨i,j,h1,h2,h3⟩:=wIl n (fun k=>if f k=n + 1 then f (n + 2) else f k) (fun k hk=>by
    have a:=h k (by omega);have b:=hne' k hk
    show (if f k=n + 1 then f (n + 2) else f k) <= n
    split <;> omega)
   refine ⟨i,j,h1,by omega,?_⟩
   have a:=hne' i (by omega);have b:=hne' j h2
   split at h3 <;> split at h3 <;> omega
def cod (p:Pt):Nat:=if p=zp then 0 else if 0 <= p.skier then 1 + p.skier.toNat * 8 + p.mat.toNat else 64 + p.mat.toNat
theorem wNE {r:wAA} {d:wAg} {pts:List Pt} (D:Desk r d pts):pts.length <= 69:=by
 have hn:=D.c.n;have hm:=D.c.m;have hc:=D.c.c
 have key:∀ p,wFG r p->cod p <= 68:=fun p hp=>by
  unfold cod
  by_cases c0:p=zp
  ·rw [if_pos c0];omega
  ·rw [if_neg c0]
   rcases hp.resolve_left c0 with ⟨a,b,c,e⟩ | ⟨a,b,c⟩
   ·rw [if_pos a];omega
   ·rw [if_neg (by omega)];omega
 have inj:∀ p q,wFG r p->wFG r q->cod p=cod q->p=q:=fun p q hp hq e=>by
  have ext:∀ {p q:Pt},p.skier=q.skier->p.mat=q.mat->p=q:=fun {p q} h1 h2=>by cases p;cases q;simp only at h1 h2;rw [h1,h2]
  unfold cod at e
  by_cases c1:p=zp
  ·by_cases c2:q=zp
   ·rw [c1,c2]
   ·exfalso
    rw [if_pos c1,if_neg c2] at e
    rcases hq with h | ⟨a,b,c,e'⟩ | ⟨a,b,c⟩
    ·exact c2 h
    ·rw [if_pos a] at e;omega
    ·rw [if_neg (by omega)] at e;omega
  ·rw [if_neg c1] at e
   by_cases c2:q=zp
   ·exfalso
    rw [if_pos c2] at e
    rcases hp with h | ⟨a,b,c,e'⟩ | ⟨a,b,c⟩
    ·exact c1 h
    ·rw [if_pos a] at e;omega
    ·rw [if_neg (by omega)] at e;omega
   ·rw [if_neg c2] at e
    have hp:=hp.resolve_left c1
    have hq:=hq.resolve_left c2
    rcases hp with ⟨a,b,c,e'⟩ | ⟨a,b,c⟩ <;> rcases hq with ⟨a',b',c',e''⟩ | ⟨a',b',c'⟩
    ·rw [if_pos a,if_pos a'] at e;exact ext (by omega) (by omega)
    ·rw [if_pos a,if_neg (by omega)] at e;omega
    ·rw [if_neg (by omega),if_pos a'] at e;omega
    ·rw [if_neg (by omega),if_neg (by omega)] at e;exact ext (by omega) (by omega)
 rcases nz 69 pts.length with h | h
 ·exfalso
  obtain ⟨i,j,h1,h2,h3⟩:=wIl 68 (fun k=>if k < pts.length then cod (gd pts k) else 0) (fun k hk=>by
   rw [if_pos (by omega)]
   exact key _ (D.gd_ok (by omega)).1)
  rw [if_pos (by omega),if_pos (by omega)] at h3
  have e:=inj _ _ (D.gd_ok (v:=i) (by omega)).1 (D.gd_ok (v:=j) (by omega)).1 h3
  rw [wHd (show i < pts.length by omega),wHd (show j < pts.length by omega)] at e
  have:=(List.getElem_inj D.nd).1 e
  omega
 ·exact h
inductive Way (i:Nat) (es:List wAX) (by_:List Int):Nat->List Nat->Prop
 | root:gd by_ i=-1->Way i es by_ i []
 | step {v k:Nat} {l:List Nat}:k < es.length->gd by_ v=(k:Int)->(gd es k).to_.toNat=v->Way i es by_ (gd es k).from_.toNat l->Way i es by_ v (k :: l)
theorem Way.one {i:Nat} {es:List wAX} {by_:List Int}:∀ {v:Nat} {l m:List Nat},Way i es by_ v l->Way i es by_ v m->l=m
 | _,_,_,.root _,.root _=>rfl
 | _,_,_,.root h,.step _ h2 _ _=>by omega
 | _,_,_,.step _ h _ _,.root h2=>by omega
 | _,_,_,.step _ h _ w,.step _ h2 _ w2=>by
  rw [h] at h2
  have:=Int.ofNat.inj h2
  subst this
  rw [w.one w2]
theorem Way.end_ {i:Nat} {es:List wAX} {by_:List Int}:∀ {v:Nat} {l:List Nat},Way i es by_ v l->gd by_ i=-1
 | _,_,.root h=>h
 | _,_,.step _ _ _ w=>w.end_
def nd (es:List wAX):Nat->List Nat->Nat->Nat
 | v,_,0=>v
 | v,[],_ + 1=>v
 | _,e :: l,k + 1=>nd es (gd es e).from_.toNat l k
theorem Way.at_ {i:Nat} {es:List wAX} {by_:List Int}:∀ {v:Nat} {l:List Nat} (k:Nat),Way i es by_ v l->k <= l.length->Way i es by_ (nd es v l k) (l.drop k)
 | _,_,0,w,_=>w
 | _,_,_ + 1,.root _,h=>absurd h (by simp)
 | _,_,k + 1,.step _ _ _ w,h=>w.at_ k (by simpa using h)
theorem Way.len {i n:Nat} {es:List wAX} {by_:List Int} (hes:∀ e ∈ es,wML n e) {v:Nat} {l:List Nat} (w:Way i es by_ v l) (hv:v < n):l.length < n:=by
 have hlt:∀ k,∀ {v:Nat} {l:List Nat},Way i es by_ v l->v < n->k <= l.length->nd es v l k < n:=by
  intro k
  induction k with
  | zero=>exact fun _ h _=>h
  | succ k ih =>
   intro v l w hv h
   cases w with
   | root _=>simp at h
   | step h1 _ _ w =>
    have q:=hes _ (wCl h1)
    exact ih w (by have:=q.f0;have:=q.f1;omega) (by simpa using h)
 rcases nz l.length n with h | h
 ·exact h
 ·exfalso
  have hn:0 < n:=by omega
  obtain ⟨a,b,h1,h2,h3⟩:=wIl (n - 1) (fun k=>if k <= l.length then nd es v l k else 0) (fun k hk=>by
   rw [if_pos (by omega)]
   have:=hlt k w hv (by omega)
   omega)
  rw [if_pos (by omega),if_pos (by omega)] at h3
  have wa:=w.at_ a (by omega)
  have wb:=w.at_ b (by omega)
  rw [h3] at wa
  have:=congrArg kf (wa.one wb)
  rw [nw,nw] at this
  omega
section
variable {r:wAA} {d:wAg} {pts:List Pt} (D:Desk r d pts)
include D
theorem Desk.edge {k:Nat} (hk:k < d.edges.length):∃ x,wBB r x/\(gd d.edges k).step=x/\(gd d.edges k).from_=(pos pts (wBy r x).1:Int)/\(gd d.edges k).to_=(pos pts (wBy r x).2.1:Int)/\(gd d.edges k).count=(wBy r x).2.2:=by
 have hm:=wCl hk
 rw [D.edges] at hm
 obtain ⟨x,hx,e⟩:=nO.1 hm
 have hx:=wFN.1 hx
 obtain ⟨o1,o2,_,_⟩:=wCm D.c hx
 rw [D.edges,<- e]
 exact ⟨x,hx,rfl,(wHI D.nd ((D.all _).2 o1)).2.2.1,(wHI D.nd ((D.all _).2 o2)).2.2.1,rfl⟩
theorem wLq {f:wAf} {i:Nat} (hb:f.by_.length=pts.length) {g:Int->Option Bool} (hg:∀ v:Nat,v < pts.length->v ≠ i->g (v:Int)=some false) {v:Nat} {l:List Nat} (w:Way i d.edges f.by_ v l):∀ (out:List wAC) (F:Nat),v < pts.length->out.length + l.length <= 200->l.length < F ->
  wCL F (v:Int) f out g d ()=some (out ++ l.map fun k=>(gd d.edges k).step):=by
 induction w with
 | root h =>
  intro out F hv _ hF
  obtain ⟨G,rfl⟩:∃ G,F=G + 1:=⟨F - 1,by simp at hF;omega⟩
  show wAm _ _ _ _ _ _ _=_
  unfold wAm
  rw [wCB (by omega),hD,h,if_pos (by omega),hD,if_pos rfl]
  simp
 | @step v k l hk h ht w ih =>
  intro out F hv ho hF
  simp only [nB] at ho hF
  obtain ⟨G,rfl⟩:∃ G,F=G + 1:=⟨F - 1,by omega⟩
  obtain ⟨x,hx,e1,e2,e3,e4⟩:=D.edge hk
  obtain ⟨o1,o2,_,_⟩:=wCm D.c hx
  have p1:=(D.pos_ok o1).1
  show wAm _ _ _ _ _ _ _=_
  unfold wAm
  have cond:((idx f.by_ (v:Int)).bind fun x7=>if x7 < 0 then some true else if 0 < (↑out.length:Int) then (g (v:Int)).bind fun x20=>some x20 else some false)=some false:=by
   rw [wCB (by omega),hD,h,if_neg (by omega)]
   split
   ·rw [hg v hv,hD]
    intro e
    subst e
    have:=w.end_
    omega
   ·rfl
  rw [cond,hD,if_neg (by simp),wCB (by omega),hD,h,wCB hk,hD,wFV (by simp only [nB,ni];omega),hD]
  have:=ih (out ++ [(gd d.edges k).step]) G (by omega) (by simp only [nI,nB,ni];omega) (by omega)
  rw [show ((gd d.edges k).from_.toNat:Int)=(gd d.edges k).from_ by omega] at this
  rw [this,hD,nV,nH]
  rfl
theorem wNn {a:Pt} (ha:wFG r a) {y:Pt->Int} {by_:List Int} (tight:∀ (k:Nat) (v:Nat),k < d.edges.length->v < pts.length->gd by_ v=(k:Int)->(gd d.edges k).to_=(v:Int)->y (gd pts v)=y (gd pts (gd d.edges k).from_.toNat) + (gd d.edges k).count) {v:Nat} {l:List Nat} (w:Way (pos pts a) d.edges by_ v l) (hv:v < pts.length):Fol r a (l.reverse.map fun k=>(gd d.edges k).step) (gd pts v) (y (gd pts v) - y a):=by
 induction w with
 | root h =>
  have:=(D.pos_ok ha).2.1
  exact ⟨this.symm,by rw [this];omega⟩
 | @step v k l hk h ht w ih =>
  obtain ⟨x,hx,e1,e2,e3,e4⟩:=D.edge hk
  obtain ⟨o1,o2,_,_⟩:=wCm D.c hx
  have p1:=D.pos_ok o1
  have p2:=D.pos_ok o2
  have i1:=ih (by omega)
  have hf:(gd d.edges k).from_.toNat=pos pts (wBy r x).1:=by omega
  have hv2:v=pos pts (wBy r x).2.1:=by omega
  have t:=tight k v hk hv h (by omega)
  rw [hf,p1.2.1] at i1 t
  have s:=Fol.snoc hx i1
  rw [List.reverse_cons,nJ,nV,kJ,e1]
  rw [hv2,p2.2.1] at t ⊢
  rwa [show y (wBy r x).1 - y a + (wBy r x).2.2=y (wBy r x).2.1 - y a by omega] at s
end
end Go.Proofs.YtlnfbjphfoipaaaGreat
namespace Go.Proofs.YtlnfbjphfoipaaaGreat
open Go.KL Go.KL.Net
open Classical
theorem wLr {r:wAA} (S:wCt r) {x:wAC} (h:wBB r x):wAv r x=some true:=by
 have hn:=S.n;have hm:=S.m;have hc:=S.c;have hq:=S.q
 unfold wAv
 rcases h with ⟨k,a,b,c⟩ | ⟨k,a,b,c,e⟩ | ⟨k,a,b,c⟩ | ⟨k,a,b,c⟩
 ·rw [if_pos k,wEb,hD,if_pos (by unfold inB;rw [decide_eq_true_eq];omega),show wAo=some () from rfl,hD]
  unfold wDq
  rw [wAb (by omega) (by omega),wEb,hD,if_pos (by unfold inB;rw [decide_eq_true_eq];omega),hD,decide_eq_true c]
 ·rw [if_neg (by omega),if_pos k,wEb,hD,if_pos (by unfold inB;rw [decide_eq_true_eq];omega),show wAo=some () from rfl,hD]
  unfold wDr
  rw [wAb (by omega) (by omega),wEb,hD,if_pos (by unfold inB;rw [decide_eq_true_eq];omega),wAb (by omega) (by omega),wEb,hD,hD]
  congr 1
  unfold inB;rw [decide_eq_true_eq];omega
 ·rw [if_neg (by omega),if_neg (by omega),if_pos k,wEb,hD,if_pos (by unfold inB;rw [decide_eq_true_eq];omega),show wAo=some () from rfl,hD]
  unfold wDs
  rw [if_pos a,wAb (by omega) (by omega),wEb,hD,hD]
  congr 1
  unfold inB;rw [decide_eq_true_eq];omega
 ·rw [if_neg (by omega),if_neg (by omega),if_neg (by omega),if_pos k,wEb,hD,if_pos (by unfold inB;rw [decide_eq_true_eq];omega),show wAo=some () from rfl,hD]
  unfold wDd
  rw [if_pos a,wAb (by omega) (by omega),wEb,hD,hD]
  congr 1
  unfold inB;rw [decide_eq_true_eq];omega
theorem wKo {l:List wAC} {f:wAC->Option Bool} {p:wAC->Bool} (hf:∀ a ∈ l,f a=some (p a)) (hn:l.length <= 1000):wBs l f=some (l.all p):=by
 unfold wBs
 refine (wFu (R:=Bool) (p:=p) (z:=false) (K:=fun _=>some true) (fun a ha=>?_) (by omega)).trans ?_
 ·rw [hf a ha,hD];split <;> rfl
 ·split <;> simp_all
theorem wIR {l:List wAC} (hl:l.length <= 1000):wAp l=some l.reverse:=by
 unfold wAp
 exact wMa (by omega)
end Go.Proofs.YtlnfbjphfoipaaaGreat
namespace Go.Proofs.YtlnfbjphfoipaaaGreat
open Go.KL Go.KL.Net
open Classical
theorem wLs {r:wAA} (S:wCt r) {x:wAC} (hk:0 <= x.Kind/\x.Kind <= 3) (h:¬ wBB r x):wAv r x=some false:=by
 have hn:=S.n;have hm:=S.m;have hc:=S.c;have hq:=S.q
 have h0:¬ _:=fun a=>h (.inl a)
 have h1:¬ _:=fun a=>h (.inr (.inl a))
 have h2:¬ _:=fun a=>h (.inr (.inr (.inl a)))
 have h3:¬ _:=fun a=>h (.inr (.inr (.inr a)))
 have kin:inB x.Kind 0 3=true:=by unfold inB;rw [decide_eq_true_eq];omega
 unfold wAv
 by_cases k0:x.Kind=0
 ·rw [if_pos k0,wEb,hD,if_pos kin,show wAo=some () from rfl,hD]
  unfold wDq
  rw [wAb (by omega) (by omega),wEb,hD]
  by_cases c:inB x.Skier 0 ((r.Starts.length:Int) - 1)=true
  ·rw [if_pos c,hD]
   unfold inB at c
   rw [decide_eq_true_eq] at c
   rw [decide_eq_false (fun e=>h0 ⟨k0,by omega,by omega,e⟩)]
  ·rw [if_neg c,hD]
 rw [if_neg k0]
 by_cases k1:x.Kind=1
 ·rw [if_pos k1,wEb,hD,if_pos kin,show wAo=some () from rfl,hD]
  unfold wDr
  rw [wAb (by omega) (by omega),wEb,hD]
  by_cases c:inB x.Skier 0 ((r.Starts.length:Int) - 1)=true
  ·rw [if_pos c,wAb (by omega) (by omega),wEb,hD,hD]
   unfold inB at c ⊢
   rw [decide_eq_true_eq] at c
   rw [decide_eq_false (fun e=>h1 ⟨k1,by omega,by omega,by omega,by omega⟩)]
  ·rw [if_neg c,hD]
 rw [if_neg k1]
 by_cases k2:x.Kind=2
 ·rw [if_pos k2,wEb,hD,if_pos kin,show wAo=some () from rfl,hD]
  unfold wDs
  by_cases c:x.Skier=0
  ·rw [if_pos c,wAb (by omega) (by omega),wEb,hD,hD]
   unfold inB
   rw [decide_eq_false (fun e=>h2 ⟨k2,c,by omega,by omega⟩)]
  ·rw [if_neg c,hD]
 have k3:x.Kind=3:=by omega
 rw [if_neg k2,if_pos k3,wEb,hD,if_pos kin,show wAo=some () from rfl,hD]
 unfold wDd
 by_cases c:x.Skier=0
 ·rw [if_pos c,wAb (by omega) (by omega),wEb,hD,hD]
  unfold inB
  rw [decide_eq_false (fun e=>h3 ⟨k3,c,by omega,by omega⟩)]
 ·rw [if_neg c,hD]
end Go.Proofs.YtlnfbjphfoipaaaGreat
namespace Go.Proofs.YtlnfbjphfoipaaaGreat
open Go.KL Go.KL.Net
open Classical
structure CI (n:Nat) (es:List wAX) (p:Bool) (t i:Nat) (far by_:List Int) (T U:Nat->Nat) (s:Nat):Prop where
 fl:far.length=n
 bl:by_.length=n
 tl:∀ v,v < n->T v <= t
 ul:∀ v,v < n->U v <= s
 ro:∀ v,v < n->(gd by_ v=-1/\T v=0) \/ ∃ k,k < es.length/\gd by_ v=(k:Int)/\(ed p (gd es k)).b=v/\T v <= T (ed p (gd es k)).a + 1/\gd far (ed p (gd es k)).a + (ed p (gd es k)).c <= gd far v/\(U v <= U (ed p (gd es k)).a->gd far (ed p (gd es k)).a + (ed p (gd es k)).c < gd far v)
 re:∀ j,j < es.length->(gd far (ed p (gd es j)).a < 1125899906842624->gd far (ed p (gd es j)).b <= gd far (ed p (gd es j)).a + (ed p (gd es j)).c) \/ (if j < i then t else t - 1) <= T (ed p (gd es j)).a
theorem wNo {n:Nat} {es:List wAX} {p:Bool} {t i:Nat} {far by_:List Int} {T U:Nat->Nat} {s:Nat} (I:CI n es p t i far by_ T U s) (hi:i < es.length) (ha:(ed p (gd es i)).a < n) (hb:(ed p (gd es i)).b < n) (c:gd far (ed p (gd es i)).a < 1125899906842624/\gd far (ed p (gd es i)).a + (ed p (gd es i)).c < gd far (ed p (gd es i)).b) (ends:∀ j,j < es.length->(ed p (gd es j)).a < n/\(ed p (gd es j)).b < n) :
  CI n es p t (i + 1) (far.set (ed p (gd es i)).b (gd far (ed p (gd es i)).a + (ed p (gd es i)).c)) (by_.set (ed p (gd es i)).b (i:Int)) (fun v=>if v=(ed p (gd es i)).b then t else T v) (fun v=>if v=(ed p (gd es i)).b then s + 1 else U v) (s + 1):=by
 obtain ⟨fl,bl,tl,ul,ro,re⟩:=I
 have hre:=re i hi
 generalize hE:ed p (gd es i)=E at *
 obtain ⟨c1,c2⟩:=c
 have gf:∀ u,gd (far.set E.b (gd far E.a + E.c)) u=if u=E.b then gd far E.a + E.c else gd far u:=fun u=>by
  by_cases hu:u < n
  ·rw [wFW (by omega) (by omega)]
  ·rw [if_neg (by omega)]
   unfold gd
   simp only [kF,nt]
   rw [if_neg (by omega)]
 have gb:∀ u,u < n->gd (by_.set E.b (i:Int)) u=if u=E.b then (i:Int) else gd by_ u:=fun u hu=>by rw [wFW (by omega) (by omega)]
 have ht:t <= T E.a + 1:=by
  rcases hre with h | h
  ·have:=h c1;omega
  ·rw [if_neg (by omega)] at h;omega
 refine ⟨by simpa using fl,by simpa using bl,fun v hv=>?_,fun v hv=>?_,fun v hv=>?_,fun j hj=>?_⟩
 ·have:=tl v hv
  try simp only
  split <;> omega
 ·have:=ul v hv
  try simp only
  split <;> omega
 ·rw [gb v hv]
  by_cases e:v=E.b
  ·right
   refine ⟨i,hi,by rw [if_pos e],by rw [hE,e],?_,?_,?_⟩
   ·rw [hE];try simp only
    rw [if_pos e];split <;> omega
   ·rw [hE,gf,gf,if_pos e];split
    ·rename_i h;rw [h] at c2 ⊢;omega
    ·omega
   ·rw [hE,gf,gf,if_pos e];try simp only
    rw [if_pos e]
    have:=ul E.a ha
    by_cases h:E.a=E.b
    ·rw [if_pos h];intro _;rw [h] at c2 ⊢;omega
    ·rw [if_neg h];intro _;omega
  ·rcases ro v hv with ⟨q1,q2⟩ | ⟨k,hk,q1,q2,q3,q4,q5⟩
   ·left
    refine ⟨by rw [if_neg e];exact q1,?_⟩
    try simp only
    rw [if_neg e];exact q2
   ·right
    have:=tl v hv
    refine ⟨k,hk,by rw [if_neg e];exact q1,q2,?_,?_,?_⟩
    ·try simp only
     rw [if_neg e];split <;> omega
    ·rw [gf,gf,if_neg e];split
     ·rename_i h;rw [h] at q4;omega
     ·exact q4
    ·rw [gf,gf,if_neg e];try simp only
     rw [if_neg e];split
     ·rename_i h;rw [h] at q4;intro _;omega
     ·exact q5
 ·have hT:=tl (ed p (gd es j)).a (ends j hj).1
  rw [gf,gf]
  try simp only
  by_cases h1:(ed p (gd es j)).a=E.b
  ·right
   rw [if_pos h1];split <;> omega
  ·rw [if_neg h1,if_neg h1]
   by_cases h2:j=i
   ·left
    subst h2
    rw [hE] at h1 ⊢
    rw [if_pos rfl]
    intro _;exact nu _
   ·rcases re j hj with h | h
    ·left
     intro h3
     have:=h h3
     split
     ·rename_i h4;rw [h4] at this;omega
     ·exact this
    ·right
     split at h <;> split <;> omega
theorem wNp {n:Nat} {es:List wAX} {p:Bool} {t i:Nat} {far by_:List Int} {T U:Nat->Nat} {s:Nat} (I:CI n es p t i far by_ T U s) (c:¬ (gd far (ed p (gd es i)).a < 1125899906842624/\gd far (ed p (gd es i)).a + (ed p (gd es i)).c < gd far (ed p (gd es i)).b)):CI n es p t (i + 1) far by_ T U s:=by
 obtain ⟨fl,bl,tl,ul,ro,re⟩:=I
 refine ⟨fl,bl,tl,ul,ro,fun j hj=>?_⟩
 by_cases h2:j=i
 ·left
  subst h2
  intro h
  have:¬ _:=fun h'=>c ⟨h,h'⟩
  omega
 ·rcases re j hj with h | h
  ·exact .inl h
  ·right
   split at h <;> split <;> omega
theorem wNq {n:Nat} {es:List wAX} (hes:∀ e ∈ es,wML n e) (hl:es.length <= 1000) (p:Bool) {far by_:List Int} {t:Nat} {T U:Nat->Nat} {s0:Nat} (I:CI n es p t es.length far by_ T U s0) {M:Int} (hM:M <= 900000000000000) (h0:0 <= M) (hr:∀ v,v < n->gd far v=1125899906842624 \/ (-M <= gd far v/\gd far v <= M)) {s:SS} (e:wCF 0 (↑es.length:Int) (spB es p) (far,by_,-1)=some s) :
  ∃ T' U' s',CI n es p (t + 1) es.length s.1 s.2.1 T' U' s'/\(s.2.2=-1 \/ ∃ v,v < n/\s.2.2=(v:Int)/\T' v=t + 1):=by
 rw [wCo (by omega)] at e
 have ends:∀ j,j < es.length->(ed p (gd es j)).a < n/\(ed p (gd es j)).b < n:=fun j hj=>by
  obtain ⟨a1,a2,a3,a4,_,_⟩:=hes _ (wCl hj)
  unfold ed
  split <;> (simp only;omega)
 obtain ⟨s',e',P⟩:=wDh (body:=spB es p) (fun (j:Nat) s=>(∃ T' U' s',CI n es p (t + 1) j s.1 s.2.1 T' U' s'/\(s.2.2=-1 \/ ∃ v,v < n/\s.2.2=(v:Int)/\T' v=t + 1))/\∀ v,v < n->gd s.1 v=1125899906842624 \/ (-(M + 400000 * (j:Int)) <= gd s.1 v/\gd s.1 v <= M + 400000 * (j:Int))) es.length 0 (far,by_,-1) ⟨⟨T,U,s0,⟨I.fl,I.bl,fun v hv=>by have:=I.tl v hv;omega,I.ul,I.ro,fun j hj=>by
   rcases I.re j hj with h | h
   ·exact .inl h
   ·right;rw [if_pos hj] at h;rw [if_neg (by omega)];omega⟩,.inl rfl⟩,fun v hv=>by simpa using hr v hv⟩ (by
  rintro j ⟨f,b,la⟩ _ hj ⟨⟨T',U',s',J,lst⟩,rg⟩
  simp only at J lst rg
  have hj':j < es.length:=by omega
  obtain ⟨ha,hb,e2⟩:=wKM hes (p:=p) (k:=j) hj' (last:=la) J.fl J.bl (M:=M + 400000 * (j:Int)) (by omega) (by omega) rg
  have hok:=hes _ (wCl hj')
  have hc:-400000 <= (ed p (gd es j)).c/\(ed p (gd es j)).c <= 400000:=by
   have:=hok.c0;have:=hok.c1
   unfold ed
   split <;> exact ⟨by assumption,by assumption⟩
  have rj:=rg (ed p (gd es j)).a ha
  by_cases c:gd f (ed p (gd es j)).a < 1125899906842624/\gd f (ed p (gd es j)).a + (ed p (gd es j)).c < gd f (ed p (gd es j)).b
  ·rw [if_pos c] at e2
   refine ⟨_,e2,⟨_,_,_,wNo J hj' ha hb c ends,.inr ⟨_,hb,rfl,by simp⟩⟩,fun v hv=>?_⟩
   simp only
   have hfl:=J.fl
   rw [wFW (by omega) (by omega)]
   have:=rg v hv
   split <;> omega
  ·rw [if_neg c] at e2
   refine ⟨_,e2,⟨T',U',s',wNp J c,lst⟩,fun v hv=>?_⟩
   have:=rg v hv
   simp only
   omega)
 rw [e'] at e
 cases e
 obtain ⟨h,_⟩:=P
 simpa using h
end Go.Proofs.YtlnfbjphfoipaaaGreat
namespace Go.Proofs.YtlnfbjphfoipaaaGreat
open Go.KL Go.KL.Net
open Classical
theorem wLt {d:wAg} {n:Nat} (hn:d.number.length=n) (h1:1 <= n) (h2:n <= 500) (hes:∀ e ∈ d.edges,wML n e) (hl:d.edges.length <= 1000) (i:Int) (p:Bool) {f:wAf} {last:Int} (e:wAh d i p=some (f,last,false)):∃ T U s,CI n d.edges p (n + 1) d.edges.length f.far f.by_ T U s/\∃ v,v < n/\last=(v:Int)/\T v=n + 1:=by
 unfold wAh at e
 rw [hn,wFM _ h1 (by omega),hD,wFM _ h1 (by omega),hD,hD] at e
 simp only at e
 obtain ⟨z,e1,y1,y2⟩:=wJs (n:=n) i (l:=hJ n 1125899906842624) (by simp) (by omega) (fun v hv=>by rw [wHd (by simpa using hv)];simp)
 rw [e1,hD,wAb (by omega) (by omega)] at e
 have hn1:((n:Int) + 1)=((n + 1:Nat):Int):=by omega
 rw [hn1,wDx (by omega)] at e
 have gm:∀ v,v < n->gd (hJ n (-1:Int)) v=-1:=fun v hv=>by rw [wHd (by simpa using hv)];simp
 have I0:CI n d.edges p 0 d.edges.length z (hJ n (-1)) (fun _=>0) (fun _=>0) 0:=⟨y1,by simp,fun _ _=>nG _,fun _ _=>nG _,fun v hv=>.inl ⟨gm v hv,rfl⟩,fun j hj=>.inr (by rw [if_pos hj];exact nG _)⟩
 rcases wHO (B:=wAf × Int × Bool) (body:=fun (k1336:Nat) ((l1333,l1334,x1335):SS) =>
  (wCF 0 (↑d.edges.length:Int) (spB d.edges p) (l1333,l1334,-1)).bind fun (y1380,y1381,y1382) =>
  if y1382 < 0 then
   esc (some ((⟨y1380,y1381⟩:wAf),0,true))
  else
   some (.inl (y1380,y1381,y1382))) (fun (t:Nat) s=>(∃ T U s',CI n d.edges p t d.edges.length s.1 s.2.1 T U s'/\(t=0 \/ ∃ v,v < n/\s.2.2=(v:Int)/\T v=t))/\∀ v,v < n->gd s.1 v=1125899906842624 \/ (-(400000000 * (t:Int)) <= gd s.1 v/\gd s.1 v <= 400000000 * (t:Int))) (fun b=>b.2.2=true) (n + 1) 0 (z,hJ n (-1),-1)
  ⟨⟨_,_,_,I0,.inl rfl⟩,fun v hv=>by simp only;rw [y2 v hv];unfold wHB;split <;> omega⟩ (by
   rintro t ⟨far,by_,la⟩ _ ht ⟨⟨T,U,s',J,_⟩,rg⟩
   simp only at J rg
   obtain ⟨⟨far',by',last'⟩,e2,P⟩:=wJr hes hl p J.fl J.bl (M:=400000000 * (t:Int)) (by omega) (by omega) rg
   obtain ⟨T',U',s'',J2,lst⟩:=wNq hes hl p J (M:=400000000 * (t:Int)) (by omega) (by omega) rg e2
   simp only at J2 lst ⊢
   rw [e2,hD]
   simp only
   by_cases c:last' < 0
   ·right
    rw [if_pos c]
    exact ⟨_,rfl,rfl⟩
   ·left
    rw [if_neg c]
    refine ⟨_,rfl,⟨T',U',s'',J2,.inr (lst.resolve_left (by omega))⟩,fun v hv=>?_⟩
    show gd far' v=_ \/ (_ <= gd far' v/\gd far' v <= _)
    rcases P.rg v hv with q | q
    ·exact .inl q
    ·right;simp only at q;omega) with ⟨⟨far,by_,la⟩,e2,⟨T,U,s',J,hv⟩,_⟩ | ⟨⟨f2,la,o⟩,e2,I⟩
 ·have e:jn (forN (B:=wAf × Int × Bool) (fun (k1336:Nat) ((l1333,l1334,x1335):SS) =>
  (wCF 0 (↑d.edges.length:Int) (spB d.edges p) (l1333,l1334,-1)).bind fun (y1380,y1381,y1382) =>
  if y1382 < 0 then
   esc (some ((⟨y1380,y1381⟩:wAf),0,true))
  else
   some (.inl (y1380,y1381,y1382))) (n + 1) 0 (z,hJ n (-1),-1)) (fun (a,b,c)=>some ((⟨a,b⟩:wAf),c,false))=some (f,last,false):=e
  rw [e2] at e
  cases e
  rw [nU] at J hv
  exact ⟨T,U,s',J,hv.resolve_left (by omega)⟩
 ·have e:jn (forN (B:=wAf × Int × Bool) (fun (k1336:Nat) ((l1333,l1334,x1335):SS) =>
  (wCF 0 (↑d.edges.length:Int) (spB d.edges p) (l1333,l1334,-1)).bind fun (y1380,y1381,y1382) =>
  if y1382 < 0 then
   esc (some ((⟨y1380,y1381⟩:wAf),0,true))
  else
   some (.inl (y1380,y1381,y1382))) (n + 1) 0 (z,hJ n (-1),-1)) (fun (a,b,c)=>some ((⟨a,b⟩:wAf),c,false))=some (f,last,false):=e
  rw [e2] at e
  cases e
  simp only at I
  cases I
theorem wPD {P:Nat->Prop} (h:∃ m,P m):∃ m,P m/\∀ k,k < m->¬ P k:=by
 obtain ⟨m,hm⟩:=h
 induction m using Nat.strongRecOn with
 | ind m ih =>
  by_cases c:∃ k,k < m/\P k
  ·obtain ⟨k,h1,h2⟩:=c
   exact ih k h1 h2
  ·exact ⟨m,hm,fun k h1 h2=>c ⟨k,h1,h2⟩⟩
def bk (es:List wAX) (by_:List Int) (v:Nat):Nat:=(gd es (gd by_ v).toNat).from_.toNat
def bkN (es:List wAX) (by_:List Int):Nat->Nat->Nat
 | 0,v=>v
 | k + 1,v=>bkN es by_ k (bk es by_ v)
theorem wFl {es:List wAX} {by_:List Int}:∀ (a b v:Nat),bkN es by_ (a + b) v=bkN es by_ b (bkN es by_ a v)
 | 0,b,v=>by rw [nU];rfl
 | a + 1,b,v=>by rw [show a + 1 + b=(a + b) + 1 by omega];exact wFl a b _
theorem wIm {es:List wAX} {by_:List Int} (k v:Nat):bkN es by_ (k + 1) v=bk es by_ (bkN es by_ k v):=wFl k 1 v
structure Rnd (n:Nat) (es:List wAX) (far by_:List Int) (P m:Nat):Prop where
 lt:∀ k,k <= m->bkN es by_ k P < n
 on:∀ k,k < m->∃ j,j < es.length/\gd by_ (bkN es by_ k P)=(j:Int)/\(gd es j).to_.toNat=bkN es by_ k P/\(gd es j).from_.toNat=bkN es by_ (k + 1) P
 m1:1 <= m
 mn:m <= n
 cl:bkN es by_ m P=P
 no:∀ k,1 <= k->k < m->bkN es by_ k P ≠ P
theorem Rnd.sum {n:Nat} {es:List wAX} {far by_:List Int} {t:Nat} {T U:Nat->Nat} {s P m:Nat} (R:Rnd n es far by_ P m) (I:CI n es false t es.length far by_ T U s):∀ k,k <= m ->
  gd far (bkN es by_ k P) + ((nN k).map fun j=>(gd es (gd by_ (bkN es by_ j P)).toNat).count).sum <= gd far P /\
  ((∃ j,j < k/\U (bkN es by_ j P) <= U (bkN es by_ (j + 1) P))->gd far (bkN es by_ k P) + ((nN k).map fun j=>(gd es (gd by_ (bkN es by_ j P)).toNat).count).sum < gd far P):=by
 intro k
 induction k with
 | zero=>exact fun _=>⟨by simp [bkN],fun ⟨_,h,_⟩=>by omega⟩
 | succ k ih =>
  intro hk
  obtain ⟨i1,i2⟩:=ih (by omega)
  obtain ⟨j,hj,q1,q2,q3⟩:=R.on k (by omega)
  rw [List.range_succ,nJ,List.sum_append,nV,kJ,List.sum_cons,List.sum_nil,q1,nD]
  rcases I.ro _ (R.lt k (by omega)) with ⟨r1,_⟩ | ⟨j',hj',r1,r2,r3,r4,r5⟩
  ·omega
  ·have:j'=j:=by omega
   subst this
   have ea:(ed false (gd es j')).a=bkN es by_ (k + 1) P:=q3
   have ec:(ed false (gd es j')).c=(gd es j').count:=rfl
   rw [ea,ec] at r4 r5
   refine ⟨by omega,fun ⟨x,hx,hx2⟩=>?_⟩
   by_cases c:x=k
   ·subst c
    have:=r5 hx2
    omega
   ·have:=i2 ⟨x,by omega,hx2⟩
    omega
theorem Rnd.neg {n:Nat} {es:List wAX} {far by_:List Int} {t:Nat} {T U:Nat->Nat} {s P m:Nat} (R:Rnd n es far by_ P m) (I:CI n es false t es.length far by_ T U s):((nN m).map fun j=>(gd es (gd by_ (bkN es by_ j P)).toNat).count).sum < 0:=by
 have h:=(R.sum I m (nG _)).2
 rw [R.cl] at h
 have:=h (by
  apply Classical.byContradiction
  intro no
  have dec:∀ k,k <= m->U (bkN es by_ k P) + k <= U P:=by
   intro k
   induction k with
   | zero=>exact fun _=>nG _
   | succ k ih =>
    intro hk
    have:=ih (by omega)
    have:¬ U (bkN es by_ k P) <= U (bkN es by_ (k + 1) P):=fun h=>no ⟨k,by omega,h⟩
    omega
  have:=dec m (nG _)
  rw [R.cl] at this
  have:=R.m1
  omega)
 omega
theorem wPE {n:Nat} {es:List wAX} (hes:∀ e ∈ es,wML n e) {far by_:List Int} {T U:Nat->Nat} {s:Nat} (I:CI n es false (n + 1) es.length far by_ T U s) {v:Nat} (hv:v < n) (hT:T v=n + 1):(∀ k,k <= n->bkN es by_ k v < n/\∃ j,j < es.length/\gd by_ (bkN es by_ k v)=(j:Int))/\∃ m,Rnd n es far by_ (bkN es by_ n v) m:=by
 have lnk:∀ u,u < n->1 <= T u->∃ j,j < es.length/\gd by_ u=(j:Int)/\(gd es j).to_.toNat=u/\(gd es j).from_.toNat=bk es by_ u/\bk es by_ u < n/\T u <= T (bk es by_ u) + 1:=by
  intro u hu h
  rcases I.ro u hu with ⟨_,r⟩ | ⟨j,hj,r1,r2,r3,_⟩
  ·omega
  ·have e:(gd es j).from_.toNat=bk es by_ u:=by unfold bk;rw [r1,nD]
   have ea:(ed false (gd es j)).a=bk es by_ u:=e
   rw [ea] at r3
   obtain ⟨a1,a2,_⟩:=hes _ (wCl hj)
   exact ⟨j,hj,r1,r2,e,by omega,r3⟩
 have down:∀ k,k <= n->bkN es by_ k v < n/\n + 1 <= T (bkN es by_ k v) + k:=by
  intro k
  induction k with
  | zero=>exact fun _=>⟨hv,by show n + 1 <= T v + 0;omega⟩
  | succ k ih =>
   intro hk
   obtain ⟨h1,h2⟩:=ih (by omega)
   obtain ⟨_,_,_,_,_,h3,h4⟩:=lnk _ h1 (by omega)
   rw [wIm]
   exact ⟨h3,by omega⟩
 refine ⟨fun k hk=>?_,?_⟩
 ·obtain ⟨h1,h2⟩:=down k hk
  obtain ⟨j,hj,e,_⟩:=lnk _ h1 (by omega)
  exact ⟨h1,j,hj,e⟩
 ·have hn1:1 <= n:=by omega
  obtain ⟨i,j,hij,hj,e⟩:=wIl (n - 1) (fun k=>if k <= n then bkN es by_ k v else 0) (fun k hk=>by
   show (if k <= n then bkN es by_ k v else 0) <= n - 1
   split
   ·rename_i h
    have:=(down k h).1
    omega
   ·omega)
  replace e:(if i <= n then bkN es by_ i v else 0)=(if j <= n then bkN es by_ j v else 0):=e
  rw [if_pos (by omega),if_pos (by omega)] at e
  have closed:bkN es by_ (j - i) (bkN es by_ n v)=bkN es by_ n v:=by
   rw [<- wFl,show n + (j - i)=j + (n - i) by omega,wFl,<- e,<- wFl,show i + (n - i)=n by omega]
  have ex:∃ m,1 <= m/\m <= j - i/\bkN es by_ m (bkN es by_ n v)=bkN es by_ n v:=⟨j - i,by omega,nG _,closed⟩
  obtain ⟨m,⟨m1,m2,m3⟩,mm⟩:∃ m,(1 <= m/\m <= j - i/\bkN es by_ m (bkN es by_ n v)=bkN es by_ n v)/\∀ k,k < m->¬ (1 <= k/\k <= j - i/\bkN es by_ k (bkN es by_ n v)=bkN es by_ n v):=wPD ex
  have back:∀ k,k <= j - i->bkN es by_ k (bkN es by_ n v)=bkN es by_ (n - (j - i) + k) v:=by
   intro k _
   have h1:bkN es by_ n v=bkN es by_ (n - (j - i)) v:=by
    rw [show n=j + (n - j) by omega,wFl,<- e,<- wFl]
    congr 1
    omega
   rw [h1,<- wFl]
  refine ⟨m,fun k hk=>?_,fun k hk=>?_,m1,by omega,m3,fun k h1 h2 h3=>mm k h2 ⟨h1,by omega,h3⟩⟩
  ·rw [back k (by omega)]
   exact (down _ (by omega)).1
  ·rw [wIm,back k (by omega)]
   obtain ⟨h1,h2⟩:=down (n - (j - i) + k) (by omega)
   obtain ⟨j',q1,q2,q3,q4,_⟩:=lnk _ h1 (by omega)
   exact ⟨j',q1,q2,q3,q4⟩
end Go.Proofs.YtlnfbjphfoipaaaGreat
namespace Go.Proofs.YtlnfbjphfoipaaaGreat
open Go.KL Go.KL.Net
open Classical
section
variable {r:wAA} {d:wAg} {pts:List Pt} (D:Desk r d pts)
include D
theorem wNr {f:wAf} {n v:Nat} (hn:n <= 500) (hb:f.by_.length=pts.length) (h:∀ k,k <= n->bkN d.edges f.by_ k v < pts.length/\∃ j,j < d.edges.length/\gd f.by_ (bkN d.edges f.by_ k v)=(j:Int)) :
    wCF 0 (↑n:Int) (fun k100 x99 =>
          (chk x99 f.by_.length).bind fun _ =>
          (idx d.edges (gd f.by_ x99.toNat)).bind fun x129 =>
          some x129.from_) (v:Int)=some (bkN d.edges f.by_ n v:Int):=by
  rw [wCo (by omega)]
  obtain ⟨s,e,P⟩:=wDh (body:=fun (k100:Nat) (x99:Int) =>
          (chk x99 f.by_.length).bind fun _ =>
          (idx d.edges (gd f.by_ x99.toNat)).bind fun x129 =>
          some x129.from_) (fun (k:Nat) (s:Int)=>s=(bkN d.edges f.by_ k v:Int)) n 0 (v:Int) rfl (by
    rintro k s _ hk rfl
    obtain ⟨h1,j,hj,h2⟩:=h k (by omega)
    rw [wDm (by omega) (by omega),hD,nD,h2,wCB hj,hD]
    obtain ⟨x,hx,e1,e2,_⟩:=D.edge hj
    refine ⟨_,rfl,?_⟩
    rw [wIm]
    unfold bk
    rw [h2,nD]
    omega)
  rw [e,P,nU]
theorem wKp {f:wAf} {P m:Nat} (hb:f.by_.length=pts.length) (R:Rnd pts.length d.edges f.far f.by_ P m) {g:Int->Option Bool} (hg:∀ v:Nat,g (v:Int)=some (decide (v=P))):∀ (c k:Nat) (out:List wAC) (F:Nat),k + c=m->out.length=k->c < F ->
  wCL F (bkN d.edges f.by_ k P:Int) f out g d ()=some (out ++ (nN c).map fun j=>(gd d.edges (gd f.by_ (bkN d.edges f.by_ (k + j) P)).toNat).step):=by
 have hmn:=R.mn
 have hp:=D.len.2
 intro c
 induction c with
 | zero =>
  intro k out F hk ho hF
  obtain ⟨G,rfl⟩:∃ G,F=G + 1:=⟨F - 1,by omega⟩
  have e0:bkN d.edges f.by_ k P=P:=by rw [show k=m by omega];exact R.cl
  obtain ⟨j,hj,q1,_⟩:=R.on 0 R.m1
  have q1:gd f.by_ P=(j:Int):=q1
  have lt:P < pts.length:=R.lt 0 (Nat.zero_le _)
  have:=R.m1
  show wAm _ _ _ _ _ _ _=_
  unfold wAm
  rw [e0,wCB (by omega),hD,q1,if_neg (by omega),if_pos (by omega),hg,decide_eq_true rfl,hD,hD,if_pos rfl]
  simp
 | succ c ih =>
  intro k out F hk ho hF
  obtain ⟨G,rfl⟩:∃ G,F=G + 1:=⟨F - 1,by omega⟩
  obtain ⟨j,hj,q1,q2,q3⟩:=R.on k (by omega)
  have lt:=R.lt k (by omega)
  obtain ⟨x,hx,e1,e2,e3,e4⟩:=D.edge hj
  show wAm _ _ _ _ _ _ _=_
  unfold wAm
  have cond:((idx f.by_ (bkN d.edges f.by_ k P:Int)).bind fun x7=>if x7 < 0 then some true else if 0 < (↑out.length:Int) then (g (bkN d.edges f.by_ k P:Int)).bind fun x20=>some x20 else some false)=some false:=by
   rw [wCB (by omega),hD,q1,if_neg (by omega)]
   split
   ·rw [hg,hD,decide_eq_false (R.no k (by omega) (by omega))]
   ·rfl
  rw [cond,hD,if_neg (by simp),wCB (by omega),hD,q1,wCB hj,hD,wFV (by simp only [nB,ni];omega),hD]
  have:=ih (k + 1) (out ++ [(gd d.edges j).step]) G (by omega) (by simp only [nI,nB,ni];omega) (by omega)
  rw [show ((bkN d.edges f.by_ (k + 1) P:Nat):Int)=(gd d.edges j).from_ by omega] at this
  rw [this,hD,List.range_succ_eq_map,nV,nH,List.map_map]
  simp only [Nat.add_zero]
  rw [q1,nD,List.singleton_append]
  congr 3
  apply ka
  intro i _
  simp only [Function.comp_def]
  rw [show k + 1 + i=k + (i + 1) by omega]
theorem wNs {far by_:List Int} {P m:Nat} (R:Rnd pts.length d.edges far by_ P m):∀ k,k <= m->Fol r (gd pts (bkN d.edges by_ k P)) ((nN k).map fun j=>(gd d.edges (gd by_ (bkN d.edges by_ j P)).toNat).step).reverse (gd pts P) ((nN k).map fun j=>(gd d.edges (gd by_ (bkN d.edges by_ j P)).toNat).count).sum:=by
 intro k
 induction k with
 | zero=>exact fun _=>⟨rfl,rfl⟩
 | succ k ih =>
  intro hk
  have i1:=ih (by omega)
  obtain ⟨j,hj,q1,q2,q3⟩:=R.on k (by omega)
  obtain ⟨x,hx,e1,e2,e3,e4⟩:=D.edge hj
  obtain ⟨o1,o2,_,_⟩:=wCm D.c hx
  have p1:=(D.pos_ok o1).2.1
  have p2:=(D.pos_ok o2).2.1
  rw [List.range_succ,nJ,nJ,List.reverse_append,List.sum_append,nV,nV,kJ,kJ,List.sum_cons,List.sum_nil,q1,nD,e1]
  have hf:bkN d.edges by_ (k + 1) P=pos pts (wBy r x).1:=by omega
  have ht:bkN d.edges by_ k P=pos pts (wBy r x).2.1:=by omega
  rw [hf,p1]
  rw [ht,p2] at i1
  refine ⟨hx,rfl,?_⟩
  rw [e4]
  have e5:∀ s:Int,s + ((wBy r x).2.2 + 0) - (wBy r x).2.2=s:=fun s=>by omega
  rw [e5]
  exact i1
end
theorem wLu {r:wAA} (S:wCt r) (c:code r=0):((∃ y,wEN r y)->wCd r=some ([],6))/\((¬ ∃ y,wEN r y)->∃ l p s,wCd r=some (l,0)/\Fol r p l p s/\s < 0/\1 <= l.length/\l.length <= 69):=by
 rcases wIk S with ⟨h,_⟩ | ⟨_,d,pts,e,D⟩
 ·exact absurd c h
 obtain ⟨f,last,ok,e1,fl,bl,h1,_,h2⟩:=D.any
 unfold wCd
 rw [e,hD]
 simp only
 rw [if_pos trivial,e1,hD]
 simp only
 refine ⟨fun hy=>by rw [h1.2 hy,if_pos rfl],fun hy=>?_⟩
 have hok:ok=false:=by
  cases ok with
  | false=>rfl
  | true=>exact absurd (h1.1 rfl) hy
 subst hok
 rw [if_neg (by simp),D.nlen]
 obtain ⟨T,U,s,I,v,hv,rfl,hT⟩:=wLt D.nlen D.len.1 (by have:=D.len.2;omega) D.edOK D.elen (-1) false e1
 obtain ⟨w1,m,R⟩:=wPE D.edOK I hv hT
 have hp:=D.len.2
 have hm:=R.mn
 have h69:=wNE D
 rw [wNr D (by omega) bl w1,hD]
 unfold wCe
 have:=wKp D bl R (g:=fun x=>wCc x (bkN d.edges f.by_ pts.length v:Int)) (fun u=>by
  show wCc (u:Int) _=_
  unfold wCc
  by_cases h:u=bkN d.edges f.by_ pts.length v
  ·rw [decide_eq_true h,h,decide_eq_true rfl]
  ·rw [decide_eq_false h,decide_eq_false (fun h'=>h (by omega))]) m 0 [] 1000 (by omega) rfl (by omega)
 have z0:∀ u,bkN d.edges f.by_ 0 u=u:=fun _=>rfl
 rw [z0] at this
 rw [this,hD,kA,wIR (by simp;omega),hD,hD]
 have F:=wNs D R m (nG _)
 rw [R.cl] at F
 simp only [nU]
 have:=R.m1
 exact ⟨_,_,_,rfl,F,R.neg I,by simp;omega,by simp;omega⟩
end Go.Proofs.YtlnfbjphfoipaaaGreat
namespace Go.Proofs.YtlnfbjphfoipaaaGreat
open Go.KL Go.KL.Net
open Classical
theorem wMd {r:wAA} (S:wCt r) {a b:wAM} (c:wGC r [a,b]=0) {f:Pt->Int} (hf:IsDP r (pt a) f):∃ l,wDe r a b=some (l,0)/\Fol r (pt a) l (pt b) (f (pt b))/\l.length <= 80:=by
 unfold wDe
 obtain ⟨o,e,h0,_⟩:=wKW S (l:=[a,b]) (by simp)
 obtain ⟨d,pts,rfl,D⟩:=h0 c
 obtain ⟨C,_,hs,hy⟩:=err0 c
 simp only [kW,List.all_nil,Bool.and_true,nc] at hs
 have ha:=(wGS (r:=r) (s:=a) hs.1).1
 have hb:=(wGS (r:=r) (s:=b) hs.2).1
 obtain ⟨g,last,e1,n1,G⟩:=D.from_ hy ha
 obtain ⟨y,F⟩:=id hy
 have I:=wLp D.nlen D.len.1 (by have:=D.len.2;omega) D.edOK D.elen (pos pts (pt a):Int) false (D.feas F) e1
 have pa:=D.pos_ok ha
 have pb:=D.pos_ok hb
 have eda:∀ e:wAX,ed false e=⟨e.from_.toNat,e.to_.toNat,e.count⟩:=fun e=>rfl
 have near:∀ v,v < pts.length->gd g.far v < 1125899906842624:=fun v hv=>by
  have h:=(G.near C ha (D.gd_ok hv).1).2
  rw [(D.gd_ok hv).2] at h
  omega
 have tight:∀ (k:Nat) (v:Nat),k < d.edges.length->v < pts.length->gd g.by_ v=(k:Int)->(gd d.edges k).to_=(v:Int)->gd g.far (pos pts (gd pts v))=gd g.far (pos pts (gd pts (gd d.edges k).from_.toNat)) + (gd d.edges k).count:=fun k v hk hv h1 h2=>by
  obtain ⟨x,hx,e1,e2,e3,e4⟩:=D.edge hk
  obtain ⟨o1,o2,_,_⟩:=wCm C hx
  have p1:=D.pos_ok o1
  have p2:=D.pos_ok o2
  have le:=G.ok x hx
  rcases I.pa v hv with ⟨q,_⟩ | ⟨k',_,q1,_,q2,_⟩
  ·omega
  ·have:k'=k:=by omega
   subst this
   rw [eda] at q2
   simp only at q2
   rw [(D.gd_ok hv).2,e2,nD,p1.2.1,e4]
   rw [e2,nD,e4] at q2
   have hv2:v=pos pts (wBy r x).2.1:=by omega
   rw [hv2] at q2 ⊢
   omega
 have way:∀ v,Up (par d.edges false g.by_) v->v < pts.length->∃ l,Way (pos pts (pt a)) d.edges g.by_ v l:=by
  intro v h
  induction h with
  | @root v h =>
   intro hv
   rcases I.pa v hv with ⟨q1,q2⟩ | ⟨k,_,q1,_⟩
   ·have:=near v hv
    unfold wHB at q2
    split at q2
    ·rename_i t
     rcases t with t | t
     ·omega
     ·have:v=pos pts (pt a):=by omega
      subst this
      exact ⟨[],.root q1⟩
    ·omega
   ·unfold par at h
    rw [if_pos ⟨by rw [I.bl];exact hv,by omega⟩] at h
    cases h
  | @step v x h _ ih =>
   intro hv
   unfold par at h
   split at h
   ·rename_i t
    cases h
    rcases I.pa v hv with ⟨q1,_⟩ | ⟨k,hk,q1,q2,_⟩
    ·omega
    ·rw [q1,nD] at ih
     have q:=D.edOK _ (wCl hk)
     rw [eda] at q2 ih
     simp only at q2 ih
     obtain ⟨l,w⟩:=ih (by have:=q.f0;have:=q.f1;omega)
     exact ⟨k :: l,.step hk q1 q2 w⟩
   ·cases h
 obtain ⟨l,w⟩:=way _ (I.up _ pb.1) pb.1
 have hl:=w.len D.edOK pb.1
 have h69:=wNE D
 have fol:=wNn D ha (y:=fun p=>gd g.far (pos pts p)) tight w pb.1
 refine ⟨l.reverse.map fun k=>(gd d.edges k).step,?_,?_,by simp;omega⟩
 ·rw [e,hD]
  simp only
  rw [if_pos c]
  unfold wCp
  rw [hD,hD]
  show ((wAh d (wBP d.number (pt a) 0) false).bind _)=_
  rw [pa.2.2,e1,hD]
  simp only
  rw [hD]
  rw [show wBP d.number (⟨a.Skier,a.Mat⟩:wAH) 0=(pos pts (pt a):Int) from pa.2.2,show wBP d.number (⟨b.Skier,b.Mat⟩:wAH) 0=(pos pts (pt b):Int) from pb.2.2]
  unfold wCe
  rw [wLq D (by rw [I.bl]) (fun v _ hv=>by unfold wDT;rw [decide_eq_false (by omega)]) w [] 1000 pb.1 (by simp;omega) (by omega),hD,kA,wIR (by simp;omega),hD,hD,List.map_reverse]
 ·have h1:=G.one hf hb
  have h2:=G.zero
  rw [pb.2.1,h2,Int.sub_zero] at fol
  rwa [h1] at fol
end Go.Proofs.YtlnfbjphfoipaaaGreat
namespace Go.Proofs.YtlnfbjphfoipaaaGreat
noncomputable section
open Go.KL Go.KL.Net
open Classical
def fw (r:wAA):Pt->Int->List wAC->Option (Pt × Int)
 | p,t,[]=>some (p,t)
 | p,t,x :: l=>if (wBy r x).1=p then fw r (wBy r x).2.1 (t + (wBy r x).2.2) l else none
theorem wLv {r:wAA}:∀ {l:List wAC} {p q:Pt} {t s:Int},Fol r p l q s->fw r p t l=some (q,t + s)
 | [],p,q,t,s,⟨h1,h2⟩=>by rw [fw,h1,h2,Int.add_zero]
 | x :: l,p,q,t,s,⟨_,h2,h3⟩=>by
  rw [fw,if_pos h2,wLv h3]
  congr 2
  omega
theorem wNt {r:wAA} (C:RC r):∀ {l:List wAC} {p:Pt} {t:Int} {q:Pt} {s:Int},(∀ x ∈ l,wBB r x)->wFG r p->fw r p t l=some (q,s)->wFG r q
 | [],_,_,_,_,_,hp,h=>by rw [fw] at h;cases h;exact hp
 | x :: l,p,t,q,s,hx,hp,h=>by
  rw [fw] at h
  split at h
  ·exact wNt C (fun y hy=>hx y (.tail _ hy)) (wCm C (hx x (.head _))).2.1 h
  ·cases h
def wHe (r:wAA) (x:wAC):Bool:=decide (wBB r x)
theorem wLw {r:wAA} (S:wCt r) (x:wAC):wAv r x=some (wHe r x):=by
 unfold wHe
 by_cases h:wBB r x
 ·rw [decide_eq_true h];exact wLr S h
 ·rw [decide_eq_false h]
  by_cases hk:0 <= x.Kind/\x.Kind <= 3
  ·exact wLs S hk h
  ·unfold wAv
   rw [if_neg (by omega),if_neg (by omega),if_neg (by omega),if_neg (by omega),wEb,hD,if_neg (by unfold inB;rw [decide_eq_false hk];simp)]
def chS (r:wAA) (l:List wAC):Int:=if 80 < l.length then 2 else if l.all (wHe r)=true then 0 else 1
theorem wIS {r:wAA} (S:wCt r) {l:List wAC} (hl:l.length <= 1000):wCI r l=some (chS r l):=by
 unfold wCI chS
 by_cases h:80 < l.length
 ·rw [if_pos (by omega),if_pos h]
 ·rw [if_neg (by omega),if_neg h,wKo (p:=wHe r) (fun x _=>wLw S x) hl,hD]
  by_cases c:l.all (wHe r)=true
  ·rw [if_pos c,if_pos c]
  ·rw [if_neg c,if_neg c]
theorem wKX {r:wAA} {l:List wAC} (h:chS r l=0):l.length <= 80/\∀ x ∈ l,wBB r x:=by
 unfold chS at h
 split at h
 ·omega
 ·rename_i h1
  split at h
  ·rename_i h2
   exact ⟨by omega,fun x hx=>of_decide_eq_true (nb.1 h2 x hx)⟩
  ·omega
theorem wNF {r:wAA} {l:List wAC} (h1:l.length <= 80) (h2:∀ x ∈ l,wBB r x):chS r l=0:=by
 unfold chS
 rw [if_neg (by omega),if_pos (show l.all (wHe r)=true from nb.2 fun x hx=>decide_eq_true (h2 x hx))]
theorem wJS {r:wAA} (C:RC r) {l:List wAC} (hl:l.length <= 100) (hs:∀ x ∈ l,wBB r x) (p:Pt):∃ p',wCS r p l=some (match fw r p 0 l with | some (q,s)=>(q,s,true) | none=>(p',0,false)):=by
 unfold wCS
 rw [wDx (by omega)]
 have key:∀ (m k:Nat) (p:Pt) (t:Int),k + m=l.length->-400000 * (k:Int) <= t->t <= 400000 * (k:Int)->∃ p':Pt,forN (B:=wAH × Int × Bool) (fun (k27:Nat) ((x24,x25,x26):Int × Int × Int) =>
  (idx l (↑k27:Int)).bind fun x50 =>
  (wBW r x50).bind fun (x69,x70,x71) =>
  if x69=(⟨x24,x25⟩:wAH) then
   some (.inl (x70.skier,x70.mat,w64 (x26 + x71)))
  else
   esc (some ((⟨x24,x25⟩:wAH),0,false))) m k (p.skier,p.mat,t)=some (match fw r p t (l.drop k) with | some (q,s)=>.inl (q.skier,q.mat,s) | none=>.inr (p',0,false)):=by
  intro m
  induction m with
  | zero =>
   intro k p t hk _ _
   refine ⟨p,?_⟩
   rw [nf (by omega)]
   rfl
  | succ m ih =>
   intro k p t hk h1 h2
   have hk':k < l.length:=by omega
   have hx:=hs _ (wCl hk')
   have c:=(wCm C hx).2.2
   have e:=wIh C hx
   rw [wLf hk',fw]
   generalize wBy r (gd l k)=L at e c
   obtain ⟨L1,L2,L3⟩:=L
   simp only at c
   rw [forN,wCB hk']
   simp only [hD,e]
   by_cases f2:L1=p
   ·rw [if_pos (by rw [f2]),if_pos f2,wAb (by omega) (by omega)]
    exact ih (k + 1) L2 (t + L3) (by omega) (by omega) (by omega)
   ·rw [if_neg (fun h=>f2 (h.trans rfl)),if_neg f2]
    exact ⟨p,rfl⟩
 obtain ⟨p',h⟩:=key l.length 0 p 0 (by omega) (by omega) (by omega)
 refine ⟨p',?_⟩
 erw [h]
 rw [List.drop_zero]
 cases fw r p 0 l with
 | none=>rfl
 | some v=>rfl
def prS (r:wAA) (a b:wAM) (l:List wAC):Int × Int :=
 if code r=0 then (if wFO r a=true then (if wFO r b=true then (if chS r l=0 then (match fw r (pt a) 0 l with | some (q,s)=>if q=pt b then (s,0) else (0,8) | none=>(0,8)) else (0,chS r l)) else (0,1)) else (0,1)) else (0,code r)
theorem wLx {r:wAA} (S:wCt r) (a b:wAM) {l:List wAC} (hl:l.length <= 1000):wDl r a b l=some (prS r a b l):=by
 unfold wDl prS
 rw [wHC S,hD]
 by_cases c:code r=0
 ·rw [if_pos c,if_pos c,wIj S,hD,show (inB a.Skier 0 ((r.Starts.length:Int) - 1) && inB a.Mat 0 r.Splits.length)=wFO r a from rfl]
  by_cases ha:wFO r a=true
  ·rw [if_pos ha,if_pos ha,wIj S,hD,show (inB b.Skier 0 ((r.Starts.length:Int) - 1) && inB b.Mat 0 r.Splits.length)=wFO r b from rfl]
   by_cases hb:wFO r b=true
   ·rw [if_pos hb,if_pos hb,wIS S hl,hD]
    by_cases hc:chS r l=0
    ·obtain ⟨h1,h2⟩:=wKX hc
     obtain ⟨p',e⟩:=wJS (wFk c) (by omega) h2 (pt a)
     rw [if_pos hc,if_pos hc,show wCp a=some (pt a) from rfl,hD,e,hD]
     cases fw r (pt a) 0 l with
     | none=>rfl
     | some v =>
      obtain ⟨q,s⟩:=v
      show (if (⟨q.skier,q.mat⟩:wAH)=pt b then some (s,0) else some (0,8))=some (if q=pt b then (s,0) else (0,8))
      by_cases h:q=pt b
      ·rw [if_pos h,if_pos h]
      ·rw [if_neg h,if_neg h]
    ·rw [if_neg hc,if_neg hc]
   ·rw [if_neg hb,if_neg hb]
  ·rw [if_neg ha,if_neg ha]
 ·rw [if_neg c,if_neg c]
def rfS (r:wAA) (l:List wAC):Int × Int :=
 if code r=0 then (if chS r l=0 then (match l with
  | []=>(0,8)
  | x :: l=>match fw r (wBy r x).1 0 (x :: l) with | some (q,s)=>if q=(wBy r x).1/\s < 0 then (s,0) else (0,8) | none=>(0,8)) else (0,chS r l)) else (0,code r)
theorem wKq {r:wAA} (S:wCt r) {l:List wAC} (hl:l.length <= 1000):wDS r l=some (rfS r l):=by
 unfold wDS rfS
 rw [wHC S,hD]
 by_cases c:code r=0
 ·rw [if_pos c,if_pos c,wIS S hl,hD]
  by_cases hc:chS r l=0
  ·rw [if_pos hc,if_pos hc]
   obtain ⟨h1,h2⟩:=wKX hc
   match l,h1,h2 with
   | [],_,_=>rfl
   | x :: l,h1,h2 =>
    have e1:=wIh (wFk c) (h2 x (.head _))
    obtain ⟨p',e⟩:=wJS (wFk c) (by omega) h2 (wBy r x).1
    rw [if_neg (by simp only [nB];omega),show idx (x :: l) 0=some x from rfl,hD,e1,hD,hD]
    simp only
    rw [show (⟨(wBy r x).1.skier,(wBy r x).1.mat⟩:wAH)=(wBy r x).1 from rfl,e,hD]
    cases fw r (wBy r x).1 0 (x :: l) with
    | none=>rfl
    | some v =>
     obtain ⟨q,s⟩:=v
     simp only [if_true]
     by_cases h:q=(wBy r x).1
     ·rw [if_pos h]
      by_cases h3:0 <= s
      ·rw [if_pos h3,if_neg (by omega)]
      ·rw [if_neg h3,if_pos ⟨h,by omega⟩]
     ·rw [if_neg h,if_neg fun h3=>h h3.1]
  ·rw [if_neg hc,if_neg hc]
 ·rw [if_neg c,if_neg c]
end
end Go.Proofs.YtlnfbjphfoipaaaGreat
namespace Go.KL.Floyd
open Go.KL
def mx (t:List (List Int)) (a b:Nat):Int:=gd (gd t a) b
structure Mx (n:Nat) (t:List (List Int)):Prop where
 rows:t.length=n
 cols:∀ a,a < n->(gd t a).length=n
theorem Mx.put {n:Nat} {t:List (List Int)} (M:Mx n t) {i j:Nat} (hi:i < n) (hj:j < n) (v:Int):Mx n (hH t i (hH (gd t i) j v))/\∀ a b,a < n->b < n->mx (hH t i (hH (gd t i) j v)) a b=if a=i/\b=j then v else mx t a b:=by
 have hr:=M.rows
 have hg:∀ a,a < n->gd (hH t i (hH (gd t i) j v)) a=if a=i then hH (gd t i) j v else gd t a:=fun a ha=>wFW (by omega) (by omega)
 refine ⟨⟨by simp [hr],fun a ha=>?_⟩,fun a b ha hb=>?_⟩
 ·rw [hg a ha]
  split
  ·rw [nP];exact M.cols i hi
  ·exact M.cols a ha
 ·unfold mx
  rw [hg a ha]
  by_cases e:a=i
  ·subst e
   rw [if_pos rfl,wFW (by rw [M.cols a ha];omega) (by rw [M.cols a ha];omega)]
   by_cases e2:b=j
   ·rw [if_pos e2,if_pos ⟨rfl,e2⟩]
   ·rw [if_neg e2,if_neg (fun h=>e2 h.2)]
  ·rw [if_neg e,if_neg (fun h=>e h.1)]
theorem wKY:∀ (k:Nat) (l:List Nat),l.Nodup->(∀ j ∈ l,j < k)->l.length <= k
 | 0,l,_,h=>by
  cases l with
  | nil=>exact nG _
  | cons a l=>have:=h a (by simp);omega
 | k + 1,l,nd,h=>by
  have h1:=wKY k (l.erase k) (nd.erase k) fun j hj=>by
   have:=(nd.mem_erase_iff).1 hj
   have:=h j this.2
   omega
  have h2:l.length <= (l.erase k).length + 1:=by
   rw [List.length_erase]
   split <;> omega
  omega
def upd (y:List (List Int)) (k a b:Nat):Int:=if mx y a k < 1125899906842624/\mx y k b < 1125899906842624/\mx y a k + mx y k b < mx y a b then max (mx y a k + mx y k b) (-1125899906842624) else mx y a b
def cB (k561 k587:Nat):Nat->List (List Int)->Option (List (List Int)):=fun k632 l631 =>
                    (chk (↑k587:Int) l631.length).bind fun _ =>
                    (chk (↑k561:Int) (gd l631 k587).length).bind fun _ =>
                    if (gd (gd l631 k587) k561) < 1125899906842624 then
                      (chk (↑k561:Int) l631.length).bind fun _ =>
                      (chk (↑k632:Int) (gd l631 k561).length).bind fun _ =>
                      if (gd (gd l631 k561) k632) < 1125899906842624 then
                        (chk (↑k632:Int) (gd l631 k587).length).bind fun _ =>
                        if (w64 ((gd (gd l631 k587) k561) + (gd (gd l631 k561) k632))) < (gd (gd l631 k587) k632) then
                          some (hH l631 k587 (hH (gd l631 k587) k632 (max (w64 ((gd (gd l631 k587) k561) + (gd (gd l631 k561) k632))) (-1125899906842624))))
                        else
                          some l631
                      else
                        some l631
                    else
                      some l631
structure Rnd (n k:Nat) (y s:List (List Int)) (i j:Nat):Prop where
 m:Mx n s
 un:∀ a b,a < n->b < n->¬ (a < i \/ (a=i/\b < j))->mx s a b=mx y a b
 lo:∀ a b,a < n->b < n->-1125899906842624 <= mx s a b
 le:∀ a b,a < n->b < n->mx s a b <= mx y a b
 fe:∀ x:Nat->Int,(∀ a b,a < n->b < n->x b - x a <= mx y a b)->∀ a b,a < n->b < n->x b - x a <= mx s a b
 fo:0 <= mx y k k->∀ a b,a < n->b < n->(a < i \/ (a=i/\b < j))->mx s a b=upd y k a b
theorem wMe {y:List (List Int)} {k a:Nat} (h:0 <= mx y k k):upd y k a k=mx y a k/\upd y k k a=mx y k a:=by
 unfold upd
 constructor
 ·rw [if_neg (by omega)]
 ·rw [if_neg (by omega)]
theorem wMf {n k:Nat} {y s:List (List Int)} {i j:Nat} (hk:k < n) (hi:∀ a b,a < n->b < n->mx y a b <= 1125899906842624) (R:Rnd n k y s i j) (h1:i < n) (h2:j < n):∃ s',cB k i j s=some s'/\Rnd n k y s' i (j + 1):=by
 have hr:=R.m.rows
 have ci:=R.m.cols i h1
 have ck:=R.m.cols k hk
 have b1:mx s i k <= 1125899906842624:=ng (R.le i k h1 hk) (hi i k h1 hk)
 have b2:mx s k j <= 1125899906842624:=ng (R.le k j hk h2) (hi k j hk h2)
 have b3:=R.lo i k h1 hk
 have b4:=R.lo k j hk h2
 have hw:w64 ((gd (gd s i) k) + (gd (gd s k) j))=mx s i k + mx s k j:=wAb (by show _ <= mx s i k + mx s k j;omega) (by show mx s i k + mx s k j <= _;omega)
 have e:cB k i j s=some (if mx s i k < 1125899906842624/\mx s k j < 1125899906842624/\mx s i k + mx s k j < mx s i j then hH s i (hH (gd s i) j (max (mx s i k + mx s k j) (-1125899906842624))) else s):=by
  unfold cB
  rw [wDm (by omega) (by omega),hD,wDm (by omega) (by omega),hD,hw]
  by_cases c1:mx s i k < 1125899906842624
  ·rw [if_pos (show gd (gd s i) k < 1125899906842624 from c1),wDm (by omega) (by omega),hD,wDm (by omega) (by omega),hD]
   by_cases c2:mx s k j < 1125899906842624
   ·rw [if_pos (show gd (gd s k) j < 1125899906842624 from c2),wDm (by omega) (by omega),hD]
    by_cases c3:mx s i k + mx s k j < mx s i j
    ·rw [if_pos (show mx s i k + mx s k j < gd (gd s i) j from c3),if_pos ⟨c1,c2,c3⟩]
    ·rw [if_neg (show ¬ mx s i k + mx s k j < gd (gd s i) j from c3),if_neg (fun h=>c3 h.2.2)]
   ·rw [if_neg (show ¬ gd (gd s k) j < 1125899906842624 from c2),if_neg (fun h=>c2 h.2.1)]
  ·rw [if_neg (show ¬ gd (gd s i) k < 1125899906842624 from c1),if_neg (fun h=>c1 h.1)]
 have hij:mx s i j=mx y i j:=R.un i j h1 h2 (by omega)
 have hnew:0 <= mx y k k->(if mx s i k < 1125899906842624/\mx s k j < 1125899906842624/\mx s i k + mx s k j < mx s i j then max (mx s i k + mx s k j) (-1125899906842624) else mx s i j)=upd y k i j:=fun h0=>by
  have e1:mx s i k=mx y i k:=by
   by_cases d:i < i \/ (i=i/\k < j)
   ·rw [R.fo h0 i k h1 hk d,(wMe h0).1]
   ·exact R.un i k h1 hk d
  have e2:mx s k j=mx y k j:=by
   by_cases d:k < i \/ (k=i/\j < j)
   ·rw [R.fo h0 k j hk h2 d,(wMe h0).2]
   ·exact R.un k j hk h2 d
  rw [e1,e2,hij]
  rfl
 rw [e]
 by_cases c:mx s i k < 1125899906842624/\mx s k j < 1125899906842624/\mx s i k + mx s k j < mx s i j
 ·rw [if_pos c]
  rw [if_pos c] at hnew
  obtain ⟨m',hg⟩:=R.m.put h1 h2 (max (mx s i k + mx s k j) (-1125899906842624))
  refine ⟨_,rfl,m',fun a b ha hb hd=>?_,fun a b ha hb=>?_,fun a b ha hb=>?_,fun x hx a b ha hb=>?_,fun h0 a b ha hb hd=>?_⟩
  ·rw [hg a b ha hb,if_neg (by omega)]
   exact R.un a b ha hb (by omega)
  ·rw [hg a b ha hb]
   have:=R.lo a b ha hb
   split <;> omega
  ·rw [hg a b ha hb]
   have:=R.lo i j h1 h2
   split
   ·rename_i h
    rw [h.1,h.2,<- hij]
    omega
   ·exact R.le a b ha hb
  ·rw [hg a b ha hb]
   have f1:=R.fe x hx i k h1 hk
   have f2:=R.fe x hx k j hk h2
   split
   ·rename_i h
    rw [h.1,h.2]
    omega
   ·exact R.fe x hx a b ha hb
  ·rw [hg a b ha hb]
   split
   ·rename_i h
    rw [h.1,h.2]
    exact hnew h0
   ·exact R.fo h0 a b ha hb (by omega)
 ·rw [if_neg c]
  rw [if_neg c] at hnew
  refine ⟨_,rfl,R.m,fun a b ha hb hd=>R.un a b ha hb (by omega),R.lo,R.le,R.fe,fun h0 a b ha hb hd=>?_⟩
  by_cases h:a=i/\b=j
  ·rw [h.1,h.2];exact hnew h0
  ·exact R.fo h0 a b ha hb (by omega)
def rB (n k:Nat):List (List Int)->Option (List (List Int)):=fun l560=>(wCF 0 (n:Int) (fun k587 l586 =>
                  (wCF 0 (n:Int) (cB k k587) l586).bind fun y637 =>
                  some y637) l560).bind fun y592=>some y592
theorem wMg {n k:Nat} (hn:n <= 1000) (hk:k < n) {y:List (List Int)} (M:Mx n y) (lo:∀ a b,a < n->b < n->-1125899906842624 <= mx y a b) (hi:∀ a b,a < n->b < n->mx y a b <= 1125899906842624):∃ s,rB n k y=some s/\Rnd n k y s n 0:=by
 unfold rB
 rw [wCo (by omega)]
 obtain ⟨s,g1,g2⟩:=wDh (body:=fun k587 l586=>(wCF 0 (n:Int) (cB k k587) l586).bind fun y637=>some y637) (fun i s=>Rnd n k y s i 0) n 0 y ⟨M,fun _ _ _ _ _=>rfl,lo,fun _ _ _ _=>nu _,fun _ hx=>hx,fun _ a b _ _ h=>by omega⟩ (by
  intro i s _ hi' R
  rw [wCo (by omega)]
  obtain ⟨t,g1,g2⟩:=wDh (body:=cB k i) (fun j s=>Rnd n k y s i j) n 0 s R (fun j s _ hj R=>wMf hk hi R (by omega) (by omega))
  refine ⟨t,by rw [g1];rfl,g2.m,fun a b ha hb hd=>g2.un a b ha hb (by omega),g2.lo,g2.le,g2.fe,fun h0 a b ha hb hd=>g2.fo h0 a b ha hb (by omega)⟩)
 rw [nU] at g2
 exact ⟨s,by rw [g1];rfl,g2⟩
structure Fl (n:Nat) (y0 t:List (List Int)) (k:Nat):Prop where
 m:Mx n t
 lo:∀ a b,a < n->b < n->-1125899906842624 <= mx t a b
 le:∀ a b,a < n->b < n->mx t a b <= mx y0 a b
 fe:∀ x:Nat->Int,(∀ a b,a < n->b < n->x b - x a <= mx y0 a b)->∀ a b,a < n->b < n->x b - x a <= mx t a b
 tri:(∀ a,a < n->0 <= mx t a a)->∀ j,j < k->∀ a b,a < n->b < n->mx t a j < 1125899906842624->mx t j b < 1125899906842624->mx t a b <= mx t a j + mx t j b
 wit:(∀ a,a < n->0 <= mx t a a)->∀ a b,a < n->b < n->mx t a b < 1125899906842624->∃ l:List Nat,l.Nodup/\(∀ j ∈ l,j < k/\mx t a j < 1125899906842624/\mx t j b < 1125899906842624/\mx t a j + mx t j b <= mx t a b)/\-(400000 * ((l.length:Int) + 1)) <= mx t a b/\mx t a b <= 400000 * ((l.length:Int) + 1)
theorem Fl.fin {n:Nat} (hn:n <= 1000) {y0 t:List (List Int)} {k:Nat} (hk:k <= n) (F:Fl n y0 t k) (h0:∀ a,a < n->0 <= mx t a a) {a b:Nat} (ha:a < n) (hb:b < n) (h:mx t a b < 1125899906842624):-400400000 <= mx t a b/\mx t a b <= 400400000:=by
 obtain ⟨l,nd,hl,l1,l2⟩:=F.wit h0 a b ha hb h
 have:=wKY k l nd fun j hj=>(hl j hj).1
 omega
theorem wNu {n:Nat} (hn:n <= 1000) {y0 t s:List (List Int)} {k:Nat} (hk:k < n) (F:Fl n y0 t k) (hi0:∀ a b,a < n->b < n->mx y0 a b <= 1125899906842624) (R:Rnd n k t s n 0):Fl n y0 s (k + 1):=by
 refine ⟨R.m,R.lo,fun a b ha hb=>ng (R.le a b ha hb) (F.le a b ha hb),fun x hx=>R.fe x (F.fe x hx),fun h0=>?_,fun h0=>?_⟩ <;> (
  have ht:∀ a,a < n->0 <= mx t a a:=fun a ha=>ng (h0 a ha) (R.le a a ha ha)
  have T:=F.tri ht
  have B:∀ a b,a < n->b < n->mx t a b < 1125899906842624->-400400000 <= mx t a b/\mx t a b <= 400400000:=fun a b ha hb h=>F.fin hn (by omega) ht ha hb h
  have E:∀ a b,a < n->b < n->mx s a b=upd t k a b:=fun a b ha hb=>R.fo (ht k hk) a b ha hb (by omega)
  have up:∀ a b,a < n->b < n->mx t a k < 1125899906842624->mx t k b < 1125899906842624->mx s a b <= mx t a k + mx t k b:=fun a b ha hb g1 g2=>by
   rw [E a b ha hb]
   have:=B a k ha hk g1
   have:=B k b hk hb g2
   unfold upd
   split <;> omega
  have cs:∀ a b,a < n->b < n->mx s a b=mx t a b \/ (mx t a k < 1125899906842624/\mx t k b < 1125899906842624/\mx s a b=mx t a k + mx t k b/\mx s a b < mx t a b):=fun a b ha hb=>by
   rw [E a b ha hb]
   unfold upd
   split
   ·rename_i c
    right
    have:=B a k ha hk c.1
    have:=B k b hk hb c.2.1
    refine ⟨c.1,c.2.1,by omega,by omega⟩
   ·exact .inl rfl
  have loop:∀ j,j < n->mx t j k < 1125899906842624->mx t k j < 1125899906842624->0 <= mx t j k + mx t k j:=fun j hj g1 g2=>ng (h0 j hj) (up j j hj hj g1 g2))
 ·intro j hj a b ha hb g1 g2
  have hjn:j < n:=by omega
  have e1:=cs a j ha hjn
  have e2:=cs j b hjn hb
  by_cases hjk:j=k
  ·subst hjk
   have a1:mx s a j=mx t a j:=by rw [E a j ha hk,(wMe (ht j hk)).1]
   have a2:mx s j b=mx t j b:=by rw [E j b hk hb,(wMe (ht j hk)).2]
   rw [a1] at g1 ⊢
   rw [a2] at g2 ⊢
   exact up a b ha hb g1 g2
  ·have hjk':j < k:=by omega
   rcases e1 with e1 | ⟨p1,p2,p3,_⟩ <;> rcases e2 with e2 | ⟨q1,q2,q3,_⟩
   ·rw [e1] at g1 ⊢
    rw [e2] at g2 ⊢
    exact ng (R.le a b ha hb) (T j hjk' a b ha hb g1 g2)
   ·rw [e1] at g1 ⊢
    have t1:=T j hjk' a k ha hk g1 q1
    have:=B a j ha hjn g1
    have:=B j k hjn hk q1
    have:=up a b ha hb (by omega) q2
    omega
   ·rw [e2] at g2 ⊢
    have t1:=T j hjk' k b hk hb p2 g2
    have:=B k j hk hjn p2
    have:=B j b hjn hb g2
    have:=up a b ha hb p1 (by omega)
    omega
   ·have:=up a b ha hb p1 q2
    have:=loop j hjn q1 p2
    omega
 ·intro a b ha hb g
  rcases cs a b ha hb with e | ⟨p1,p2,p3,p4⟩
  ·rw [e] at g ⊢
   obtain ⟨l,nd,hl,l1,l2⟩:=F.wit ht a b ha hb g
   refine ⟨l,nd,fun j hj=>?_,l1,l2⟩
   obtain ⟨j1,j2,j3,j4⟩:=hl j hj
   have:=R.le a j ha (by omega)
   have:=R.le j b (by omega) hb
   exact ⟨by omega,by omega,by omega,by omega⟩
  ·obtain ⟨l1,n1,h1,u1,v1⟩:=F.wit ht a k ha hk p1
   obtain ⟨l2,n2,h2,u2,v2⟩:=F.wit ht k b hk hb p2
   have dis:∀ j,j ∈ l1->j ∈ l2->False:=fun j m1 m2=>by
    obtain ⟨a1,a2,a3,a4⟩:=h1 j m1
    obtain ⟨b1,b2,b3,b4⟩:=h2 j m2
    have:=T j a1 a b ha hb a2 b3
    have:=loop j (by omega) a3 b2
    omega
   refine ⟨l1 ++ k :: l2,?_,fun j hj=>?_,by rw [nI,nB];omega,by rw [nI,nB];omega⟩
   ·rw [nk,List.nodup_cons]
    refine ⟨n1,⟨fun h=>by have:=(h2 k h).1;omega,n2⟩,fun x hx y hy e=>?_⟩
    subst e
    rcases na.1 hy with rfl | hy
    ·have:=(h1 _ hx).1;omega
    ·exact dis x hx hy
   ·rcases nK.1 hj with hj | hj
    ·obtain ⟨a1,a2,a3,a4⟩:=h1 j hj
     have hjn:j < n:=by omega
     have:=R.le a j ha hjn
     have:=up j b hjn hb a3 p2
     have:=B j k hjn hk a3
     have:=B k b hk hb p2
     exact ⟨by omega,by omega,by omega,by omega⟩
    ·rcases na.1 hj with rfl | hj
     ·have:=R.le a j ha hk
      have:=R.le j b hk hb
      exact ⟨by omega,by omega,by omega,by omega⟩
     ·obtain ⟨b1,b2,b3,b4⟩:=h2 j hj
      have hjn:j < n:=by omega
      have:=R.le j b hjn hb
      have:=up a j ha hjn p1 b2
      have:=B a k ha hk p1
      have:=B k j hk hjn b2
      exact ⟨by omega,by omega,by omega,by omega⟩
theorem wMh {n:Nat} (hn:n <= 1000) {y0:List (List Int)} (M:Mx n y0) (b0:∀ a b,a < n->b < n->mx y0 a b=1125899906842624 \/ (-400000 <= mx y0 a b/\mx y0 a b <= 400000)):∃ t,(wCF 0 (n:Int) (fun k561 l560=>rB n k561 l560) y0)=some t/\Fl n y0 t n:=by
 rw [wCo (by omega)]
 have hi0:∀ a b,a < n->b < n->mx y0 a b <= 1125899906842624:=fun a b ha hb=>by rcases b0 a b ha hb with h | h <;> omega
 obtain ⟨t,g1,g2⟩:=wDh (body:=fun k561 l560=>rB n k561 l560) (fun k t=>Fl n y0 t k) n 0 y0 ⟨M,fun a b ha hb=>by rcases b0 a b ha hb with h | h <;> omega,fun _ _ _ _=>nu _,fun _ hx=>hx,fun _ j hj=>by omega,fun _ a b ha hb h=>⟨[],by simp,(fun j hj=>by cases hj),by rcases b0 a b ha hb with q | q <;> simp <;> omega,by rcases b0 a b ha hb with q | q <;> simp <;> omega⟩⟩ (by
  intro k t _ hk F
  obtain ⟨s,e,R⟩:=wMg hn (k:=k) (by omega) F.m F.lo (fun a b ha hb=>ng (F.le a b ha hb) (hi0 a b ha hb))
  exact ⟨s,e,wNu hn (by omega) F hi0 R⟩)
 rw [nU] at g2
 exact ⟨t,g1,g2⟩
end Go.KL.Floyd
