import Derived.Test.YtlnfbjphfoipaaaGreatU0
import Derived.Lib.AppendZerosOnto
set_option linter.all false
open Option renaming bind_some->hD
open List renaming set->hH,getElem?_eq_getElem->nA,replicate->nB,flatMap->nD,length_cons->nE,getElem?_eq_some_iff->nI,mem_append->nL,map_append->nM,length_append->nN,length_map->nO,getElem?_append_left->nP,append_assoc->nQ,flatMap_cons->nR,length_take->nT,getElem?_append_right->nU,mem_map->nW,range->nY,length_nil->nZ,all_eq_true->na,zipWith->nc,mem_singleton->nh,drop_eq_getElem_cons->ni,mem_of_getElem?->nj,drop_eq_nil_of_le->nk,length_set->nm,mem_cons->nn,nodup_append->nt,length_singleton->nu,perm_middle->nv,cons_append->kA,append_nil->kB,mem_range->kD,mem_cons_self->kF,getElem?_take->kG,all_cons->kH,map_cons->kI,ext_getElem?->kJ,getElem?_set->kK,length_range->kL,pairwise_iff_getElem->kM,ext_getElem->kP,getElem_mem->kQ,getElem?_cons_zero->kS,sum_replicate_nat->kW,mem_append_right->kX,getElem?_eq_none->kZ,length_filter_le->ka,mem_cons_of_mem->kb,mem_append_left->kc,getElem?_of_mem->kd,range_eq_range'->ke,length_zipWith->kf,getElem_of_mem->kg,length_flatMap->kh,append_of_mem->ki,filter_append->km
open Int renaming toNat_of_nonneg->nH,toNat_natCast->nK,le_trans->nX,sub_add_cancel->nr,eq_ofNat_of_zero_le->nw,le_refl->ny,add_comm->kR,lt_or_le->kj,natCast_nonneg->ko
open Nat renaming le_refl->nJ,zero_add->nV,mul_le_mul_right->nq,mul_le_mul->kE,beq->kO,add_mul->kU,one_mul->kV,eq_of_beq_eq_true->kY
open Bool renaming false_eq_true->nS,and_eq_true->nb,not_eq_true'->no,true_and->nz,eq_iff_iff->kT
open Option.some renaming inj->nl,injEq->kq
open Array renaming replicate->kC
open List.Perm renaming trans->kr,refl->ku
open List.cons renaming inj->kv
open Classical renaming em->kx
namespace Go.Proofs.YtlnfbjphfoipaaaGreat
open Go.KL
structure wAN where
 Lo:Int
 Hi:Int
deriving DecidableEq,Inhabited,Repr
structure wAd where
 Offset:wAN
 Error:Int
deriving DecidableEq,Inhabited,Repr
structure wAJ where
 Skier:Int
 Mat:Int
 Clock:Int
 Time:Int
deriving DecidableEq,Inhabited,Repr
structure wAA where
 Starts:List Int
 Splits:List wAN
 Clocks:List wAd
 Readings:List wAJ
deriving DecidableEq,Inhabited,Repr
structure wAL where
 Skier:Int
 Mat:Int
deriving DecidableEq,Inhabited,Repr
structure wAI where
 skier:Int
 mat:Int
deriving DecidableEq,Inhabited,Repr
structure wAH where
 Kind:Int
 Skier:Int
 Index:Int
 Up:Bool
deriving DecidableEq,Inhabited,Repr
structure wAg where
 step:wAH
 from_:Int
 to_:Int
 count:Int
deriving DecidableEq,Inhabited,Repr
structure wAh where
 Race:wAA
 number:List (wAI × Int)
 edges:List wAg
structure wDj where
 far:List Int
 by_:List Int
deriving DecidableEq,Inhabited,Repr
structure wBA where
 Offset:wAN
 Error:Int
deriving DecidableEq,Inhabited,Repr
structure wAn where
 Skier:Int
 Mat:Int
 Clock:Int
 Time:Int
deriving DecidableEq,Inhabited,Repr
structure wAK where
 Starts:List Int
 Splits:List wAN
 Clocks:List wBA
 Readings:List wAn
deriving DecidableEq,Inhabited,Repr
structure wAR where
 Skier:Int
 Mat:Int
deriving DecidableEq,Inhabited,Repr
structure wAU where
 t:List (List Int)
deriving DecidableEq,Inhabited,Repr
def wBs (p0:wAA):Option (Bool) :=
 if 10 < (↑p0.Starts.length:Int) then
  some true
 else
  if 9 < (↑p0.Splits.length:Int) then
   some true
  else
   if 6 < (↑p0.Clocks.length:Int) then
    some true
   else
    some (decide (44 < (↑p0.Readings.length:Int)))
def wBD :Option (wAA) :=
 some (⟨[0,300],[(⟨1000,1200⟩:wAN),(⟨900,1500⟩:wAN)],[(⟨(⟨-5,5⟩:wAN),1⟩:wAd)],[(⟨0,2,0,2250⟩:wAJ),(⟨1,1,0,1400⟩:wAJ),(⟨1,2,0,2499⟩:wAJ)]⟩:wAA)
def wAz (p0:Int) (p1:Int):Option (wAL) :=
 some (⟨p0,p1⟩:wAL)
def wBT (p0:Int) (p1:Int) (p2:Int):Option (Bool) :=
 if p1 <= p0 then
  some (decide (p0 <= p2))
 else
  some false
def wCq (p0:List Int) (p1:(Int->Option Bool)):Option (Bool) :=
 jn (wEw 0 (↑p0.length:Int) (fun k2 _ =>
  (idx p0 (↑k2:Int)).bind fun x22 =>
  (p1 x22).bind fun x30 =>
  if x30=true then
   some (.inl ())
  else
   esc (some false)) ()) fun _ =>
 some true
def wDA (p0:Int):Option (Bool) :=
 (wBT p0 0 360000).bind fun x1 =>
 some x1
def wBq (p0:List wAN) (p1:(wAN->Option Bool)):Option (Bool) :=
 jn (wEw 0 (↑p0.length:Int) (fun k2 _ =>
  (idx p0 (↑k2:Int)).bind fun x22 =>
  (p1 x22).bind fun x37 =>
  if x37=true then
   some (.inl ())
  else
   esc (some false)) ()) fun _ =>
 some true
def wDB (p0:wAN) (p1:Int) (p2:Int):Option (Bool) :=
 if p0.Lo <= p0.Hi then
  if p1 <= p0.Lo then
   some (decide (p0.Hi <= p2))
  else
   some false
 else
  some false
def wDC (p0:wAN):Option (Bool) :=
 (wDB p0 0 360000).bind fun x5 =>
 some x5
def wBZ (p0:List wAd) (p1:(wAd->Option Bool)):Option (Bool) :=
 jn (wEw 0 (↑p0.length:Int) (fun k2 _ =>
  (idx p0 (↑k2:Int)).bind fun x22 =>
  (p1 x22).bind fun x37 =>
  if x37=true then
   some (.inl ())
  else
   esc (some false)) ()) fun _ =>
 some true
def wDD (p0:wAd):Option (Bool) :=
 (wDB p0.Offset (-36000) 36000).bind fun x5 =>
 if x5=true then
  (wBT p0.Error 0 600).bind fun x17 =>
  some x17
 else
  some false
def wAy (p0:List wAJ) (p1:(wAJ->Option Bool)):Option (Bool) :=
 jn (wEw 0 (↑p0.length:Int) (fun k2 _ =>
  (idx p0 (↑k2:Int)).bind fun x22 =>
  (p1 x22).bind fun x37 =>
  if x37=true then
   some (.inl ())
  else
   esc (some false)) ()) fun _ =>
 some true
def wDE (p0:wAJ):Option (Bool) :=
 (wBT p0.Time 0 360000).bind fun x5 =>
 some x5
def wAp (p0:wAA) (p1:wAL):Option (Bool) :=
 (wBT p1.Skier 0 (w64 ((↑p0.Starts.length:Int) - 1))).bind fun x9 =>
 if x9=true then
  (wBT p1.Mat 0 (↑p0.Splits.length:Int)).bind fun x21 =>
  some x21
 else
  some false
def wDF (p0:wAJ) (p1:wAA):Option (Bool) :=
 (wAp p1 (⟨p0.Skier,p0.Mat⟩:wAL)).bind fun x5 =>
 if x5=true then
  (wBT p0.Clock 0 (w64 ((↑p1.Clocks.length:Int) - 1))).bind fun x18 =>
  some x18
 else
  some false
def wCu (p0:wAA):Option (Int) :=
 (wBT (↑p0.Starts.length:Int) 1 8).bind fun x10 =>
 if x10=true then
  if 7 < (↑p0.Splits.length:Int) then
   some 2
  else
   if 4 < (↑p0.Clocks.length:Int) then
    some 2
   else
    if 40 < (↑p0.Readings.length:Int) then
     some 2
    else
     (wCq p0.Starts wDA).bind fun x35 =>
     if x35=true then
      (wBq p0.Splits wDC).bind fun x52 =>
      if x52=true then
       (wBZ p0.Clocks wDD).bind fun x70 =>
       if x70=true then
        (wAy p0.Readings wDE).bind fun x92 =>
        if x92=true then
         (wAy p0.Readings (fun x=>wDF x p0)).bind fun x116 =>
         if x116=true then
          some 0
         else
          some 1
        else
         some 3
       else
        some 3
      else
       some 3
     else
      some 3
 else
  some 2
def wBt :Option (wAI) :=
 some (⟨-1,0⟩:wAI)
def wCU {S E:Type} (f:S->wAH->Option (S ⊕ E)) (s0:S) (p1:wAA):Option (S ⊕ E) :=
 jn (wEw 0 4 (fun k12 s10 =>
  (idx ([1,(↑p1.Splits.length:Int),(↑p1.Clocks.length:Int),(↑p1.Readings.length:Int)]:List Int) (↑k12:Int)).bind fun x33 =>
  (if (↑k12:Int)=2 then
   some (true,s10)
  else
   some (decide ((↑k12:Int)=3),s10)).bind fun (b37,s38) =>
  if b37=true then
   jn (wEw 0 1 (fun k78 s76 =>
    jn (wEw 0 x33 (fun k113 s111 =>
     (f s111 (⟨(↑k12:Int),(↑k78:Int),(↑k113:Int),true⟩:wAH)).bind fun yr141 =>
     match yr141 with
     | .inl s151 =>
      (f s151 (⟨(↑k12:Int),(↑k78:Int),(↑k113:Int),false⟩:wAH)).bind fun yr154 =>
      match yr154 with
      | .inl s164 =>
       some (.inl s164)
      | .inr s164 =>
       esc (esc (esc (some (.inr s164))))
     | .inr s151 =>
      esc (esc (esc (some (.inr s151))))) s76) fun y195 =>
    some (.inl y195)) s38) fun y219 =>
   some (.inl y219)
  else
   jn (wEw 0 (↑p1.Starts.length:Int) (fun k247 s245 =>
    jn (wEw 0 x33 (fun k282 s280 =>
     (f s280 (⟨(↑k12:Int),(↑k247:Int),(↑k282:Int),true⟩:wAH)).bind fun yr310 =>
     match yr310 with
     | .inl s320 =>
      (f s320 (⟨(↑k12:Int),(↑k247:Int),(↑k282:Int),false⟩:wAH)).bind fun yr323 =>
      match yr323 with
      | .inl s333 =>
       some (.inl s333)
      | .inr s333 =>
       esc (esc (esc (some (.inr s333))))
     | .inr s320 =>
      esc (esc (esc (some (.inr s320))))) s245) fun y364 =>
    some (.inl y364)) s38) fun y388 =>
   some (.inl y388)) s0) fun y409 =>
 some (.inl y409)
def wDU (p0:wAA):Option (Unit) :=
 some ()
def wEo (p0:wAA) (p1:wAH):Option (Bool) :=
 (wBT p1.Skier 0 (w64 ((↑p0.Starts.length:Int) - 1))).bind fun x9 =>
 if x9=true then
  some (decide (p1.Index=0))
 else
  some false
def wDx (p0:wAA) (p1:wAH):Option (wAI × wAI) :=
 ((wBt).bind fun x22 =>
 some (x22.skier,x22.mat)).bind fun (x17,x18) =>
 some ((⟨x17,x18⟩:wAI),(⟨p1.Skier,0⟩:wAI))
def wDy (p0:wAA) (p1:wAH):Option (Int × Int) :=
 (idx p0.Starts p1.Skier).bind fun x11 =>
 some (x11,w64 (-x11))
def wEp (p0:wAA) (p1:wAH):Option (Bool) :=
 (wBT p1.Skier 0 (w64 ((↑p0.Starts.length:Int) - 1))).bind fun x9 =>
 if x9=true then
  (wBT p1.Index 0 (w64 ((↑p0.Splits.length:Int) - 1))).bind fun x21 =>
  some x21
 else
  some false
def wDz (p0:wAA) (p1:wAH):Option (wAI × wAI) :=
 (some ()).bind fun _ =>
 some ((⟨p1.Skier,p1.Index⟩:wAI),(⟨p1.Skier,w64 (p1.Index + 1)⟩:wAI))
def wEA (p0:wAA) (p1:wAH):Option (Int × Int) :=
 (idx p0.Splits p1.Index).bind fun x11 =>
 some (x11.Hi,w64 (-x11.Lo))
def wEq (p0:wAA) (p1:wAH):Option (Bool) :=
 if p1.Skier=0 then
  (wBT p1.Index 0 (w64 ((↑p0.Clocks.length:Int) - 1))).bind fun x11 =>
  some x11
 else
  some false
def wDG (p0:Int):Option (wAI) :=
 some (⟨-1,w64 (1 + p0)⟩:wAI)
def wEB (p0:wAA) (p1:wAH):Option (wAI × wAI) :=
 (wBt).bind fun x19 =>
 (wDG p1.Index).bind fun x29 =>
 some (x19,x29)
def wEC (p0:wAA) (p1:wAH):Option (Int × Int) :=
 (idx p0.Clocks p1.Index).bind fun x11 =>
 some (w64 (-x11.Offset.Lo),x11.Offset.Hi)
def wEW (p0:wAA) (p1:wAH):Option (Bool) :=
 if p1.Skier=0 then
  (wBT p1.Index 0 (w64 ((↑p0.Readings.length:Int) - 1))).bind fun x11 =>
  some x11
 else
  some false
def wDl (p0:wAA) (p1:wAH):Option (wAI × wAI) :=
 (idx p0.Readings p1.Index).bind fun x17 =>
 ((wDG x17.Clock).bind fun x36 =>
 some (x36.skier,x36.mat)).bind fun (x31,x32) =>
 some ((⟨x31,x32⟩:wAI),(⟨x17.Skier,x17.Mat⟩:wAI))
def wDm (p0:wAA) (p1:wAH):Option (Int × Int) :=
 (idx p0.Readings p1.Index).bind fun x9 =>
 (idx p0.Clocks x9.Clock).bind fun x25 =>
 some (w64 (x9.Time + x25.Error),w64 (x25.Error - x9.Time))
def wBa :Option (Unit) :=
 some ()
def wBb (p0:wAA) (p1:wAH):Option (wAI × wAI × Int) :=
 if p1.Kind=0 then
  ((wBa).bind fun _ =>
  some ()).bind fun _ =>
  (wDx p0 p1).bind fun (x92,x93) =>
  (wDy p0 p1).bind fun (x113,x114) =>
  if p1.Up=true then
   (some ()).bind fun _ =>
   some (x92,x93,x113)
  else
   some (x93,x92,x114)
 else
  if p1.Kind=1 then
   ((wBa).bind fun _ =>
   some ()).bind fun _ =>
   (wDz p0 p1).bind fun (x251,x252) =>
   (wEA p0 p1).bind fun (x272,x273) =>
   if p1.Up=true then
    (some ()).bind fun _ =>
    some (x251,x252,x272)
   else
    some (x252,x251,x273)
  else
   if p1.Kind=2 then
    ((wBa).bind fun _ =>
    some ()).bind fun _ =>
    (wEB p0 p1).bind fun (x410,x411) =>
    (wEC p0 p1).bind fun (x431,x432) =>
    if p1.Up=true then
     (some ()).bind fun _ =>
     some (x410,x411,x431)
    else
     some (x411,x410,x432)
   else
    if p1.Kind=3 then
     ((wBa).bind fun _ =>
     some ()).bind fun _ =>
     (wDl p0 p1).bind fun (x569,x570) =>
     (wDm p0 p1).bind fun (x590,x591) =>
     if p1.Up=true then
      (some ()).bind fun _ =>
      some (x569,x570,x590)
     else
      some (x570,x569,x591)
    else
     (wBa).bind fun _ =>
     none
def wDV (p0:wAA):Option (wAh) :=
 ((wBt).bind fun x22 =>
 some (wGc ([]:List (wAI × Int)) x22 0)).bind fun l13 =>
 (wDU p0).bind fun _ =>
 (wCU (S:=(List wAg) × (List (wAI × Int))) (E:=Empty) (fun (l1591,l1595) x1616 =>
  (wBb p0 x1616).bind fun (x1652,x1653,x1654) =>
  (wCQ 0 2 (fun k1692 l1689 =>
   (idx ([x1652,x1653]:List wAI) (↑k1692:Int)).bind fun x1718 =>
   if (wKv l1689 x1718)=true then
    some l1689
   else
    some (wGc l1689 x1718 (↑(l1689.length):Int))) l1595).bind fun y1697 =>
  (app 56 l1591 [(⟨x1616,(wBX y1697 x1652 0),(wBX y1697 x1653 0),x1654⟩:wAg)]).bind fun x1773 =>
  some (.inl (x1773,y1697))) ([],l13) p0).bind fun rr1606 =>
 match rr1606 with
 | .inl (y1845,y1846) =>
  some (⟨p0,y1846,y1845⟩:wAh)
 | .inr e1851 =>
  e1851.elim
def wCd (p0:wAA):Option ((Option wAh) × Int) :=
 (wCu p0).bind fun x5 =>
 if x5=0 then
  (wDV p0).bind fun x21 =>
  some ((some x21),0)
 else
  some (none,x5)
def wBK (p0:List wAL) (p1:(wAL->Option Bool)):Option (Bool) :=
 jn (wEw 0 (↑p0.length:Int) (fun k2 _ =>
  (idx p0 (↑k2:Int)).bind fun x22 =>
  (p1 x22).bind fun x37 =>
  if x37=true then
   some (.inl ())
  else
   esc (some false)) ()) fun _ =>
 some true
def wDn (p0 p1:Int):Option (Int × Int):=if 0 <= p0/\p0 < 18446744073709551616/\0 <= p1/\p1 < 18446744073709551616 then some (p0 * p1 / 18446744073709551616,p0 * p1 % 18446744073709551616) else none
def wBL (p0:List Int) (p1:Int):Option ((List Int)) :=
 if p1 < 0 then
  none
 else
  (wDn (wLz (↑p0.length:Int)) (wLz p1)).bind fun (x4,x5) =>
  (if 0 < x4 then
   some true
  else
   some (decide (9223372036854775807 < x5))).bind fun b15 =>
  if b15=true then
   none
  else
   (mkz 8 (w64 x5) (0:Int)).bind fun x35 =>
   (wLF x35 0 p0).bind fun x45 =>
   iter (fun (l58,x59) =>
    if x59 < (↑l58.length:Int) then
     (cut l58 x59 (↑(l58.length):Int)).bind fun x77 =>
     (cut l58 0 x59).bind fun x86 =>
     (wLF l58 x59 x86).bind fun x95 =>
     some (.inl (x95,w64 (x59 + (↑(min x86.length (x77.length)):Int))))
    else
     esc (some l58)) big (x45,(↑(min p0.length (x35.length)):Int))
def wAr (p0:wAh) (p1:Int) (p2:Bool):Option (wDj × Int × Bool) :=
 ((wBL [1125899906842624] (↑(p0.number.length):Int)).bind fun x28 =>
 (wBL [-1] (↑(p0.number.length):Int)).bind fun x51 =>
 some (x28,x51)).bind fun (l9,l12) =>
 (wCQ 0 (↑l9.length:Int) (fun k1254 l1253 =>
  if p1 < 0 then
   (chk (↑k1254:Int) l1253.length).bind fun _ =>
   some (hH l1253 k1254 0)
  else
   if (↑k1254:Int)=p1 then
    (chk (↑k1254:Int) l1253.length).bind fun _ =>
    some (hH l1253 k1254 0)
   else
    some l1253) l9).bind fun y1259 =>
 jn (wEw 0 (w64 ((↑(p0.number.length):Int) + 1)) (fun k1336 (l1333,l1334,x1335) =>
  (wCQ 0 (↑p0.edges.length:Int) (fun k1375 (l1372,l1373,x1374) =>
   ((idx p0.edges (↑k1375:Int)).bind fun x1412 =>
   if p2=true then
    (chk x1412.to_ l1372.length).bind fun _ =>
    if (gd l1372 x1412.to_.toNat) < 1125899906842624 then
     (chk x1412.from_ l1372.length).bind fun _ =>
     if (w64 ((gd l1372 x1412.to_.toNat) + x1412.count)) < (gd l1372 x1412.from_.toNat) then
      ((chk x1412.from_ l1373.length).bind fun _ =>
      some ()).bind fun _ =>
      some ((hH l1372 x1412.from_.toNat (w64 ((gd l1372 x1412.to_.toNat) + x1412.count))),(hH l1373 x1412.from_.toNat (↑k1375:Int)),x1412.from_)
     else
      some (l1372,l1373,x1374)
    else
     some (l1372,l1373,x1374)
   else
    (chk x1412.from_ l1372.length).bind fun _ =>
    if (gd l1372 x1412.from_.toNat) < 1125899906842624 then
     (chk x1412.to_ l1372.length).bind fun _ =>
     if (w64 ((gd l1372 x1412.from_.toNat) + x1412.count)) < (gd l1372 x1412.to_.toNat) then
      ((chk x1412.to_ l1373.length).bind fun _ =>
      some ()).bind fun _ =>
      some ((hH l1372 x1412.to_.toNat (w64 ((gd l1372 x1412.from_.toNat) + x1412.count))),(hH l1373 x1412.to_.toNat (↑k1375:Int)),x1412.to_)
     else
      some (l1372,l1373,x1374)
    else
     some (l1372,l1373,x1374)).bind fun (l1406,l1407,x1408) =>
   some (l1406,l1407,x1408)) (l1333,l1334,-1)).bind fun (y1380,y1381,y1382) =>
  if y1382 < 0 then
   esc (some ((⟨y1380,y1381⟩:wDj),0,true))
  else
   some (.inl (y1380,y1381,y1382))) (y1259,l12,-1)) fun (y1697,y1698,y1699) =>
 some ((⟨y1697,y1698⟩:wDj),y1699,false)
def wAj (p0:wAh):Option (Bool) :=
 (wAr p0 (-1) false).bind fun (x3,x4,x5) =>
 some x5
def wCv (p0:wAA) (p1:List wAL):Option ((Option wAh) × Int) :=
 (wCd p0).bind fun (x5,x6) =>
 match x5 with
 | none =>
  if x6=0 then
   (wBK p1 (fun x=>wAp p0 x)).bind fun x40 =>
   if x40=true then
    none
   else
    some (none,1)
  else
   some (none,x6)
 | some x30 =>
  if x6=0 then
   (wBK p1 (fun x=>wAp p0 x)).bind fun x71 =>
   if x71=true then
    (wAj x30).bind fun x96 =>
    if x96=true then
     some ((some x30),0)
    else
     some (none,7)
   else
    some (none,1)
  else
   some (none,x6)
def wCe (p0:wAL):Option (wAI) :=
 some (⟨p0.Skier,p0.Mat⟩:wAI)
def wBG (p0:wAh) (p1:wAI) (p2:wAI):Option (wAN) :=
 ((wAr p0 (wBX p0.number p1 0) false).bind fun (x26,x27,x28) =>
 some (x26.far,x26.by_)).bind fun (l17,l20) =>
 ((wAr p0 (wBX p0.number p2 0) false).bind fun (x145,x146,x147) =>
 some (x145.far,x145.by_)).bind fun (l131,l134) =>
 (chk (wBX p0.number p1 0) l131.length).bind fun _ =>
 (chk (wBX p0.number p2 0) l17.length).bind fun _ =>
 some (⟨w64 (-(gd l131 (wBX p0.number p1 0).toNat)),(gd l17 (wBX p0.number p2 0).toNat)⟩:wAN)
def wEh (p0:wAA) (p1:wAL):Option (wAN × Int) :=
 (wCv p0 [p1]).bind fun (x27,x28) =>
 match x27 with
 | none =>
  if x28=0 then
   (wBt).bind fun x58 =>
   (wCe p1).bind fun x68 =>
   none
  else
   some ((⟨0,0⟩:wAN),x28)
 | some x52 =>
  if x28=0 then
   (wBt).bind fun x95 =>
   (wCe p1).bind fun x105 =>
   (wBG x52 x95 x105).bind fun x125 =>
   some (x125,0)
  else
   some ((⟨0,0⟩:wAN),x28)
def wGf (p0:wAA) (p1:wAL) (p2:wAL):Option (wAN × Int) :=
 (wCv p0 [p1,p2]).bind fun (x31,x32) =>
 match x31 with
 | none =>
  if x32=0 then
   (wCe p1).bind fun x62 =>
   (wCe p2).bind fun x72 =>
   none
  else
   some ((⟨0,0⟩:wAN),x32)
 | some x56 =>
  if x32=0 then
   (wCe p1).bind fun x99 =>
   (wCe p2).bind fun x109 =>
   (wBG x56 x99 x109).bind fun x129 =>
   some (x129,0)
  else
   some ((⟨0,0⟩:wAN),x32)
def wCf (p0:wAA) (p1:wAH):Option (Bool) :=
 if p1.Kind=0 then
  (wBT p1.Kind 0 3).bind fun x16 =>
  if x16=true then
   (wBa).bind fun _ =>
   (wEo p0 p1).bind fun x45 =>
   some x45
  else
   some false
 else
  if p1.Kind=1 then
   (wBT p1.Kind 0 3).bind fun x67 =>
   if x67=true then
    (wBa).bind fun _ =>
    (wEp p0 p1).bind fun x96 =>
    some x96
   else
    some false
  else
   if p1.Kind=2 then
    (wBT p1.Kind 0 3).bind fun x118 =>
    if x118=true then
     (wBa).bind fun _ =>
     (wEq p0 p1).bind fun x147 =>
     some x147
    else
     some false
   else
    if p1.Kind=3 then
     (wBT p1.Kind 0 3).bind fun x169 =>
     if x169=true then
      (wBa).bind fun _ =>
      (wEW p0 p1).bind fun x198 =>
      some x198
     else
      some false
    else
     (wBT p1.Kind 0 3).bind fun x220 =>
     if x220=true then
      (wBa).bind fun _ =>
      none
     else
      some false
def wCw (p0:List wAH) (p1:(wAH->Option Bool)):Option (Bool) :=
 jn (wEw 0 (↑p0.length:Int) (fun k2 _ =>
  (idx p0 (↑k2:Int)).bind fun x22 =>
  (p1 x22).bind fun x37 =>
  if x37=true then
   some (.inl ())
  else
   esc (some false)) ()) fun _ =>
 some true
def wCx (p0:wAA) (p1:List wAH):Option (Int) :=
 if 80 < (↑p1.length:Int) then
  some 2
 else
  (wCw p1 (fun x=>wCf p0 x)).bind fun x9 =>
  if x9=true then
   some 0
  else
   some 1
def wDN (p0:wAA) (p1:wAI) (p2:List wAH):Option (wAI × Int × Bool) :=
 jn (wEw 0 (↑p2.length:Int) (fun k27 (x24,x25,x26) =>
  (idx p2 (↑k27:Int)).bind fun x50 =>
  (wBb p0 x50).bind fun (x69,x70,x71) =>
  if x69=(⟨x24,x25⟩:wAI) then
   some (.inl (x70.skier,x70.mat,w64 (x26 + x71)))
  else
   esc (some ((⟨x24,x25⟩:wAI),0,false))) (p1.skier,p1.mat,0)) fun (y114,y115,y116) =>
 some ((⟨y114,y115⟩:wAI),y116,true)
def wEy (p0:wAA) (p1:wAL) (p2:wAL) (p3:List wAH):Option (Int × Int) :=
 (wCu p0).bind fun x13 =>
 if x13=0 then
  (wAp p0 p1).bind fun x29 =>
  if x29=true then
   (wAp p0 p2).bind fun x45 =>
   if x45=true then
    (wCx p0 p3).bind fun x64 =>
    if x64=0 then
     ((wCe p1).bind fun x85 =>
     (wDN p0 x85 p3).bind fun (x105,x106,x107) =>
     some (x105.skier,x105.mat,x106,x107)).bind fun (x78,x79,x80,b81) =>
     if b81=true then
      (wCe p2).bind fun x256 =>
      if (⟨x78,x79⟩:wAI)=x256 then
       some (x80,0)
      else
       some (0,8)
     else
      some (0,8)
    else
     some (0,x64)
   else
    some (0,1)
  else
   some (0,1)
 else
  some (0,x13)
def wEz (p0:wAA) (p1:Int):Option ((Option wAh) × Int) :=
 (wCv p0 [(⟨0,p1⟩:wAL)]).bind fun (x19,x20) =>
 match x19 with
 | none =>
  some (none,x20)
 | some x44 =>
  some ((some x44),x20)
def wDY (p0:wAh) (p1:Int):Option ((Arr Int 64)) :=
 (wCQ 0 (↑p0.Race.Starts.length:Int) (fun k19 a18 =>
  (wAr p0 (wBX p0.number (⟨(↑k19:Int),p1⟩:wAI) 0) false).bind fun (x47,x48,x49) =>
  (wCQ 0 (↑p0.Race.Starts.length:Int) (fun k79 a78 =>
   (chk (wBX p0.number (⟨(↑k79:Int),p1⟩:wAI) 0) x47.far.length).bind fun _ =>
   (chk (↑k19:Int) 8).bind fun _ =>
   (chk (↑k79:Int) 8).bind fun _ =>
   some (a78.set (k19 * 8 + k79) (gd x47.far (wBX p0.number (⟨(↑k79:Int),p1⟩:wAI) 0).toNat))) a18).bind fun y84 =>
  some y84) (Arr.fill 64 0)).bind fun y24 =>
 some y24
def wFA (p0:wAA) (p1:Int):Option ((List wAN) × Int) :=
 (wEz p0 p1).bind fun (x5,x6) =>
 match x5 with
 | none =>
  if x6=0 then
   none
  else
   some ([],x6)
 | some x30 =>
  if x6=0 then
   (wDY x30 p1).bind fun x48 =>
   (wCQ 0 (↑p0.Starts.length:Int) (fun k83 l79 =>
    (wCQ 0 (↑p0.Starts.length:Int) (fun k124 (x122,x123) =>
     (chk (↑k83:Int) 8).bind fun _ =>
     (chk (↑k124:Int) 8).bind fun _ =>
     if (x48.get (k83 * 8 + k124)) < 0 then
      if 0 < (x48.get (k124 * 8 + k83)) then
       some (w64 (x122 + 1),w64 (x123 + 1))
      else
       some (w64 (x122 + 1),x123)
     else
      if 0 < (x48.get (k124 * 8 + k83)) then
       some (x122,w64 (x123 + 1))
      else
       some (x122,x123)) (1,1)).bind fun (y129,y130) =>
    (app 16 l79 [(⟨y129,y130⟩:wAN)]).bind fun x207 =>
    some x207) []).bind fun y88 =>
   some (y88,0)
  else
   some ([],x6)
def wCJ (p0:wAJ) (p1:Int) (p2:Int):Option (Bool) :=
 some (decide ((⟨p0.Skier,p0.Mat⟩:wAL)=(⟨p1,p2⟩:wAL)))
def wAi (p0:List wAJ) (p1:(wAJ->Option Bool)):Option (Int) :=
 jn (wEw 0 (↑p0.length:Int) (fun k2 _ =>
  (idx p0 (↑k2:Int)).bind fun x22 =>
  (p1 x22).bind fun x30 =>
  if x30=true then
   esc (some (↑k2:Int))
  else
   some (.inl ())) ()) fun _ =>
 some (-1)
def wAc (p0:List wAJ) (p1:(wAJ->Option Bool)):Option (Bool) :=
 (wAi p0 p1).bind fun x1 =>
 some (decide (0 <= x1))
def wDH (p0:wAA):Option ((List wAL) × Int) :=
 (wCu p0).bind fun x5 =>
 if x5=0 then
  (wCQ 0 (↑p0.Starts.length:Int) (fun k34 l30 =>
   iter (fun (l91,x95) =>
    if x95 <= (↑p0.Splits.length:Int) then
     (wAc p0.Readings (fun x=>wCJ x (↑k34:Int) x95)).bind fun x127 =>
     if x127=true then
      some (.inl (l91,w64 (x95 + 1)))
     else
      (app 16 l91 [(⟨(↑k34:Int),x95⟩:wAL)]).bind fun x163 =>
      some (.inl (x163,w64 (x95 + 1)))
    else
     esc (some l91)) big (l30,1)) []).bind fun y39 =>
  some (y39,0)
 else
  some ([],x5)
def wBH (p0:List wAN) (p1:List wAN):Option (Bool) :=
 if (↑p0.length:Int)=(↑p1.length:Int) then
  jn (wEw 0 (↑p0.length:Int) (fun k4 _ =>
   (idx p0 (↑k4:Int)).bind fun x26 =>
   (idx p1 (↑k4:Int)).bind fun x34 =>
   if x26=x34 then
    some (.inl ())
   else
    esc (some false)) ()) fun _ =>
  some true
 else
  some false
def wCO (p0:List wAL) (p1:List wAL):Option (Bool) :=
 if (↑p0.length:Int)=(↑p1.length:Int) then
  jn (wEw 0 (↑p0.length:Int) (fun k4 _ =>
   (idx p0 (↑k4:Int)).bind fun x26 =>
   (idx p1 (↑k4:Int)).bind fun x34 =>
   if x26=x34 then
    some (.inl ())
   else
    esc (some false)) ()) fun _ =>
  some true
 else
  some false
def wBc :Option (wAA) :=
 (wBD).bind fun x5 =>
 (chk 1 x5.Readings.length).bind fun _ =>
 some (⟨x5.Starts,x5.Splits,x5.Clocks,(hH x5.Readings 1 (⟨(gd x5.Readings 1).Skier,(gd x5.Readings 1).Mat,(gd x5.Readings 1).Clock,1700⟩:wAJ))⟩:wAA)
def wEK (p0:wAh) (p1:List Int):Option ((List (List Int)) × (List Int)) :=
 (idx p1 0).bind fun x3 =>
 (wCQ 0 (↑p0.Race.Starts.length:Int) (fun k31 l26 =>
  (wCQ 0 (w64 ((↑p0.Race.Splits.length:Int) + 1)) (fun k74 l70 =>
   (idx p1 (wBX p0.number (⟨(↑k31:Int),(↑k74:Int)⟩:wAI) 0)).bind fun x103 =>
   (app 8 l70 [w64 (x103 - x3)]).bind fun x117 =>
   some x117) []).bind fun y79 =>
  (app 24 l26 [y79]).bind fun x161 =>
  some x161) []).bind fun y36 =>
 (wCQ 0 (↑p0.Race.Clocks.length:Int) (fun k215 l211 =>
  (wDG (↑k215:Int)).bind fun x243 =>
  (idx p1 (wBX p0.number x243 0)).bind fun x253 =>
  (app 8 l211 [w64 (x3 - x253)]).bind fun x268 =>
  some x268) []).bind fun y220 =>
 some (y36,y220)
def wFL (p0:wAA):Option ((List (List Int)) × (List Int) × Int) :=
 (wCd p0).bind fun (x5,x6) =>
 match x5 with
 | none =>
  if x6=0 then
   none
  else
   some ([],[],x6)
 | some x30 =>
  if x6=0 then
   (wAr x30 (-1) false).bind fun (x59,x60,x61) =>
   if x61=true then
    (wEK x30 x59.far).bind fun (x101,x102) =>
    some (x101,x102,0)
   else
    some ([],[],7)
  else
   some ([],[],x6)
def wEr (p0:wAA) (p1:List wAH):Option (Int × Int) :=
 (wCu p0).bind fun x5 =>
 if x5=0 then
  (wCx p0 p1).bind fun x22 =>
  if x22=0 then
   if (↑p1.length:Int)=0 then
    some (0,8)
   else
    ((idx p1 0).bind fun x44 =>
    (wBb p0 x44).bind fun (x56,x57,x58) =>
    some (x56.skier,x56.mat)).bind fun (x39,x40) =>
    (wDN p0 (⟨x39,x40⟩:wAI) p1).bind fun (x279,x280,x281) =>
    if x281=true then
     if x279=(⟨x39,x40⟩:wAI) then
      if 0 <= x280 then
       some (0,8)
      else
       some (x280,0)
     else
      some (0,8)
    else
     some (0,8)
  else
   some (0,x22)
 else
  some (0,x5)
def wCk (p0:Int) (p1:wAJ) (p2:Int):Option (Bool) :=
 some (decide (p0=p2))
def wAk (p0:wAA) (p1:((Int × wAJ)->Option Bool)):Option (wAh) :=
 (mkz 32 (↑p0.Readings.length:Int) (⟨0,0,0,0⟩:wAJ)).bind fun x5 =>
 (wLF x5 0 p0.Readings).bind fun x13 =>
 (wCQ 0 (↑x13.length:Int) (fun k34 (l32,k33) =>
  (chk (↑k34:Int) l32.length).bind fun _ =>
  (p1 ((↑k34:Int),(gd l32 k34))).bind fun x68 =>
  if x68=true then
   some (l32,k33)
  else
   (chk (((k33):Nat):Int) l32.length).bind fun _ =>
   some ((hH l32 k33 (gd l32 k34)),(k33 + 1))) (x13,0)).bind fun (y39,y40) =>
 (cut y39 0 ((y40:Nat):Int)).bind fun x114 =>
 (wDV (⟨p0.Starts,p0.Splits,p0.Clocks,x114⟩:wAA)).bind fun x130 =>
 some x130
def wBz (p0:Int) (p1:wAJ) (p2:Int) (p3:Int):Option (Bool) :=
 if p0=p2 then
  some true
 else
  some (decide (p0=p3))
def wCg (p0:wAA):Option ((List Int) × Int) :=
 (wCd p0).bind fun (x5,x6) =>
 match x5 with
 | none =>
  if x6=0 then
   none
  else
   some ([],x6)
 | some x30 =>
  if x6=0 then
   (wAj x30).bind fun x57 =>
   if x57=true then
    some ([],0)
   else
    jn (wEw 0 (↑p0.Readings.length:Int) (fun k73 _ =>
     (wAk p0 (fun x=>wCk x.1 x.2 (↑k73:Int))).bind fun x126 =>
     (wAj x126).bind fun x167 =>
     if x167=true then
      esc (some ([(↑k73:Int)],0))
     else
      some (.inl ())) ()) fun _ =>
    jn (wEw 0 (↑p0.Readings.length:Int) (fun k204 _ =>
     iter (fun x250 =>
      if x250 < (↑p0.Readings.length:Int) then
       (wAk p0 (fun x=>wBz x.1 x.2 (↑k204:Int) x250)).bind fun x309 =>
       (wAj x309).bind fun x350 =>
       if x350=true then
        esc (esc (some ([(↑k204:Int),x250],0)))
       else
        some (.inl (w64 (x250 + 1)))
      else
       esc (some (.inl ()))) big (↑(k204 + 1):Int)) ()) fun _ =>
    some ([],10)
  else
   some ([],x6)
def wDc (p0:Int) (p1:wAJ) (p2:Int):Option (Bool) :=
 some (decide (p1.Skier=p2))
def wCh (p0:wAA):Option ((List Int) × Int) :=
 (wCd p0).bind fun (x5,x6) =>
 match x5 with
 | none =>
  if x6=0 then
   none
  else
   some ([],x6)
 | some x30 =>
  if x6=0 then
   (wAj x30).bind fun x57 =>
   if x57=true then
    some ([],6)
   else
    (wCQ 0 (↑p0.Starts.length:Int) (fun k89 l85 =>
     (wAk p0 (fun x=>wDc x.1 x.2 (↑k89:Int))).bind fun x145 =>
     (wAj x145).bind fun x186 =>
     if x186=true then
      (app 8 l85 [(↑k89:Int)]).bind fun x206 =>
      some x206
     else
      some l85) []).bind fun y94 =>
    some (y94,0)
  else
   some ([],x6)
def wAf (p0:List Int) (p1:List Int):Option (Bool) :=
 if (↑p0.length:Int)=(↑p1.length:Int) then
  jn (wEw 0 (↑p0.length:Int) (fun k4 _ =>
   (idx p0 (↑k4:Int)).bind fun x26 =>
   (idx p1 (↑k4:Int)).bind fun x34 =>
   if x26=x34 then
    some (.inl ())
   else
    esc (some false)) ()) fun _ =>
  some true
 else
  some false
def wCK :Option (Bool) :=
 (wBD).bind fun x1 =>
 (wAz 0 2).bind fun x23 =>
 (wEh x1 x23).bind fun (x59,x60) =>
 (wBD).bind fun x77 =>
 (wAz 0 1).bind fun x99 =>
 (wEh x77 x99).bind fun (x135,x136) =>
 (wBD).bind fun x153 =>
 (wAz 0 2).bind fun x175 =>
 (wAz 1 2).bind fun x185 =>
 (wGf x153 x175 x185).bind fun (x221,x222) =>
 (wBD).bind fun x239 =>
 (wAz 0 2).bind fun x261 =>
 (wAz 1 2).bind fun x271 =>
 (wEy x239 x261 x271 [(⟨3,0,0,false⟩:wAH),(⟨3,0,2,true⟩:wAH)]).bind fun (x321,x322) =>
 (wBD).bind fun x342 =>
 (wFA x342 2).bind fun (x390,x391) =>
 (wBD).bind fun x404 =>
 (wDH x404).bind fun (x452,x453) =>
 (if x60=0 then
  if x136=0 then
   if x222=0 then
    if x322=0 then
     if x391=0 then
      if x453=0 then
       if x59=(⟨2244,2256⟩:wAN) then
        if x135=(⟨1000,1200⟩:wAN) then
         if x221=(⟨247,251⟩:wAN) then
          if x321=251 then
           (wBH x390 [(⟨1,1⟩:wAN),(⟨2,2⟩:wAN)]).bind fun x506 =>
           if x506=true then
            (wAz 0 1).bind fun x518 =>
            (wCO x452 [x518]).bind fun x544 =>
            some (!x544)
           else
            some true
          else
           some true
         else
          some true
        else
         some true
       else
        some true
      else
       some true
     else
      some true
    else
     some true
   else
    some true
  else
   some true
 else
  some true).bind fun b466 =>
 if b466=true then
  some false
 else
  (wBc).bind fun x586 =>
  (wFL x586).bind fun (x634,x635,x636) =>
  (wBc).bind fun x654 =>
  (wEr x654 [(⟨0,1,0,true⟩:wAH),(⟨1,1,0,true⟩:wAH),(⟨3,0,1,false⟩:wAH),(⟨2,0,0,false⟩:wAH)]).bind fun (x716,x717) =>
  (wBc).bind fun x727 =>
  (wCg x727).bind fun (x775,x776) =>
  (wBc).bind fun x789 =>
  (wCh x789).bind fun (x837,x838) =>
  if x636=7 then
   if x717=0 then
    if x776=0 then
     if x838=0 then
      if x716=(-194) then
       (wAf x775 [1]).bind fun x886 =>
       if x886=true then
        (wAf x837 [1]).bind fun x914 =>
        some x914
       else
        some false
      else
       some false
     else
      some false
    else
     some false
   else
    some false
  else
   some false
def wBR (p0:List Int):Option ((List Int)) :=
 (app 8 ([]:List Int) p0).bind fun x4 =>
 some x4
def wAv (p0:List wAN):Option ((List wAN)) :=
 (app 16 ([]:List wAN) p0).bind fun x4 =>
 some x4
def wBU (p0:List wAd):Option ((List wAd)) :=
 (app 24 ([]:List wAd) p0).bind fun x4 =>
 some x4
def wBM (p0:List wAJ):Option ((List wAJ)) :=
 (app 32 ([]:List wAJ) p0).bind fun x4 =>
 some x4
def wCL (p0:wAA):Option (wAA) :=
 (wBR p0.Starts).bind fun x11 =>
 (wAv p0.Splits).bind fun x25 =>
 (wBU p0.Clocks).bind fun x40 =>
 (wBM p0.Readings).bind fun x56 =>
 some (⟨x11,x25,x40,x56⟩:wAA)
def wCV (p0:wAA):Option (wAK) :=
 ((wBR p0.Starts).bind fun x20 =>
 (wAv p0.Splits).bind fun x34 =>
 some (x20,x34)).bind fun (l11,l14) =>
 (wCQ 0 (↑p0.Clocks.length:Int) (fun k186 l182 =>
  (idx p0.Clocks (↑k186:Int)).bind fun x211 =>
  (app 24 l182 [(⟨x211.Offset,x211.Error⟩:wBA)]).bind fun x232 =>
  some x232) []).bind fun y191 =>
 (wCQ 0 (↑p0.Readings.length:Int) (fun k281 l277 =>
  (idx p0.Readings (↑k281:Int)).bind fun x305 =>
  (app 32 l277 [(⟨x305.Skier,x305.Mat,x305.Clock,x305.Time⟩:wAn)]).bind fun x327 =>
  some x327) []).bind fun y286 =>
 some (⟨l11,l14,y191,y286⟩:wAK)
def wAe (p0:Int) (p1:Int) (p2:Int):Option (Bool) :=
 if p0 < p1 then
  some true
 else
  some (decide (p2 < p0))
def wBu (p0:wAN) (p1:Int) (p2:Int):Option (Bool) :=
 if p0.Hi < p0.Lo then
  some true
 else
  if p0.Lo < p1 then
   some true
  else
   some (decide (p2 < p0.Hi))
def wAt (p0:wAK):Option (Int) :=
 (wAe (↑p0.Starts.length:Int) 1 8).bind fun x5 =>
 if x5=true then
  some 2
 else
  if 7 < (↑p0.Splits.length:Int) then
   some 2
  else
   if 4 < (↑p0.Clocks.length:Int) then
    some 2
   else
    if 40 < (↑p0.Readings.length:Int) then
     some 2
    else
     iter (fun x30 =>
      if x30 < (↑p0.Starts.length:Int) then
       (idx p0.Starts x30).bind fun x45 =>
       (wAe x45 0 360000).bind fun x54 =>
       if x54=true then
        esc (some 3)
       else
        some (.inl (w64 (x30 + 1)))
      else
       esc (iter (fun x78 =>
        if x78 < (↑p0.Splits.length:Int) then
         (idx p0.Splits x78).bind fun x93 =>
         (wBu x93 0 360000).bind fun x103 =>
         if x103=true then
          esc (some 3)
         else
          some (.inl (w64 (x78 + 1)))
        else
         esc (iter (fun x127 =>
          if x127 < (↑p0.Clocks.length:Int) then
           (idx p0.Clocks x127).bind fun x142 =>
           (wBu x142.Offset (-36000) 36000).bind fun x153 =>
           if x153=true then
            esc (some 3)
           else
            (wAe x142.Error 0 600).bind fun x174 =>
            if x174=true then
             esc (some 3)
            else
             some (.inl (w64 (x127 + 1)))
          else
           esc (iter (fun x198 =>
            if x198 < (↑p0.Readings.length:Int) then
             (idx p0.Readings x198).bind fun x213 =>
             (wAe x213.Time 0 360000).bind fun x225 =>
             if x225=true then
              esc (some 3)
             else
              some (.inl (w64 (x198 + 1)))
            else
             esc (iter (fun x249 =>
              if x249 < (↑p0.Readings.length:Int) then
               (idx p0.Readings x249).bind fun x264 =>
               (wAe x264.Skier 0 (w64 ((↑p0.Starts.length:Int) - 1))).bind fun x284 =>
               if x284=true then
                esc (some 1)
               else
                (wAe x264.Mat 0 (↑p0.Splits.length:Int)).bind fun x300 =>
                if x300=true then
                 esc (some 1)
                else
                 (wAe x264.Clock 0 (w64 ((↑p0.Clocks.length:Int) - 1))).bind fun x316 =>
                 if x316=true then
                  esc (some 1)
                 else
                  some (.inl (w64 (x249 + 1)))
              else
               esc (some 0)) big 0)) big 0)) big 0)) big 0)) big 0
def wBr (p0:wAK):Option ((List wAR) × Int) :=
 (wAt p0).bind fun x5 =>
 if x5=0 then
  iter (fun (l31,x35) =>
   if x35 < (↑p0.Starts.length:Int) then
    iter (fun (l65,x68) =>
     if x68 <= (↑p0.Splits.length:Int) then
      iter (fun (b91,x92) =>
       if x92 < (↑p0.Readings.length:Int) then
        if b91=true then
         some (.inl (true,w64 (x92 + 1)))
        else
         (idx p0.Readings x92).bind fun x116 =>
         if x116.Skier=x35 then
          some (.inl (decide (x116.Mat=x68),w64 (x92 + 1)))
         else
          some (.inl (false,w64 (x92 + 1)))
       else
        esc (if b91=true then
         some (.inl (l65,w64 (x68 + 1)))
        else
         (app 16 l65 [(⟨x35,x68⟩:wAR)]).bind fun x154 =>
         some (.inl (x154,w64 (x68 + 1))))) big (false,0)
     else
      esc (some (.inl (l65,w64 (x35 + 1))))) big (l31,1)
   else
    esc (some (l31,0))) big ([],0)
 else
  some ([],x5)
def wAZ (p0:wAK) (p1:Int) (p2:Int):Option (Int) :=
 some (w64 ((w64 (1 + (w64 (p1 * (w64 ((↑p0.Splits.length:Int) + 1)))))) + p2))
def wAo (p0:wAK) (p1:Int):Option (Int) :=
 (wAZ p0 (↑p0.Starts.length:Int) 0).bind fun x5 =>
 some (w64 (x5 + p1))
def wBd (p0:wAK):Option (Int) :=
 (wAo p0 (↑p0.Clocks.length:Int)).bind fun x5 =>
 some x5
def wAQ (p0:wAU) (p1:Int) (p2:Int) (p3:Int) (p4:Int):Option ((List (List Int))) :=
 (chk p1 p0.t.length).bind fun _ =>
 (chk p2 (gd p0.t p1.toNat).length).bind fun _ =>
 (chk p2 p0.t.length).bind fun _ =>
 (chk p2 (hH p0.t p1.toNat (hH (gd p0.t p1.toNat) p2.toNat (min (gd (gd p0.t p1.toNat) p2.toNat) p3))).length).bind fun _ =>
 (chk p1 (gd (hH p0.t p1.toNat (hH (gd p0.t p1.toNat) p2.toNat (min (gd (gd p0.t p1.toNat) p2.toNat) p3))) p2.toNat).length).bind fun _ =>
 some (hH (hH p0.t p1.toNat (hH (gd p0.t p1.toNat) p2.toNat (min (gd (gd p0.t p1.toNat) p2.toNat) p3))) p2.toNat (hH (gd (hH p0.t p1.toNat (hH (gd p0.t p1.toNat) p2.toNat (min (gd (gd p0.t p1.toNat) p2.toNat) p3))) p2.toNat) p1.toNat (min (gd (gd (hH p0.t p1.toNat (hH (gd p0.t p1.toNat) p2.toNat (min (gd (gd p0.t p1.toNat) p2.toNat) p3))) p2.toNat) p1.toNat) p4)))
def wBO (p0:wAK):Option ((List (List Int))) :=
 (wBd p0).bind fun x5 =>
 (wCQ 0 x5 (fun k38 l32 =>
  (mkz 8 x5 (0:Int)).bind fun x64 =>
  (wCQ 0 x5 (fun k78 l77 =>
   if (↑k38:Int)=(↑k78:Int) then
    some l77
   else
    (chk (↑k78:Int) l77.length).bind fun _ =>
    some (hH l77 k78 1125899906842624)) x64).bind fun y83 =>
  (app 24 l32 [y83]).bind fun x140 =>
  some x140) []).bind fun y43 =>
 iter (fun (l193,x194) =>
  if x194 < (↑p0.Starts.length:Int) then
   (idx p0.Starts x194).bind fun x214 =>
   (wAZ p0 x194 0).bind fun x237 =>
   (wAQ (⟨l193⟩:wAU) 0 x237 x214 (w64 (-x214))).bind fun x247 =>
   iter (fun (l266,x267) =>
    if x267 < (↑p0.Splits.length:Int) then
     (idx p0.Splits x267).bind fun x288 =>
     (wAZ p0 x194 x267).bind fun x311 =>
     (wAZ p0 x194 (w64 (x267 + 1))).bind fun x325 =>
     (wAQ (⟨l266⟩:wAU) x311 x325 x288.Hi (w64 (-x288.Lo))).bind fun x335 =>
     some (.inl (x335,w64 (x267 + 1)))
    else
     esc (some (.inl (l266,w64 (x194 + 1))))) big (x247,0)
  else
   esc (iter (fun (l366,x367) =>
    if x367 < (↑p0.Clocks.length:Int) then
     (idx p0.Clocks x367).bind fun x387 =>
     (wAo p0 x367).bind fun x414 =>
     (wAQ (⟨l366⟩:wAU) 0 x414 (w64 (-x387.Offset.Lo)) x387.Offset.Hi).bind fun x424 =>
     some (.inl (x424,w64 (x367 + 1)))
    else
     esc (iter (fun (l449,x450) =>
      if x450 < (↑p0.Readings.length:Int) then
       (idx p0.Readings x450).bind fun x468 =>
       (idx p0.Clocks x468.Clock).bind fun x487 =>
       (wAo p0 x468.Clock).bind fun x511 =>
       (wAZ p0 x468.Skier x468.Mat).bind fun x525 =>
       (wAQ (⟨l449⟩:wAU) x511 x525 (w64 (x468.Time + x487.Error)) (w64 (x487.Error - x468.Time))).bind fun x535 =>
       some (.inl (x535,w64 (x450 + 1)))
      else
       esc ((wCQ 0 x5 (fun k561 l560 =>
        (wCQ 0 x5 (fun k587 l586 =>
         (wCQ 0 x5 (fun k632 l631 =>
          (chk (↑k587:Int) l631.length).bind fun _ =>
          (chk (↑k561:Int) (gd l631 k587).length).bind fun _ =>
          if (gd (gd l631 k587) k561) < 1125899906842624 then
           (chk (↑k561:Int) l631.length).bind fun _ =>
           (chk (↑k632:Int) (gd l631 k561).length).bind fun _ =>
           if (gd (gd l631 k561) k632) < 1125899906842624 then
            (chk (↑k632:Int) (gd l631 k587).length).bind fun _ =>
            if (w64 ((gd (gd l631 k587) k561) + (gd (gd l631 k561) k632))) < (gd (gd l631 k587) k632) then
             some (hH l631 k587 (hH (gd l631 k587) k632 (max (w64 ((gd (gd l631 k587) k561) + (gd (gd l631 k561) k632))) (-1125899906842624))))
            else
             some l631
           else
            some l631
          else
           some l631) l586).bind fun y637 =>
         some y637) l560).bind fun y592 =>
        some y592) l449).bind fun y566 =>
       some y566)) big (l366,0))) big (l193,0))) big (y43,0)
def wAa (p0:wAK):Option (Bool) :=
 (wBO p0).bind fun x5 =>
 jn (wEw 0 (↑x5.length:Int) (fun k26 _ =>
  (idx x5 (↑k26:Int)).bind fun x44 =>
  (idx x44 (↑k26:Int)).bind fun x57 =>
  if x57 < 0 then
   esc (some true)
  else
   some (.inl ())) ()) fun _ =>
 some false
def wAl (p0:wAK) (p1:Int) (p2:Int):Option (wAK) :=
 iter (fun (l23,x27) =>
  if x27 < (↑p0.Readings.length:Int) then
   if x27=p1 then
    some (.inl (l23,w64 (x27 + 1)))
   else
    if x27=p2 then
     some (.inl (l23,w64 (x27 + 1)))
    else
     (idx p0.Readings x27).bind fun x62 =>
     (app 32 l23 [x62]).bind fun x75 =>
     some (.inl (x75,w64 (x27 + 1)))
  else
   esc (some (⟨p0.Starts,p0.Splits,p0.Clocks,l23⟩:wAK))) big ([],0)
def wBB (p0:wAK):Option ((List Int) × Int) :=
 (wAt p0).bind fun x5 =>
 if x5=0 then
  (wAa p0).bind fun x21 =>
  if x21=true then
   iter (fun x36 =>
    if x36 < (↑p0.Readings.length:Int) then
     (wAl p0 x36 x36).bind fun x59 =>
     (wAa x59).bind fun x89 =>
     if x89=true then
      some (.inl (w64 (x36 + 1)))
     else
      esc (some ([x36],0))
    else
     esc (iter (fun x118 =>
      if x118 < (↑p0.Readings.length:Int) then
       iter (fun x136 =>
        if x136 < (↑p0.Readings.length:Int) then
         (wAl p0 x118 x136).bind fun x168 =>
         (wAa x168).bind fun x198 =>
         if x198=true then
          some (.inl (w64 (x136 + 1)))
         else
          esc (esc (some ([x118,x136],0)))
        else
         esc (some (.inl (w64 (x118 + 1))))) big (w64 (x118 + 1))
      else
       esc (some ([],10))) big 0)) big 0
  else
   some ([],0)
 else
  some ([],x5)
def wBC (p0:wAK):Option ((List Int) × Int) :=
 (wAt p0).bind fun x5 =>
 if x5=0 then
  (wAa p0).bind fun x21 =>
  if x21=true then
   iter (fun (l47,x51) =>
    if x51 < (↑p0.Starts.length:Int) then
     iter (fun (l83,x87) =>
      if x87 < (↑p0.Readings.length:Int) then
       (idx p0.Readings x87).bind fun x107 =>
       if x107.Skier=x51 then
        some (.inl (l83,w64 (x87 + 1)))
       else
        (app 32 l83 [x107]).bind fun x133 =>
        some (.inl (x133,w64 (x87 + 1)))
      else
       esc ((wAa (⟨p0.Starts,p0.Splits,p0.Clocks,l83⟩:wAK)).bind fun x166 =>
       if x166=true then
        some (.inl (l47,w64 (x51 + 1)))
       else
        (app 8 l47 [x51]).bind fun x188 =>
        some (.inl (x188,w64 (x51 + 1))))) big ([],0)
    else
     esc (some (l47,0))) big ([],0)
  else
   some ([],6)
 else
  some ([],x5)
def wCB (p0:Int) (p1:wAJ) (p2:Int):Option (Bool) :=
 some (decide (p0=p2))
def wCm (p0:List Int):Option (Int) :=
 if (↑p0.length:Int) < 1 then
  none
 else
  (idx p0 0).bind fun x4 =>
  (wCQ 1 (↑p0.length:Int) (fun k17 x16 =>
   (idx p0 (1 + ↑k17:Int)).bind fun x37 =>
   some (max x16 x37)) x4).bind fun y22 =>
  some y22
def wEX (p0:List Int):Option (Int) :=
 (wCm p0).bind fun x1 =>
 some x1
def wCi (p0:wAA) (p1:wAL):Option ((List Int) × Int) :=
 (wCv p0 [p1]).bind fun (x23,x24) =>
 match x23 with
 | none =>
  if x24=0 then
   (wBt).bind fun x52 =>
   (wCe p1).bind fun x62 =>
   none
  else
   some ([],x24)
 | some x48 =>
  if x24=0 then
   ((wBt).bind fun x149 =>
   (wCe p1).bind fun x159 =>
   (wBG x48 x149 x159).bind fun x179 =>
   some (x179.Lo,x179.Hi)).bind fun (x144,x145) =>
   (wCQ 0 (↑p0.Readings.length:Int) (fun k385 l381 =>
    ((wAk p0 (fun x=>wCB x.1 x.2 (↑k385:Int))).bind fun x446 =>
    (wBt).bind fun x478 =>
    (wCe p1).bind fun x488 =>
    (wBG x446 x478 x488).bind fun x515 =>
    some (x515.Lo,x515.Hi)).bind fun (x419,x420) =>
    (wEX [w64 (x144 - x419),w64 (x420 - x145)]).bind fun x925 =>
    if 0 < x925 then
     (app 8 l381 [(↑k385:Int)]).bind fun x944 =>
     some x944
    else
     some l381) []).bind fun y390 =>
   some (y390,0)
  else
   some ([],x24)
def wBv (p0:wAK) (p1:wAR):Option (Bool) :=
 (wAe p1.Skier 0 (w64 ((↑p0.Starts.length:Int) - 1))).bind fun x9 =>
 if x9=true then
  some true
 else
  (wAe p1.Mat 0 (↑p0.Splits.length:Int)).bind fun x22 =>
  some x22
def wCC (p0:wAK):Option (Int) :=
 (wAt p0).bind fun x5 =>
 if x5=0 then
  (wAa p0).bind fun x21 =>
  if x21=true then
   some 7
  else
   some 0
 else
  some x5
def wCM (p0:wAK) (p1:wAR) (p2:wAR):Option (Int) :=
 (wAt p0).bind fun x13 =>
 if x13=0 then
  (wBv p0 p1).bind fun x29 =>
  if x29=true then
   some 1
  else
   (wBv p0 p2).bind fun x46 =>
   if x46=true then
    some 1
   else
    (wCC p0).bind fun x63 =>
    some x63
 else
  some x13
def wBP (p0:wAK) (p1:wAR):Option (wAN × Int) :=
 (wCM p0 p1 p1).bind fun x13 =>
 if x13=0 then
  (wBO p0).bind fun x29 =>
  (wAZ p0 p1.Skier p1.Mat).bind fun x57 =>
  (idx x29 x57).bind fun x69 =>
  (idx x69 0).bind fun x82 =>
  (idx x29 0).bind fun x89 =>
  (idx x89 x57).bind fun x101 =>
  some ((⟨w64 (-x82),x101⟩:wAN),0)
 else
  some ((⟨0,0⟩:wAN),x13)
def wAx (p0:wAK) (p1:wAR):Option ((List Int) × Int) :=
 (wBP p0 p1).bind fun (x9,x10) =>
 if x10=0 then
  iter (fun (l43,x47) =>
   if x47 < (↑p0.Readings.length:Int) then
    ((wAl p0 x47 x47).bind fun x82 =>
    (wBP x82 p1).bind fun (x112,x113) =>
    some (x112.Lo,x112.Hi)).bind fun (x69,x70) =>
    if x69 < x9.Lo then
     (app 8 l43 [x47]).bind fun x292 =>
     some (.inl (x292,w64 (x47 + 1)))
    else
     if x9.Hi < x70 then
      (app 8 l43 [x47]).bind fun x312 =>
      some (.inl (x312,w64 (x47 + 1)))
     else
      some (.inl (l43,w64 (x47 + 1)))
   else
    esc (some (l43,0))) big ([],0)
 else
  some ([],x10)
def wBV (p0:List wAd) (p1:List wAd):Option (Bool) :=
 if (↑p0.length:Int)=(↑p1.length:Int) then
  jn (wEw 0 (↑p0.length:Int) (fun k4 _ =>
   (idx p0 (↑k4:Int)).bind fun x26 =>
   (idx p1 (↑k4:Int)).bind fun x34 =>
   if x26=x34 then
    some (.inl ())
   else
    esc (some false)) ()) fun _ =>
  some true
 else
  some false
def wBN (p0:List wAJ) (p1:List wAJ):Option (Bool) :=
 if (↑p0.length:Int)=(↑p1.length:Int) then
  jn (wEw 0 (↑p0.length:Int) (fun k4 _ =>
   (idx p0 (↑k4:Int)).bind fun x26 =>
   (idx p1 (↑k4:Int)).bind fun x34 =>
   if x26=x34 then
    some (.inl ())
   else
    esc (some false)) ()) fun _ =>
  some true
 else
  some false
def wCW (p0:wAA) (p1:wAA):Option (Bool) :=
 (wAf p0.Starts p1.Starts).bind fun x9 =>
 if x9=true then
  (wBH p0.Splits p1.Splits).bind fun x23 =>
  if x23=true then
   (wBV p0.Clocks p1.Clocks).bind fun x39 =>
   if x39=true then
    (wBN p0.Readings p1.Readings).bind fun x57 =>
    some x57
   else
    some false
  else
   some false
 else
  some false
def wBf (p0:wAA) (p1:wAL):Option (Bool) :=
 ((wBs p0).bind fun x13 =>
 if x13=true then
  some true
 else
  if 10 < (↑p0.Readings.length:Int) then
   if (↑p0.Readings.length:Int) <= 40 then
    some true
   else
    some (decide (20 < (w64 ((↑p0.Starts.length:Int) * (w64 ((↑p0.Splits.length:Int) + 1))))))
  else
   some (decide (20 < (w64 ((↑p0.Starts.length:Int) * (w64 ((↑p0.Splits.length:Int) + 1))))))).bind fun b9 =>
 if b9=true then
  (wCK).bind fun x46 =>
  some x46
 else
  ((wCL p0).bind fun x92 =>
  (wCV p0).bind fun x118 =>
  some (x92.Starts,x92.Splits,x92.Clocks,x92.Readings,x118.Starts,x118.Splits,x118.Clocks,x118.Readings)).bind fun (l59,l62,l65,l68,l73,l76,l79,l82) =>
  (wDH (⟨l59,l62,l65,l68⟩:wAA)).bind fun (x445,x446) =>
  (wBr (⟨l73,l76,l79,l82⟩:wAK)).bind fun (x485,x486) =>
  if x446=x486 then
   if (↑x445.length:Int)=(↑x485.length:Int) then
    jn (wEw 0 (↑x445.length:Int) (fun k505 _ =>
     (chk (↑k505:Int) x445.length).bind fun _ =>
     (chk (↑k505:Int) x485.length).bind fun _ =>
     if (⟨(gd x445 k505).Skier,(gd x445 k505).Mat⟩:wAR)=(gd x485 k505) then
      some (.inl ())
     else
      esc (some false)) ()) fun _ =>
    (wCg (⟨l59,l62,l65,l68⟩:wAA)).bind fun (x591,x592) =>
    (wBB (⟨l73,l76,l79,l82⟩:wAK)).bind fun (x617,x618) =>
    if x592=x618 then
     (wAf x591 x617).bind fun x644 =>
     if x644=true then
      (wCh (⟨l59,l62,l65,l68⟩:wAA)).bind fun (x676,x677) =>
      (wBC (⟨l73,l76,l79,l82⟩:wAK)).bind fun (x710,x711) =>
      if x677=x711 then
       (wAf x676 x710).bind fun x747 =>
       if x747=true then
        (wCi (⟨l59,l62,l65,l68⟩:wAA) p1).bind fun (x779,x780) =>
        (wAx (⟨l73,l76,l79,l82⟩:wAK) (⟨p1.Skier,p1.Mat⟩:wAR)).bind fun (x813,x814) =>
        if x780=x814 then
         (wAf x779 x813).bind fun x840 =>
         if x840=true then
          (wCW (⟨l59,l62,l65,l68⟩:wAA) p0).bind fun x984 =>
          if x984=true then
           (wCK).bind fun x996 =>
           some x996
          else
           some false
         else
          some false
        else
         some false
       else
        some false
      else
       some false
     else
      some false
    else
     some false
   else
    some false
  else
   some false
end Go.Proofs.YtlnfbjphfoipaaaGreat
namespace Go.KL
open Go.RowKit
section
variable {B:Base} {U:PHeap} {L:List Res} {w:World}
theorem St.cutRowM {α:Type} {enc:α->List Value} {m:List α} {k c T sz b:Nat} {A:Option Addr} (h:St B U L w) (hk:L[k]?=some (.row A c T sz (nD enc m))):St B U (L.set k (.row A c T sz (nD enc (m.take b)))) w :=
 h.cutRow (a:=nD enc (m.take b)) (d:=nD enc (m.drop b)) (by rw [<- List.flatMap_append,List.take_append_drop];exact hk)
end
section
variable {P:Program} {N:Nat} {l:List Oper} {Q:wEd} {D:List Deferred} {ks:List Nat} {s:Sch} {J:Env} {w:World} {B:Base} {U:PHeap} {L:List Res} {i d:Nat} {o:Oper}
theorem slc0 {A:Option Addr} {c sz:Nat}:Value.slice (if c=(0:Int).toNat then A else A.map (·.add ((0:Int).toNat * sz))) ((0:Int).toNat - (0:Int).toNat) (c - (0:Int).toNat)=.slice A 0 c:=by
 have:A.map (·.add ((0:Int).toNat * sz))=A:=by
  cases A with
  | none=>rfl
  | some a=>simp [Addr.add]
 rw [this]
 simp
end
theorem St.cutRowC {α:Type} {enc:α->List Value} {m xs:List α} {k c T sz:Nat} {b:Int} {A:Option Addr} {B:Base} {U:PHeap} {L:List Res} {w:World} (h:St B U L w) (hk:L[k]?=some (.row A c T sz (nD enc m))) (hc:cut m 0 b=some xs):St B U (L.set k (.row A c T sz (nD enc xs))) w:=by
 obtain ⟨h0,h1,h2,rfl,hn⟩:=wIv hc
 have:=h.cutRowM (b:=b.toNat) hk
 simpa using this
end Go.KL
namespace Go.KL
open Go.RowKit
section
variable {B:Base} {U U':PHeap} {L:List Res} {w w':World}
theorem Res.At.agree {w2:World} {r:Res} (h:r.At w) (he:∀ b,r.has b->w2.heap[b]?=w.heap[b]?):r.At w2:=by
 cases r with
 | blk b T cs=>exact (he b rfl).trans h
 | obj b o=>exact (he b rfl).trans h
 | abs fp P=>exact ⟨h.2.2 w2 he,fun b hb=>wCb ((he b hb).trans (Array.getElem?_eq_getElem (h.2.1 b hb))),fun w3 h3=>h.2.2 w3 fun b hb=>(h3 b hb).trans (he b hb)⟩
 | row A c T sz cs =>
  rcases h with h | ⟨b,cur,rfl,h1,h2⟩
  ·exact .inl h
  ·exact .inr ⟨b,cur,rfl,(he b rfl).trans h1,h2⟩
def DjL (rs:List Res):Prop:=∀ (i j:Nat) (r s:Res) (b:Nat),rs[i]?=some r->rs[j]?=some s->r.has b->s.has b->i=j
def pack (p:Prop) (rs:List Res):Res:=.abs (fun b=>∃ r ∈ rs,r.has b) (fun w=>p/\(∀ r ∈ rs,r.At w)/\DjL rs)
theorem wNF {p:Prop} {rs:List Res} (hp:p) (ha:∀ r ∈ rs,r.At w) (hd:DjL rs):(pack p rs).At w :=
 ⟨⟨hp,ha,hd⟩,fun b ⟨r,hr,hb⟩=>(ha r hr).lt hb,fun w2 h2=>⟨hp,fun r hr=>(ha r hr).agree fun b hb=>h2 b ⟨r,hr,hb⟩,hd⟩⟩
theorem wLN {α:Type} {X Y:List α} {i:Nat} {r:α} (h:(X ++ Y)[i]?=some r):X[i]?=some r \/ (X.length <= i/\Y[i - X.length]?=some r):=by
 rcases Nat.lt_or_ge i X.length with h1 | h1
 ·rw [nP h1] at h;exact .inl h
 ·rw [nU h1] at h;exact .inr ⟨h1,h⟩
theorem St.unpack {p:Prop} {rs:List Res} (h:St B U (pack p rs :: L) w):p/\St B U (rs ++ L) w:=by
 obtain ⟨⟨hp,ha,hd⟩,_⟩:=h.at_ _ (kF ..)
 have ho:=h.own _ (kF ..)
 refine ⟨hp,h.os,h.tape,h.output,h.size,h.old,h.fro,h.le,h.src,fun r hr=>?_,fun r hr b hb=>?_,fun i j r s b hi hj hr hs=>?_⟩
 ·rcases nL.1 hr with hr | hr
  ·exact ha r hr
  ·exact h.at_ r (kb _ hr)
 ·rcases nL.1 hr with hr | hr
  ·exact ho b ⟨r,hr,hb⟩
  ·exact h.own r (kb _ hr) b hb
 ·rcases wLN hi with hi | ⟨h1,hi⟩ <;> rcases wLN hj with hj | ⟨h2,hj⟩
  ·exact hd i j r s b hi hj hr hs
  ·have:=h.dj 0 (j - rs.length + 1) _ s b rfl (by simpa using hj) ⟨r,nj hi,hr⟩ hs;omega
  ·have:=h.dj (i - rs.length + 1) 0 r _ b (by simpa using hi) rfl hr ⟨s,nj hj,hs⟩;omega
  ·have:=h.dj (i - rs.length + 1) (j - rs.length + 1) r s b (by simpa using hi) (by simpa using hj) hr hs;omega
theorem St.pack {p:Prop} {rs:List Res} (hp:p) (h:St B U (rs ++ L) w):St B U (pack p rs :: L) w:=by
 refine ⟨h.os,h.tape,h.output,h.size,h.old,h.fro,h.le,h.src,fun r hr=>?_,fun r hr b hb=>?_,fun i j r s b hi hj hr hs=>?_⟩
 ·rcases nn.1 hr with rfl | hr
  ·refine wNF hp (fun r hr=>h.at_ r (kc _ hr)) fun i j r s b hi hj hr hs=>?_
   exact h.dj i j r s b (by rw [nP (nI.1 hi).1];exact hi) (by rw [nP (nI.1 hj).1];exact hj) hr hs
  ·exact h.at_ r (kX _ hr)
 ·rcases nn.1 hr with rfl | hr
  ·obtain ⟨r,hr,hb⟩:=hb
   exact h.own r (kc _ hr) b hb
  ·exact h.own r (kX _ hr) b hb
 ·have up:∀ (q:Nat) (t:Res),L[q]?=some t->(rs ++ L)[rs.length + q]?=some t:=fun q t hq=>by rw [nU (by omega)];simpa using hq
  have lo:∀ (q:Nat) (t:Res),rs[q]?=some t->(rs ++ L)[q]?=some t:=fun q t hq=>by rw [nP (nI.1 hq).1];exact hq
  cases i with
  | zero =>
   simp only [kS,kq] at hi;subst hi
   cases j with
   | zero=>rfl
   | succ j =>
    obtain ⟨r,hr,hb⟩:=hr
    obtain ⟨q,hq⟩:=kd hr
    have:=h.dj q (rs.length + j) r s b (lo q r hq) (up j s (by simpa using hj)) hb hs
    have:=(nI.1 hq).1;omega
  | succ i =>
   cases j with
   | zero =>
    simp only [kS,kq] at hj;subst hj
    obtain ⟨s,hs,hb⟩:=hs
    obtain ⟨q,hq⟩:=kd hs
    have:=h.dj (rs.length + i) q r s b (up i r (by simpa using hi)) (lo q s hq) hr hb
    have:=(nI.1 hq).1;omega
   | succ j =>
    have:=h.dj (rs.length + i) (rs.length + j) r s b (up i r (by simpa using hi)) (up j s (by simpa using hj)) hr hs;omega
structure Hd where
 A:Option Addr
 n:Nat
 c:Nat
instance:Inhabited Hd:=⟨⟨none,0,0⟩⟩
def wFE (h:Hd):List Value:=[.slice h.A h.n h.c]
variable {α:Type} {T sz:Nat} {enc:α->List Value} {hs hs2:List Hd} {m m2:List (List α)}
def inR (T sz:Nat) (enc:α->List Value) (h:Hd) (l:List α):Res:=.row h.A h.c T sz (nD enc l)
def Fit (hs:List Hd) (m:List (List α)):Prop:=hs.map (·.n)=m.map List.length
def inn (T sz:Nat) (enc:α->List Value) (hs:List Hd) (m:List (List α)):Res:=pack (Fit hs m) (nc (inR T sz enc) hs m)
def wIw (T sz:Nat) (enc:α->List Value) (hs:List Hd) (m:List (List α)) (k:Nat):Res:=pack (Fit hs m/\k < m.length) ((nc (inR T sz enc) hs m).eraseIdx k)
theorem Fit.len (h:Fit hs m):hs.length=m.length:=by simpa using congrArg List.length h
theorem Fit.at_ (h:Fit hs m) {k:Nat} (hk:k < m.length):(gd hs k).n=(gd m k).length:=by
 have e:=congrArg (·[k]?) h
 have h1:=wBJ (xs:=hs) (k:=k) (by rw [h.len];exact hk)
 have h2:=wBJ (xs:=m) hk
 simpa [h1,h2] using e
theorem Fit.set (h:Fit hs m) {k:Nat} {A:Option Addr} {c:Nat} {l:List α}:Fit (hs.set k ⟨A,l.length,c⟩) (m.set k l):=by
 unfold Fit at *
 rw [List.map_set,List.map_set,h]
theorem St.innFit {j:Nat} (h:St B U L w) (hk:L[j]?=some (inn T sz enc hs m)):Fit hs m:=(h.at_ _ (nj hk)).1.1
theorem St.innHFit {j k:Nat} (h:St B U L w) (hk:L[j]?=some (wIw T sz enc hs m k)):Fit hs m/\k < m.length:=(h.at_ _ (nj hk)).1.1
theorem St.innNil (T sz:Nat) (enc:α->List Value) (h:St B U L w):St B U (inn T sz enc [] [] :: L) w:=St.pack (p:=Fit [] ([]:List (List α))) (rs:=[]) rfl h
theorem St.innOne {A:Option Addr} {c:Nat} {l:List α} (h:St B U (.row A c T sz (nD enc l) :: L) w):St B U (inn T sz enc [⟨A,l.length,c⟩] [l] :: L) w:=St.pack (p:=Fit [⟨A,l.length,c⟩] [l]) (rs:=[.row A c T sz (nD enc l)]) rfl h
theorem St.swap {r s:Res} (h:St B U (r :: s :: L) w):St B U (s :: r :: L) w:=by
 have:=h.front (k:=1) (r:=s) rfl
 exact this
theorem St.innApp (h:St B U (inn T sz enc hs m :: inn T sz enc hs2 m2 :: L) w):St B U (inn T sz enc (hs ++ hs2) (m ++ m2) :: L) w:=by
 obtain ⟨p1,h1⟩:=h.swap.unpack
 have h2:St B U (inn T sz enc hs m :: (nc (inR T sz enc) hs2 m2 ++ L)) w:=by
  have:=h1.front (k:=(nc (inR T sz enc) hs2 m2).length) (r:=inn T sz enc hs m) (by rw [nU (nJ _)];simp)
  rw [List.eraseIdx_append_of_length_le (nJ _)] at this
  simpa using this
 obtain ⟨p2,h3⟩:=h2.unpack
 refine St.pack (by unfold Fit at *;rw [nM,nM,p1,p2]) ?_
 rw [List.zipWith_append p2.len]
 rw [nQ]
 exact h3
theorem wOK (hf:Fit hs m) {k:Nat} (hk:k < m.length):(nc (inR T sz enc) hs m)[k]?=some (inR T sz enc (gd hs k) (gd m k)):=by
 rw [List.getElem?_zipWith,wBJ (xs:=hs) (by rw [hf.len];exact hk),wBJ (xs:=m) hk]
theorem wGg {β:Type}:∀ {l:List β} {i:Nat} (h:i < l.length),(l[i] :: l.eraseIdx i).Perm l
 | a :: l,0,_=>ku _
 | a :: l,i + 1,h=>by
  have hi:i < l.length:=by simpa using h
  simp only [List.getElem_cons_succ,List.eraseIdx_cons_succ]
  exact (List.Perm.swap a l[i] _).trans ((wGg hi).cons a)
theorem wMh (L:List Res):DjL L ↔ L.Pairwise (fun r s=>∀ b,r.has b->¬ s.has b):=by
 rw [kM]
 constructor
 ·intro h i j hi hj hij b h1 h2
  have:=h i j _ _ b (nA hi) (nA hj) h1 h2
  omega
 ·intro h i j r s b hi hj h1 h2
  obtain ⟨hi',rfl⟩:=nI.1 hi
  obtain ⟨hj',rfl⟩:=nI.1 hj
  rcases Nat.lt_trichotomy i j with q | q | q
  ·exact absurd h2 (h i j hi' hj' q b h1)
  ·exact q
  ·exact absurd h1 (h j i hj' hi' q b h2)
theorem St.perm {L':List Res} (h:St B U L w) (p:L.Perm L'):St B U L' w :=
 ⟨h.os,h.tape,h.output,h.size,h.old,h.fro,h.le,h.src,fun r hr=>h.at_ r (p.mem_iff.2 hr),fun r hr=>h.own r (p.mem_iff.2 hr),
  (wMh L').2 ((p.pairwise_iff fun hab b h1 h2=>hab b h2 h1).1 ((wMh L).1 h.dj))⟩
theorem wNG (hs:List Hd) (m:List (List α)) (k:Nat) (h:Hd) (l:List α):nc (inR T sz enc) (hs.set k h) (m.set k l)=(nc (inR T sz enc) hs m).set k (inR T sz enc h l):=by
 induction hs generalizing m k with
 | nil=>simp
 | cons a hs ih =>
  cases m with
  | nil=>simp
  | cons b m =>
   cases k with
   | zero=>simp
   | succ k=>simp [ih]
theorem St.innTake {k:Nat} (h:St B U (inn T sz enc hs m :: L) w) (hk:k < m.length):St B U (.row (gd hs k).A (gd hs k).c T sz (nD enc (gd m k)) :: wIw T sz enc hs m k :: L) w:=by
 obtain ⟨p,h1⟩:=h.unpack
 have hl:k < (nc (inR T sz enc) hs m).length:=by rw [kf,p.len];omega
 have e:(nc (inR T sz enc) hs m)[k]=inR T sz enc (gd hs k) (gd m k):=by
  have:=wOK (T:=T) (sz:=sz) (enc:=enc) p hk
  rw [nA hl] at this
  exact nl this
 have h2:=h1.perm ((wGg hl).symm.append_right L)
 rw [e] at h2
 refine St.swap (St.pack ⟨p,hk⟩ (h2.perm ?_))
 exact nv.symm
theorem St.innPut {k:Nat} {A:Option Addr} {c:Nat} {l:List α} (h:St B U (.row A c T sz (nD enc l) :: wIw T sz enc hs m k :: L) w):St B U (inn T sz enc (hs.set k ⟨A,l.length,c⟩) (m.set k l) :: L) w:=by
 obtain ⟨⟨p,hk⟩,h1⟩:=h.swap.unpack
 refine St.pack p.set ?_
 rw [wNG]
 have hl:k < ((nc (inR T sz enc) hs m).set k (inR T sz enc ⟨A,l.length,c⟩ l)).length:=by rw [nm,kf,p.len];omega
 have h2:=h1.perm nv
 refine h2.perm (kr ?_ ((wGg hl).append_right L))
 rw [List.getElem_set_self,List.eraseIdx_set_eq]
 exact ku _
theorem St.innBack {k:Nat} {l:List α} (h:St B U (.row (gd hs k).A (gd hs k).c T sz (nD enc l) :: wIw T sz enc hs m k :: L) w) (hl:l.length=(gd m k).length):St B U (inn T sz enc hs (m.set k l) :: L) w:=by
 obtain ⟨p,hk⟩:=h.innHFit (j:=1) rfl
 have:=h.innPut
 rw [show hs.set k ⟨(gd hs k).A,l.length,(gd hs k).c⟩=hs from ?_] at this
 ·exact this
 ·have h1:=wBJ (xs:=hs) (k:=k) (by rw [p.len];exact hk)
  apply kJ
  intro i
  rw [kK]
  split
  ·rename_i e;subst e
   rw [if_pos (by rw [p.len];exact hk),h1,hl,<- p.at_ hk]
  ·rfl
theorem St.innBack0 {k:Nat} (h:St B U (.row (gd hs k).A (gd hs k).c T sz (nD enc (gd m k)) :: wIw T sz enc hs m k :: L) w):St B U (inn T sz enc hs m :: L) w:=by
 obtain ⟨p,hk⟩:=h.innHFit (j:=1) rfl
 have h2:=h.innBack rfl
 rw [show m.set k (gd m k)=m from ?_] at h2
 ·exact h2
 ·have h1:=wBJ (xs:=m) hk
  apply kJ
  intro i
  rw [kK]
  split
  ·rename_i e;subst e
   first | exact h1.symm | simp [hk,h1]
  ·rfl
theorem St.innFreeze {R:Rl (List α)} (hR:∀ U A c l,Sl U sz A c l.length (nD enc l)->R.r U l [.slice A l.length c]) (he:∀ x,(enc x).length=sz) (hz:0 < sz):∀ {hs:List Hd} {m:List (List α)} {U:PHeap} {L:List Res},Fit hs m->St B U (nc (inR T sz enc) hs m ++ L) w->∃ U',PHeap.Le U U'/\RlL U' R m (nD wFE hs)/\St B U' L w
 | [],[],U,L,_,h=>⟨U,PHeap.Le.refl U,RlL.nil,h⟩
 | [],_ :: _,_,_,p,_=>by cases p
 | _ :: _,[],_,_,p,_=>by cases p
 | a :: hs,l :: m,U,L,p,h=>by
  have p1:a.n=l.length/\Fit hs m:=by simpa [Fit] using p
  obtain ⟨U1,g1,g2,g3⟩:=St.freezeR (n:=l.length) (sz:=sz) h (k:=0) rfl (wAD he l) hz
  obtain ⟨U2,k1,k2,k3⟩:=St.innFreeze hR he hz p1.2 g3
  refine ⟨U2,g1.trans k1,?_,k3⟩
  have:=RlL.cons (hR U2 a.A a.c l (g2.le k1)) k2
  rw [<- p1.1] at this
  exact this
theorem St.freezeN {R:Rl (List α)} {A:Option Addr} {c S:Nat} (h:St B U (.row A c S 1 (nD wFE hs) :: inn T sz enc hs m :: L) w) (hR:∀ U A c l,Sl U sz A c l.length (nD enc l)->R.r U l [.slice A l.length c]) (he:∀ x,(enc x).length=sz) (hz:0 < sz) (hR1:R.sz=1) :
  ∃ U',PHeap.Le U U'/\SlR U' R A c m/\St B U' L w:=by
 obtain ⟨p,h1⟩:=h.swap.unpack
 obtain ⟨U1,g1,g2,g3⟩:=St.innFreeze hR he hz p h1
 obtain ⟨U2,k1,k2,k3⟩:=g3.freezeRR (k:=0) rfl g2 hR1 (by decide)
 exact ⟨U2,g1.trans k1,k2,k3⟩
theorem wOL {bytes:Nat} {z:List (List α)} (h:app bytes m m2=some z) (p:Fit hs m) (p2:Fit hs2 m2):app bytes hs hs2=some (hs ++ hs2)/\z=m ++ m2:=by
 obtain ⟨rfl,hb⟩:=wLE h
 refine ⟨?_,rfl⟩
 unfold app
 rw [p.len,p2.len,if_pos hb]
theorem slen {J:Env} {x:Operand} {A:Option Addr} {c:Nat} (h:ev J x=.slice A m.length c) (p:Fit hs m):ev J x=.slice A hs.length c:=by rw [h,p.len]
end
section
variable {N:Nat} {P:Program} {l:List Oper} {Q:wEd} {D:List Deferred} {ks:List Nat} {J:Env} {w:World} {i d:Nat} {s:Sch} {o:Oper} {B:Base} {U:PHeap} {L:List Res}
theorem RunsK.to {v v':Value} (h:RunsK P J w o v) (e:v=v'):RunsK P J w o v':=e ▸ h
end
end Go.KL
namespace Go.KL
open Go.RowKit
section
variable {P:Program} {N:Nat} {l:List Oper} {Q:wEd} {D:List Deferred} {ks:List Nat} {s:Sch} {J:Env} {w:World} {B:Base} {U:PHeap} {L:List Res} {i d:Nat} {o:Oper}
theorem OKS.appendP {α:Type} {t e sz j c c2 k:Nat} {A A2:Option Addr} {inf:TypeInfo} {x y:Operand} {enc:α->List Value} {m:List α} {v:α}
  (ho:l[i]?=some o) (hd:o.dst=some d) (hN:Nat.blt d N=true) (hw:wanted l J o=true) (hop:o.op=.call { callee:=.builtin .append,args:=#[x,y],argTypes:=#[t,t] })
  (ht:P.underlying t=some (.slice e)) (hi:P.info? e=some inf) (hsize:inf.size=sz) (hsz:Nat.blt 0 sz=true)
  (hS:St B U L w) (hk:L[j]?=some (.row A c e sz (m.flatMap enc))) (hx:ev J x=.slice A k c) (hy:ev J y=.slice A2 1 c2)
  (hsrc:([v]:List α).length=0 \/ ∃ a,A2=some a/\∀ j u,(([v]:List α).flatMap enc)[j]?=some u->w.cell? (a.add j)=some u) (hel:∀ x,(enc x).length=sz) (h1:∀ x,(enc x).all (·.oneCell')=true)
  (hm:chk (k:Int) m.length=some ()) (hne:wGF (kOf ks i)=false)
  (kk:∀ w',St B U (L.set j (.row A c e sz ((m.set k v).flatMap enc))) w'->OKS N P l Q D ks s (upd J d (.slice A (k + 1) c)) w'):OKS N P l Q D ks (.fx i s .stop) J w:=by
 have hkm:k < m.length:=by have:=wAS hm;omega
 have hsz':0 < sz:=by simpa [Nat.blt_eq] using hsz
 have hlen:(m.flatMap enc).length=m.length * sz:=wAD hel m
 obtain ⟨b0,hA⟩:=hS.rowSome hk (by rw [hlen];exact Nat.mul_pos (by omega) hsz')
 subst hA hsize
 obtain ⟨cur,g1,g2,g3,g4,g5⟩:=RowAt.cells (hS.at_ _ (nj hk))
 have hmc:m.length <= c:=by rw [hlen] at g2;exact Nat.le_of_mul_le_mul_right g2 hsz'
 obtain ⟨a,rfl,hc⟩:=hsrc.resolve_left (by simp)
 have e1:([v]:List α).flatMap enc=enc v:=by simp
 rw [e1] at hc
 have hle:(k + 1) * inf.size <= c * inf.size:=nq _ (by omega)
 rw [kU,kV] at hle
 have hr:=run_append_room (P:=P) w t o.type e inf ht hi b0 k c cur g1 a 1 c2 (enc v) (by rw [hel,kV]) hc (fun u hu=>na.1 (h1 v) u hu) (by omega) (by rw [hel,g4];exact hle)
 have hset:cur.toList.take (k * inf.size) ++ enc v ++ cur.toList.drop (k * inf.size + (enc v).length)=wFC cur.toList (k * inf.size) (enc v):=(wJj _ _ _ (by rw [hel];simp only [Array.length_toList];omega)).symm
 rw [hset] at hr
 refine OKS.v (v:=.slice (some ⟨b0,0,none⟩) (k + 1) c) (w':=w.setRow b0 (wFC cur.toList (k * inf.size) (enc v)).toArray) ho hd hN hw ⟨by rw [hop];rfl,?_⟩ (.inl hne) (kk _ (hS.set hk ⟨rfl,⟨rfl,nJ _⟩,rfl,by simp [World.setRow],fun q _ hq=>setRow_other w b0 q _ fun e=>hq (by rw [e];rfl)⟩ (.inr ⟨b0,_,rfl,setRow_heap w b0 cur _ e _ g1,?_,g3,?_,?_⟩) fun b hb=>.inl hb))
 ·simp [execOp,hop,resolve,invoke,builtin,hx,hy,hr,Result.andThen]
 ·rw [wAD hel,nm]
  exact nq _ hmc
 ·simp [wDe,g4]
 ·have h2:(m.flatMap enc).length=((m.set k v).flatMap enc).length:=by rw [wAD hel,wAD hel,nm]
  have h3:k * inf.size + (enc v).length <= (m.flatMap enc).length:=by
   have:(k + 1) * inf.size <= m.length * inf.size:=nq _ (by omega)
   rw [kU,kV] at this
   rw [hel,hlen];exact this
  show (wFC cur.toList (k * inf.size) (enc v)).take _=_
  rw [<- h2,wHM _ _ _ _ h3,g5]
  have hx:m[k]?=some m[k]:=nA hkm
  have:=wFK (f:=enc) hel (vs:=enc v) (off:=0) m k _ v hx (by rw [hel];omega) (by
   have hv:(enc m[k]).length=(enc v).length:=by rw [hel,hel]
   rw [wJj _ _ _ (by omega),List.take_zero,List.nil_append,nV,<- hv,List.drop_length,kB])
  simpa using this
end
theorem wOM {α:Type} {m xs:List α} {k:Nat} (h:Go.KL.cut m 0 (k:Int)=some xs):xs.length=k:=by
 obtain ⟨_,_,_,_,hn⟩:=wIv h
 rw [hn];simp
end Go.KL
namespace Go.KL
open Go.RowKit
section
variable {B:Base} {U:PHeap} {L:List Res} {w:World}
def DjQ (rs:List Res):Prop:=∀ (i j:Nat) (r s:Res) (b:Nat),rs[i]?=some r->rs[j]?=some s->r.has b->s.has b->i=j
theorem djQ (L:List Res):DjQ L ↔ L.Pairwise (fun r s=>∀ b,r.has b->¬ s.has b):=by
 rw [kM]
 constructor
 ·intro h i j hi hj hij b h1 h2
  have:=h i j _ _ b (nA hi) (nA hj) h1 h2
  omega
 ·intro h i j r s b hi hj h1 h2
  obtain ⟨hi',rfl⟩:=nI.1 hi
  obtain ⟨hj',rfl⟩:=nI.1 hj
  rcases Nat.lt_trichotomy i j with q | q | q
  ·exact absurd h2 (h i j hi' hj' q b h1)
  ·exact q
  ·exact absurd h1 (h j i hj' hi' q b h2)
theorem St.permQ {L':List Res} (h:St B U L w) (p:L.Perm L'):St B U L' w :=
 ⟨h.os,h.tape,h.output,h.size,h.old,h.fro,h.le,h.src,fun r hr=>h.at_ r (p.mem_iff.2 hr),fun r hr=>h.own r (p.mem_iff.2 hr),
  (djQ L').2 ((p.pairwise_iff fun hab b h1 h2=>hab b h2 h1).1 ((djQ L).1 h.dj))⟩
end
structure Ad where
 i:Nat
 d:Nat
 post:Value->List Res->Prop
def Kn:List (Nat × Value)->Env->Prop
 | [],_=>True
 | p :: l,J=>J p.1=p.2/\Kn l J
theorem Kn.upd {d:Nat} {v:Value} {J:Env}:∀ {kn:List (Nat × Value)},Kn kn J->kn.all (fun p=>!Nat.beq p.1 d)=true->Kn kn (upd J d v)
 | [],_,_=>trivial
 | p :: l,⟨h1,h2⟩,h=>by
  rw [kH,nb] at h
  refine ⟨?_,h2.upd h.2⟩
  have hne:p.1 ≠ d:=fun e=>by rw [e] at h;simp at h
  have hb:kO p.1 d=false:=by
   cases hq:kO p.1 d with
   | false=>rfl
   | true=>exact absurd (kY hq) hne
  show (bif kO p.1 d then v else J p.1)=p.2
  rw [hb]
  exact h1
theorem wON (J:Env) (d:Nat) (v:Value):upd J d v d=v:=by
 show (bif kO d d then v else J d)=v
 rw [Nat.beq_refl];rfl
theorem wNH {J:Env} {d t:Nat} {v:Value} (h:t ≠ d):upd J d v t=J t:=by
 have hb:kO t d=false:=by
  cases hq:kO t d with
  | false=>rfl
  | true=>exact absurd (kY hq) h
 show (bif kO t d then v else J t)=J t
 rw [hb];rfl
def adT (pr:List (Nat × List Nat)) (t:Sch):Nat->List Nat->List Nat->Sch
 | 0,_,_=>.stop
 | _ + 1,[],_=>t
 | n + 1,i :: td,dn=>((i :: td).filter fun j=>(pr.all fun q=>!Nat.beq q.1 j || q.2.all fun x=>dn.contains x)).foldr (fun j a=>.fx j (adT pr t n ((i :: td).erase j) (j :: dn)) a) .stop
def wOO (ads:List Ad) (kn:List (Nat × Value)):Bool:=decide ((ads.map (·.i)).Nodup) && decide ((ads.map (·.d)).Nodup) && ads.all fun a=>kn.all fun p=>!Nat.beq p.1 a.d
theorem wKG {α β:Type} {f:α->β}:∀ {ys:List β} {xs:List α},(xs.map f).Perm ys->∃ zs:List α,zs.Perm xs/\zs.map f=ys
 | [],xs,h=>⟨[],by
  have:=h.length_eq
  simp at this
  subst this;exact .refl _,rfl⟩
 | y :: ys,xs,h=>by
  obtain ⟨x,hx,e⟩:=nW.1 (h.mem_iff.2 (kF (a:=y) (l:=ys)))
  obtain ⟨s,t,rfl⟩:=ki hx
  have h2:((s ++ t).map f).Perm ys:=by
   rw [nM,kI,e] at h
   rw [nM]
   exact (List.Perm.cons_inv ((nv (a:=y)).symm.trans h))
  obtain ⟨zs,p,q⟩:=wKG h2
  exact ⟨x :: zs,(p.cons x).trans nv.symm,by rw [kI,e,q]⟩
theorem wLO {α β:Type} (g:α->List β) {xs ys:List α} (h:xs.Perm ys):(xs.flatMap g).Perm (ys.flatMap g):=by
 induction h with
 | nil=>exact .refl _
 | cons x _ ih=>rw [nR,nR];exact ih.append_left _
 | swap x y l =>
  rw [nR,nR,nR,nR,<- nQ,<- nQ]
  exact (List.perm_append_comm).append_right _
 | trans _ _ a b=>exact a.trans b
def AdE (G:List (Nat × Value)->List Res->Prop):List Ad->List (Nat × Value)->List Res->Prop
 | [],vs,L=>G vs L
 | a :: l,vs,L=>∀ v R,a.post v R->AdE G l (vs ++ [(a.d,v)]) (L ++ R)
section
variable {N:Nat} {P:Program} {Q:wEd} {D:List Deferred} {l:List Oper} {ks:List Nat} {B:Base} {U0:PHeap} {L0:List Res}
def AdOK (N:Nat) (P:Program) (l:List Oper) (Q:wEd) (D:List Deferred) (ks:List Nat) (B:Base) (U0:PHeap) (L0:List Res) (kn:List (Nat × Value)) (a:Ad):Prop :=
 ∀ (s:Sch) (J:Env) (w:World) (U:PHeap) (L:List Res),Kn kn J->PHeap.Le U0 U->St B U (L ++ L0) w ->
  (∀ v w' U' R,PHeap.Le U U'->St B U' (R ++ (L ++ L0)) w'->a.post v R->OKS N P l Q D ks s (upd J a.d v) w')->OKS N P l Q D ks (.fx a.i s .stop) J w
theorem wMi {G:List (Nat × Value)->List Res->Prop}:∀ (xs:List (Ad × Value × List Res)) (vs:List (Nat × Value)) (L:List Res),AdE G (xs.map (·.1)) vs L->(∀ x ∈ xs,x.1.post x.2.1 x.2.2)->G (vs ++ xs.map fun x=>(x.1.d,x.2.1)) (L ++ xs.flatMap (·.2.2))
 | [],vs,L,h,_=>by
  have h:G vs L:=h
  simpa using h
 | x :: xs,vs,L,h,hp=>by
  have:=wMi xs _ _ (h x.2.1 x.2.2 (hp x (.head _))) fun y hy=>hp y (.tail _ hy)
  simpa [nQ] using this
theorem wOP {J:Env}:∀ (xs:List (Ad × Value × List Res)),(∀ x ∈ xs,J x.1.d=x.2.1)->Kn (xs.map fun x=>(x.1.d,x.2.1)) J
 | [],_=>trivial
 | x :: xs,h=>⟨h x (.head _),wOP xs fun y hy=>h y (.tail _ hy)⟩
theorem OKS.adders {t:Sch} (pr:List (Nat × List Nat)) (ads:List Ad) (kn:List (Nat × Value)) (F:List Nat) (hc:wOO ads kn=true) (H:∀ a ∈ ads,AdOK N P l Q D ks B U0 L0 kn a)
  (E:AdE (fun vs L=>∀ (J:Env) (w:World) (U:PHeap),Kn kn J->Kn vs J->PHeap.Le U0 U->St B U (L ++ L0) w->OKS N P l Q D ks t J w) ads [] []) {J:Env} {w:World} (hk:Kn kn J) (hS:St B U0 L0 w) :
  OKS N P l Q D ks (adT pr t (ads.length + 1) (ads.map (·.i)) F) J w:=by
 unfold wOO at hc
 simp only [nb,decide_eq_true_eq] at hc
 obtain ⟨⟨hi,hd⟩,hkn⟩:=hc
 have hkn:=na.1 hkn
 have main:∀ (n:Nat) (td:List Ad) (dn:List (Ad × Value × List Res)) (F:List Nat) (J:Env) (w:World) (U:PHeap),td.length < n->(dn.map (·.1) ++ td).Perm ads->Kn kn J->PHeap.Le U0 U->(∀ x ∈ dn,J x.1.d=x.2.1/\x.1.post x.2.1 x.2.2)->St B U (dn.flatMap (·.2.2) ++ L0) w->OKS N P l Q D ks (adT pr t n (td.map (·.i)) F) J w:=by
  intro n
  induction n with
  | zero=>intro td dn F J w U h;omega
  | succ n ih =>
   intro td dn F J w U hn hp hk hle hx hS
   cases td with
   | nil =>
    rw [kB] at hp
    obtain ⟨zs,p,q⟩:=wKG hp
    have hz:∀ x ∈ zs,J x.1.d=x.2.1/\x.1.post x.2.1 x.2.2:=fun x h=>hx x (p.mem_iff.1 h)
    have:=wMi zs [] [] (by rw [q];exact E) fun x h=>(hz x h).2
    exact this J w U hk (wOP zs fun x h=>(hz x h).1) hle (hS.permQ ((wLO _ p.symm).append_right _))
   | cons b td =>
    have hids:(((b :: td).map (·.i))).Nodup:=by
     have h1:=(hp.map (·.i)).nodup_iff.2 hi
     rw [nM] at h1
     exact (nt.1 h1).2.1
    have each:∀ sub:List Nat,(∀ j ∈ sub,j ∈ (b :: td).map (·.i))->OKS N P l Q D ks (sub.foldr (fun j a=>.fx j (adT pr t n (((b :: td).map (·.i)).erase j) (j :: F)) a) .stop) J w:=by
     intro sub
     induction sub with
     | nil=>exact fun _=>trivial
     | cons j sub ih2 =>
      intro hsub
      refine OKS.both ?_ (ih2 fun x h=>hsub x (.tail _ h))
      obtain ⟨a,ha,e⟩:=nW.1 (hsub j (.head _))
      subst e
      obtain ⟨s1,s2,es⟩:=ki ha
      rw [es] at hids hp hn ⊢
      have her:(((s1 ++ a :: s2).map (·.i)).erase a.i)=(s1 ++ s2).map (·.i):=by
       rw [nM,kI] at hids ⊢
       have hno:a.i ∉ s1.map (·.i):=fun h=>(nt.1 hids).2.2 _ h _ (.head _) rfl
       rw [List.erase_append_right _ hno,List.erase_cons_head,nM]
      rw [her]
      have ham:a ∈ ads:=hp.mem_iff.1 (nL.2 (.inr (nL.2 (.inr (.head _)))))
      refine H a ham _ J w U _ hk hle hS fun v w' U' R h1 h2 h3=>?_
      refine ih (s1 ++ s2) ((a,v,R) :: dn) (a.i :: F) (upd J a.d v) w' U' (by simp only [nN,nE] at hn ⊢;omega) ?_ (hk.upd (hkn a ham)) (hle.trans h1) (fun x hxm=>?_) (by rw [nR,nQ];exact h2)
      ·rw [kI,kA,<- nQ]
       refine kr ?_ hp
       rw [<- nQ]
       exact nv.symm
      ·rcases nn.1 hxm with rfl | hxm
       ·exact ⟨wON J a.d v,h3⟩
       ·have hne:x.1.d ≠ a.d:=fun e=>by
         have h1:=(hp.map (·.d)).nodup_iff.2 hd
         rw [nM] at h1
         exact (nt.1 h1).2.2 x.1.d (nW.2 ⟨x.1,nW.2 ⟨x,hxm,rfl⟩,rfl⟩) a.d (nW.2 ⟨a,nL.2 (.inr (.head _)),rfl⟩) e
        refine ⟨?_,(hx x hxm).2⟩
        rw [wNH hne]
        exact (hx x hxm).1
    exact each _ fun j hj=>(List.mem_filter.1 hj).1
 exact main _ ads [] F J w U0 (Nat.lt_succ_self _) (by simpa using .refl _) hk (PHeap.Le.refl _) (fun (x:Ad × Value × List Res) (h:x ∈ [])=>by cases h) (by simpa using hS)
end
end Go.KL
namespace Go.KL
open Go.RowKit
section
variable {N:Nat} {P:Program} {l:List Oper} {Q:wEd} {D:List Deferred} {ks:List Nat} {s:Sch} {J:Env} {w:World} {B:Base} {U:PHeap} {L:List Res} {i d:Nat} {o:Oper}
theorem wKf (v:Value) (k n:Nat) (hk:0 < k):madeCells (kC k v) n=(nB n v).toArray:=by
 apply Array.ext'
 simp only [madeCells]
 apply kP
 ·simp
 ·intro i h1 h2
  simp at h1 ⊢
  have hm:i % k < (kC k v).size:=by simpa using Nat.mod_lt i hk
  rw [getElem!_pos (kC k v) (i % k) hm]
  simp
theorem wGJ {α:Type} {enc:α->List Value} {z:α} {v:Value} {k:Nat} (h:enc z=nB k v) (n:Nat):nD enc (nB n z)=nB (n * k) v:=by
 induction n with
 | zero=>simp
 | succ n ih=>rw [List.replicate_succ,nR,ih,h,List.replicate_append_replicate,kU,kV,Nat.add_comm]
theorem OKS.makeSliceZ {α:Type} {t e:TypeId} {inf:TypeInfo} {x y:Operand} {n:Int} {v u:Value} {enc:α->List Value} {z:α} {xs:List α} {sz:Nat} (ho:l[i]?=some o) (hd:o.dst=some d) (hN:Nat.blt d N=true) (hw:wanted l J o=true) (hop:o.op=.makeSlice t x y)
  (ht:P.underlying t=some (.slice e)) (hi:P.info? e=some inf) (hz:inf.zero=some u) (hc:u.cells=kC sz v) (hs:inf.size=sz) (henc:enc z=nB sz v) (hsz:0 < sz) (hb:sz <= 16) (hx:ev J x=.int .i64 n) (hy:ev J y=.int .i64 n) (hm:mkz inf.bytes n z=some xs) (hS:St B U L w)
  (k:∀ w' b,St B U (.row (some ⟨b,0,none⟩) xs.length e sz (nD enc xs) :: L) w'->OKS N P l Q D ks s (upd J d (.slice (some ⟨b,0,none⟩) xs.length xs.length)) w'):OKS N P l Q D ks (.fx i s .stop) J w:=by
 unfold mkz at hm
 split at hm
 ·rename_i h
  obtain ⟨h0,h1,h2⟩:=h
  cases hm
  obtain ⟨m,rfl⟩:=nw h0
  have hr:=run_make (P:=P) w t e inf _ ht hi hz .i64 .i64 (m:Int) (m:Int) (by omega) (by omega) h2 (by omega)
  simp only [hs,nK,hc,wKf v sz (m * sz) hsz] at hr
  simp only [nK,List.length_replicate,wGJ henc] at k
  have hmax:m <= maxLen:=by
   have h16:(16777216:Nat) <= maxLen:=by decide
   omega
  refine OKS.v (v:=.slice (some ⟨w.heap.size,0,none⟩) m m) (w':=w.alloc (.cells (nB (m * sz) v).toArray e)) ho hd hN hw ⟨by rw [hop];rfl,?_⟩ (.inr (wCG w _))
   (k _ _ (hS.new (wCG w _) (.inr ⟨_,(nB (m * sz) v).toArray,rfl,wFH w _ e,by simp,hmax,by simp,by simp⟩) rfl (nJ _)))
  simp [execOp,hop,hx,hy,hr,Result.andThen]
 ·cases hm
end
end Go.KL
namespace Go.KL.Net
structure Ed where
 a:Nat
 b:Nat
 c:Int
def wHZ (es:List Ed) (x:Nat->Int):Prop:=∀ e ∈ es,x e.b <= x e.a + e.c
theorem wNM {P:Int->Prop} {B:Int} (h:∃ m,P m) (hB:∀ m,P m->m <= B):∃ m,P m/\∀ k,P k->k <= m:=by
 have key:∀ (d:Nat) (m:Int),P m->(B - m).toNat <= d->∃ m,P m/\∀ k,P k->k <= m:=by
  intro d
  induction d with
  | zero =>
   intro m hm hd
   exact ⟨m,hm,fun k hk=>by have:=hB k hk;omega⟩
  | succ d ih =>
   intro m hm hd
   rcases kx (∃ k,P k/\m < k) with ⟨k,hk,hlt⟩ | h
   ·exact ih k hk (by have:=hB k hk;omega)
   ·exact ⟨m,hm,fun k hk=>by
     rcases kj m k with c | c
     ·exact absurd ⟨k,hk,c⟩ h
     ·exact c⟩
 obtain ⟨m,hm⟩:=h
 exact key _ m hm (nJ _)
structure Con (n:Nat) (R:Int) (es:List Ed):Prop where
 ends:∀ e ∈ es,e.a < n/\e.b < n
 near:∀ x,wHZ es x->∀ a b,a < n->b < n->x b - x a <= R
 all:∀ (S:Nat->Prop) (i:Nat),i < n->S i->(∀ e ∈ es,S e.a->S e.b)->∀ v,v < n->S v
structure Most (n:Nat) (es:List Ed) (top:Nat->Int) (δ:Nat->Int):Prop where
 ok:wHZ es δ
 le:∀ v,v < n->δ v <= top v
 gr:∀ x,wHZ es x->(∀ v,v < n->x v <= top v)->∀ v,v < n->x v <= δ v
theorem wOj {es:List Ed} {x:Nat->Int} (h:wHZ es x) (k:Int):wHZ es fun v=>x v + k:=fun e he=>by have:=h e he;simp only;omega
theorem wLU {n:Nat} {R:Int} {es:List Ed} (C:Con n R es) {x:Nat->Int} (hx:wHZ es x) {top:Nat->Int} {i:Nat} (hi:i < n) (h0:top i=0) (hp:∀ v,v < n->0 <= top v):∃ δ,Most n es top δ:=by
  have ex:∀ v,∃ m:Int,(v < n->(∃ y,wHZ es y/\(∀ u,u < n->y u <= top u)/\y v=m)/\∀ y,wHZ es y->(∀ u,u < n->y u <= top u)->y v <= m):=by
    intro v
    by_cases hv:v < n
    · obtain ⟨m,hm,hm2⟩:=wNM (P:=fun m=>∃ y,wHZ es y/\(∀ u,u < n->y u <= top u)/\y v=m) (B:=R) ⟨_,fun u=>x u + (-(x i + R)),wOj hx _,fun u hu=>by
          have:=C.near x hx i u hi hu
          have:=hp u hu
          simp only
          omega,rfl⟩ (by
          rintro m ⟨y,hy,hy2,rfl⟩
          have:=C.near y hy i v hi hv
          have:=hy2 i hi
          omega)
      exact ⟨m,fun _=>⟨hm,fun y hy hy2=>hm2 _ ⟨y,hy,hy2,rfl⟩⟩⟩
    · exact ⟨0,fun h=>absurd h hv⟩
  obtain ⟨δ,sp⟩:=Classical.axiomOfChoice ex
  refine ⟨δ,fun e he=>?_,fun v hv=>?_,fun y hy hy2 v hv=>(sp v hv).2 y hy hy2⟩
  · obtain ⟨h1,h2⟩:=C.ends e he
    obtain ⟨⟨y,hy,hy2,hy3⟩,_⟩:=sp e.b h2
    have:=(sp e.a h1).2 y hy hy2
    have:=hy e he
    omega
  · obtain ⟨⟨y,hy,hy2,hy3⟩,_⟩:=sp v hv
    have:=hy2 v hv
    omega
theorem Most.hi {n:Nat} {R:Int} {es:List Ed} (C:Con n R es) {top δ:Nat->Int} (M:Most n es top δ) {i:Nat} (hi:i < n) (h0:top i=0):∀ v,v < n->δ v <= R:=fun v hv=>by
 have:=C.near δ M.ok i v hi hv
 have:=M.le i hi
 omega
theorem Most.tight {n:Nat} {es:List Ed} {top δ:Nat->Int} (M:Most n es top δ) (hes:∀ e ∈ es,e.a < n/\e.b < n) (low:Nat->Int) (h0:∀ v,v < n->low v <= top v) (hT:∃ v,v < n/\δ v < low v) (hge:∀ v,v < n->δ v <= low v) :
  ∃ e ∈ es,low e.a=δ e.a/\δ e.b < low e.b/\δ e.b=δ e.a + e.c:=by
 rcases kx (∃ e ∈ es,low e.a=δ e.a/\δ e.b < low e.b/\δ e.b=δ e.a + e.c) with h | h
 ·exact h
 ·exfalso
  obtain ⟨v,hv,hlt⟩:=hT
  have hx:wHZ es (fun u=>if δ u < low u then δ u + 1 else δ u):=by
   intro e he
   obtain ⟨h1,h2⟩:=hes e he
   have a:=M.ok e he
   have b:=hge e.a h1
   have c:=hge e.b h2
   simp only
   by_cases e1:δ e.b < low e.b
   ·by_cases e2:δ e.a < low e.a
    ·rw [if_pos e1,if_pos e2];omega
    ·rw [if_pos e1,if_neg e2]
     by_cases e3:δ e.b=δ e.a + e.c
     ·exact absurd ⟨e,he,by omega,e1,e3⟩ h
     ·omega
   ·rw [if_neg e1]
    split <;> omega
  have:=M.gr _ hx (fun u hu=>by
   have:=M.le u hu
   have:=h0 u hu
   show (if δ u < low u then δ u + 1 else δ u) <= top u
   split <;> omega) v hv
  have this:(if δ v < low v then δ v + 1 else δ v) <= δ v:=this
  rw [if_pos hlt] at this
  omega
theorem wKI (p q:Nat->Bool) (hpq:∀ v,p v=true->q v=true):∀ (l:List Nat),(∃ v ∈ l,p v=false/\q v=true)->l.countP p < l.countP q
 | [],⟨v,h,_⟩=>by cases h
 | a :: l,⟨v,h,hp,hq⟩=>by
  have mono:∀ l:List Nat,l.countP p <= l.countP q:=fun l=>List.countP_mono_left fun v _ h=>hpq v h
  rw [List.countP_cons,List.countP_cons]
  rcases nn.1 h with rfl | h
  ·have:=mono l
   simp only [hp,hq,if_true,nS,if_false]
   omega
  ·have:=wKI p q hpq l ⟨v,h,hp,hq⟩
   have:(if p a=true then 1 else 0) <= (if q a=true then 1 else 0):=by
    cases e:p a with
    | true=>rw [hpq a e];simp
    | false=>simp
   omega
def wNy (n:Nat) (δ low:Nat->Int):Nat:=(nY n).countP fun v=>decide (low v=δ v)
theorem wNN (n:Nat) (δ low:Nat->Int):wNy n δ low <= n:=by
 have:=List.countP_le_length (p:=fun v=>decide (low v=δ v)) (l:=nY n)
 rw [kL] at this
 exact this
theorem wNO {n:Nat} {δ low low':Nat->Int} (h1:∀ v,v < n->δ v <= low' v) (h2:∀ v,v < n->low' v <= low v) {v:Nat} (hv:v < n) (a:δ v < low v) (b:low' v=δ v):wNy n δ low < wNy n δ low':=by
 have:=wKI (fun v=>decide (low v=δ v)) (fun v=>decide (low' v=δ v) || !decide (v < n)) (fun u hu=>by
  have hu':=of_decide_eq_true hu
  by_cases hun:u < n
  ·have:=h1 u hun
   have:=h2 u hun
   simp only [Bool.or_eq_true,decide_eq_true_eq]
   exact .inl (by omega)
  ·simp [hun]) (nY n) ⟨v,kD.2 hv,decide_eq_false (by omega),by simp [b]⟩
 have e:(nY n).countP (fun v=>decide (low' v=δ v) || !decide (v < n))=(nY n).countP (fun v=>decide (low' v=δ v)):=by
  apply List.countP_congr
  intro u hu
  have:u < n:=kD.1 hu
  simp [this]
 unfold wNy
 omega
structure IsD (n:Nat) (es:List Ed) (i:Nat) (f:Nat->Int):Prop where
 ok:wHZ es f
 zero:f i=0
 gr:∀ x,wHZ es x->∀ v,v < n->x v - x i <= f v
end Go.KL.Net
namespace Go.KL
variable {S S' B B' α:Type}
theorem wKJ {body:Nat->S->Option (S ⊕ B)} (I:Nat->S->Prop) (Z:B->Prop):∀ (m k:Nat) (s:S),I k s ->
  (∀ i s,k <= i->i < k + m->I i s->(∃ s',body i s=some (.inl s')/\I (i + 1) s') \/ ∃ b,body i s=some (.inr b)/\Z b) ->
  (∃ s',forN body m k s=some (.inl s')/\I (k + m) s') \/ ∃ b,forN body m k s=some (.inr b)/\Z b
 | 0,k,s,h,_=>.inl ⟨s,rfl,h⟩
 | m + 1,k,s,h,hb=>by
  simp only [forN]
  rcases hb k s (nJ _) (by omega) h with ⟨s',h1,h2⟩ | ⟨b,h1,h2⟩
  ·rw [h1]
   have:=wKJ I Z m (k + 1) s' h2 fun i s h2 h3 h4=>hb i s (by omega) (by omega) h4
   rwa [show k + 1 + m=k + (m + 1) from by omega] at this
  ·rw [h1];exact .inr ⟨b,rfl,h2⟩
theorem wDp {body:Nat->S->Option S} (I:Nat->S->Prop):∀ (m k:Nat) (s:S),I k s ->
  (∀ i s,k <= i->i < k + m->I i s->∃ s',body i s=some s'/\I (i + 1) s')->∃ s',forN' body m k s=some s'/\I (k + m) s'
 | 0,k,s,h,_=>⟨s,rfl,h⟩
 | m + 1,k,s,h,hb=>by
  simp only [forN']
  obtain ⟨s',h1,h2⟩:=hb k s (nJ _) (by omega) h
  rw [h1]
  have:=wDp I m (k + 1) s' h2 fun i s h2 h3 h4=>hb i s (by omega) (by omega) h4
  rwa [show k + 1 + m=k + (m + 1) from by omega] at this
theorem wEG {body:Nat->S->Option (S ⊕ B)} {n:Nat} {s:S} (hn:n <= 9223372036854775807):wEw 0 (n:Int) body s=forN body n 0 s:=by
 unfold wEw
 rw [if_pos (by omega),show ((n:Int) - 0).toNat=n from by omega]
theorem wDJ {body:Nat->S->Option S} {n:Nat} {s:S} (hn:n <= 9223372036854775807):wCQ 0 (n:Int) body s=forN' body n 0 s:=by
 unfold wCQ
 rw [if_pos (by omega),show ((n:Int) - 0).toNat=n from by omega]
def first (p:α->Bool):List α->Nat->Int
 | [],_=>-1
 | a :: l,k=>if p a then (k:Int) else first p l (k + 1)
theorem wIz (p:α->Bool):∀ (l:List α) (k:Nat),decide (0 <= first p l k)=l.any p
 | [],k=>by simp [first]
 | a :: l,k=>by
  rw [first,List.any_cons]
  by_cases h:p a
  ·simp [h]
  ·simp [h,wIz p l (k + 1)]
theorem wKl {R:Type} {l:List α} {f:α->Option Bool} {p:α->Bool} (hf:∀ a ∈ l,f a=some (p a)) (hn:l.length <= 9223372036854775807) (z:Int->R) :
  (jn (wEw 0 (↑l.length:Int) (fun k2 (_:Unit)=>(idx l (↑k2:Int)).bind fun x=>(f x).bind fun y=>if y=true then esc (some (z (↑k2:Int))) else some (.inl ())) ()) fun _=>some (z (-1)))=some (z (first p l 0)):=by
 rw [wEG hn]
 have key:∀ (m k:Nat),k + m=l.length->(jn (forN (fun k2 (_:Unit)=>(idx l (↑k2:Int)).bind fun x=>(f x).bind fun y=>if y=true then esc (some (z (↑k2:Int))) else some (.inl ())) m k ()) fun _=>some (z (-1)))=some (z (first p (l.drop k) k)):=by
  intro m
  induction m with
  | zero=>intro k hk;rw [nk (by omega)];rfl
  | succ m ih =>
   intro k hk
   have hlt:k < l.length:=by omega
   rw [ni hlt,first,forN,wGb,nA hlt]
   simp only [hD,hf _ (kQ hlt)]
   by_cases h:p l[k]=true
   ·simp [h]
   ·simp only [h,if_false,nS]
    exact ih (k + 1) (by omega)
 exact key l.length 0 (by omega)
theorem wKm [DecidableEq α] {l m:List α} (hn:l.length <= 9223372036854775807) :
  (if (↑l.length:Int)=(↑m.length:Int) then jn (wEw 0 (↑l.length:Int) (fun k4 (_:Unit)=>(idx l (↑k4:Int)).bind fun x26=>(idx m (↑k4:Int)).bind fun x34=>if x26=x34 then some (.inl ()) else esc (some false)) ()) fun _=>some true else some false)=some (decide (l=m)):=by
 by_cases hl:l.length=m.length
 ·rw [if_pos (by omega),wEG hn]
  have key:∀ (n k:Nat),k + n=l.length->(jn (forN (fun k4 (_:Unit)=>(idx l (↑k4:Int)).bind fun x26=>(idx m (↑k4:Int)).bind fun x34=>if x26=x34 then some (.inl ()) else esc (some false)) n k ()) fun _=>some true)=some (decide (l.drop k=m.drop k)):=by
   intro n
   induction n with
   | zero=>intro k hk;rw [nk (by omega),nk (by omega)];simp [forN]
   | succ n ih =>
    intro k hk
    have h1:k < l.length:=by omega
    have h2:k < m.length:=by omega
    rw [ni h1,ni h2,forN,wGb,wGb,nA h1,nA h2]
    simp only [hD]
    by_cases h:l[k]=m[k]
    ·rw [if_pos h]
     simp only
     rw [ih (k + 1) (by omega)]
     congr 1
     exact decide_eq_decide.2 ⟨fun e=>by rw [e,h],fun e=>(kv e).2⟩
    ·rw [if_neg h]
     have:¬ l[k] :: l.drop (k + 1)=m[k] :: m.drop (k + 1):=fun e=>h (kv e).1
     simp only [wEx,wHJ,this,decide_false]
  have:=key l.length 0 (by omega)
  simpa using this
 ·rw [if_neg (by omega)]
  have:l ≠ m:=fun e=>hl (by rw [e])
  simp [this]
theorem wGP {R:Type} {l:List α} {g:α->Option (Unit ⊕ R)} {p:α->Bool} {z:R} {K:Unit->Option R} (hg:∀ a ∈ l,g a=if p a=true then some (.inl ()) else some (.inr z)) (hn:l.length <= 9223372036854775807) :
  jn (wEw 0 (↑l.length:Int) (fun k (_:Unit)=>(idx l (↑k:Int)).bind g) ()) K=if l.all p=true then K () else some z:=by
 rw [wEG hn]
 have key:∀ (m k:Nat),k + m=l.length->jn (forN (fun k (_:Unit)=>(idx l (↑k:Int)).bind g) m k ()) K=if (l.drop k).all p=true then K () else some z:=by
  intro m
  induction m with
  | zero=>intro k hk;rw [nk (by omega)];rfl
  | succ m ih =>
   intro k hk
   have hlt:k < l.length:=by omega
   have e:l.drop k=l[k] :: l.drop (k + 1):=ni hlt
   rw [e,kH,forN,wGb,nA hlt]
   simp only [hD,hg _ (kQ hlt)]
   by_cases h:p l[k]=true
   ·rw [h]
    simp only [if_true,nz]
    exact ih (k + 1) (by omega)
   ·rw [if_neg h]
    have:p l[k]=false:=by simpa using h
    simp only [this,Bool.false_and,wHJ,nS,if_false]
 exact key l.length 0 (by omega)
theorem wKK {β:Type} {l:List α} {f:α->β} {bytes:Nat} {g:α->List β->Option (List β)} (hg:∀ a ∈ l,∀ r,g a r=app bytes r [f a]) (hn:l.length <= 9223372036854775807) (hb:l.length * bytes <= 140737488355328) :
  wCQ 0 (↑l.length:Int) (fun k r=>(idx l (↑k:Int)).bind fun x=>g x r) []=some (l.map f):=by
 rw [wDJ hn]
 have key:∀ (m k:Nat) (r:List β),k + m=l.length->r.length=k->forN' (fun k r=>(idx l (↑k:Int)).bind fun x=>g x r) m k r=some (r ++ (l.drop k).map f):=by
  intro m
  induction m with
  | zero=>intro k r hk _;rw [nk (by omega)];simp [forN']
  | succ m ih =>
   intro k r hk hr
   have hlt:k < l.length:=by omega
   have e:l.drop k=l[k] :: l.drop (k + 1):=ni hlt
   rw [e,forN',wGb,nA hlt]
   have ha:app bytes r [f l[k]]=some (r ++ [f l[k]]):=by
    refine if_pos ?_
    simp only [nE,nZ]
    exact Nat.le_trans (nq _ (by omega)) hb
   simp only [hD,hg _ (kQ hlt),ha]
   rw [ih (k + 1) _ (by omega) (by simp [hr]),nQ]
   rfl
 exact key l.length 0 [] (by omega) rfl
theorem wEH {bytes:Nat} {l m:List α} (h:(l.length + m.length) * bytes <= 140737488355328):app bytes l m=some (l ++ m):=if_pos h
end Go.KL
namespace Go.KL
variable {S B R α β:Type}
theorem wKL {body:Nat->S->Option (S ⊕ B)} (s:Nat->S):∀ (m k:Nat),(∀ i,k <= i->i < k + m->body i (s i)=some (.inl (s (i + 1))))->forN body m k (s k)=some (.inl (s (k + m)))
 | 0,_,_=>rfl
 | m + 1,k,h=>by
  rw [forN,h k (nJ _) (by omega)]
  have:=wKL s m (k + 1) fun i h1 h2=>h i (by omega) (by omega)
  rw [show k + 1 + m=k + (m + 1) by omega] at this
  exact this
theorem wJA {body:Nat->S->Option S} (s:Nat->S):∀ (m k:Nat),(∀ i,k <= i->i < k + m->body i (s i)=some (s (i + 1)))->forN' body m k (s k)=some (s (k + m))
 | 0,_,_=>rfl
 | m + 1,k,h=>by
  rw [forN',h k (nJ _) (by omega)]
  have:=wJA s m (k + 1) fun i h1 h2=>h i (by omega) (by omega)
  rw [show k + 1 + m=k + (m + 1) by omega] at this
  exact this
theorem wHT {body:Nat->S->Option S} {n:Nat} {s0:S} (s:Nat->S) (h0:s 0=s0) (hn:n <= 9223372036854775807) (h:∀ i,i < n->body i (s i)=some (s (i + 1))):wCQ 0 (n:Int) body s0=some (s n):=by
 rw [wDJ hn,<- h0]
 have:=wJA s n 0 fun i _ hi=>h i (by omega)
 rwa [nV] at this
theorem wMH {body:Nat->S->Option (S ⊕ B)} {n:Nat} {s0:S} (s:Nat->S) (h0:s 0=s0) (hn:n <= 9223372036854775807) (h:∀ i,i < n->body i (s i)=some (.inl (s (i + 1)))):wEw 0 (n:Int) body s0=some (.inl (s n)):=by
 rw [wEG hn,<- h0]
 have:=wKL s n 0 fun i _ hi=>h i (by omega)
 rwa [nV] at this
theorem wLV {body:Nat->Unit->Option (Unit ⊕ B)} {n:Nat} (hn:n <= 9223372036854775807) (h:∀ i,i < n->body i ()=some (.inl ())):wEw 0 (n:Int) body ()=some (.inl ()):=wMH (fun _=>()) rfl hn h
theorem wDb [Inhabited α] {l:List α} {k:Nat} (h:k < l.length):idx l (k:Int)=some (gd l k):=by
 rw [wGb]
 exact wBJ h
theorem wDq [Inhabited α] {l:List α} {k:Nat} (h:k < l.length):gd l k ∈ l:=nj (wBJ h)
theorem wHU [Inhabited α] {l:List α} {k:Nat} (h:k < l.length):l.take (k + 1)=l.take k ++ [gd l k]:=by
 rw [List.take_add_one,wBJ h]
 rfl
theorem wIU [Inhabited α] {l m:List α} {k:Nat} (h:k < l.length):gd (l ++ m) k=gd l k:=by
 have h1:=wBJ (xs:=l ++ m) (k:=k) (by rw [nN];omega)
 rw [nP h,wBJ h] at h1
 exact (nl h1).symm
theorem wMI [Inhabited α] (l m:List α) (x:α):gd (l ++ x :: m) l.length=x:=by
 have h1:=wBJ (xs:=l ++ x :: m) (k:=l.length) (by simp)
 rw [nU (nJ _),Nat.sub_self] at h1
 exact (nl h1).symm
theorem wFQ [Inhabited α] [Inhabited β] (f:α->β) {l:List α} {k:Nat} (h:k < l.length):gd (l.map f) k=f (gd l k):=by
 have h1:=wBJ (xs:=l.map f) (k:=k) (by simpa using h)
 rw [List.getElem?_map,wBJ h] at h1
 exact (nl h1).symm
theorem wOk [Inhabited α] {l m:List α} (h:l.length=m.length) (hk:∀ k,k < l.length->gd l k=gd m k):l=m:=by
 apply kJ
 intro k
 rcases Nat.lt_or_ge k l.length with h1 | h1
 ·rw [wBJ h1,wBJ (by omega),hk k h1]
 ·rw [kZ h1,kZ (by omega)]
end Go.KL
namespace Go.KL
variable {S B α:Type}
theorem wLW {body:S->Option (S ⊕ B)} (F:Nat):∀ (m:Nat) (s:Nat->S),(∀ i,i < m->body (s i)=some (.inl (s (i + 1))))->iter body (m + F) (s 0)=iter body F (s m)
 | 0,s,_=>by rw [nV]
 | m + 1,s,h=>by
  rw [show m + 1 + F=(m + F) + 1 by omega,iter,h 0 (by omega)]
  exact wLW F m (fun i=>s (i + 1)) fun i hi=>h (i + 1) (by omega)
theorem wFR {body:S->Option (S ⊕ B)} {m:Nat} (s:Nat->S) (h:∀ i,i < m->body (s i)=some (.inl (s (i + 1)))) {b:B} (hb:body (s m)=some (.inr b)) {s0:S} (h0:s 0=s0) (hm:m < 1000000):iter body big s0=some b:=by
 subst h0
 have:=wLW (big - m - 1 + 1) m s h
 rw [show m + (big - m - 1 + 1)=big by unfold big;omega] at this
 rw [this,iter,hb]
theorem wGQ {body:S->Option (S ⊕ B)} (I:Nat->S->Prop) (Z:B->Prop) (m:Nat) (step:∀ i s,i <= m->I i s->(i < m/\∃ s',body s=some (.inl s')/\I (i + 1) s') \/ ∃ b,body s=some (.inr b)/\Z b) {s0:S} (h0:I 0 s0) (hm:m < 1000000):∃ b,iter body big s0=some b/\Z b:=by
 have key:∀ (d i:Nat) (s:S),i + d=m->I i s->∀ F,d < F->∃ b,iter body F s=some b/\Z b:=by
  intro d
  induction d with
  | zero =>
   intro i s hi hI F hF
   obtain ⟨F,rfl⟩:∃ G,F=G + 1:=⟨F - 1,by omega⟩
   rcases step i s (by omega) hI with ⟨h,_⟩ | ⟨b,h1,h2⟩
   ·omega
   ·exact ⟨b,by rw [iter,h1],h2⟩
  | succ d ih =>
   intro i s hi hI F hF
   obtain ⟨F,rfl⟩:∃ G,F=G + 1:=⟨F - 1,by omega⟩
   rcases step i s (by omega) hI with ⟨_,s',h1,h2⟩ | ⟨b,h1,h2⟩
   ·obtain ⟨b,h3,h4⟩:=ih (i + 1) s' (by omega) h2 F (by omega)
    exact ⟨b,by rw [iter,h1];exact h3,h4⟩
   ·exact ⟨b,by rw [iter,h1],h2⟩
 exact key m 0 s0 (by omega) h0 big (by unfold big;omega)
theorem wJp {body:S->Option (S ⊕ B)} (I:Nat->S->Prop) {b:B} (m:Nat) {s0:S} (h0:I 0 s0) (hm:m < 1000000) (step:∀ i s,i <= m->I i s->(i < m/\∃ s',body s=some (.inl s')/\I (i + 1) s') \/ body s=some (.inr b)):iter body big s0=some b:=by
 obtain ⟨c,h1,h2⟩:=wGQ (body:=body) I (fun c=>c=b) m (fun i s hi hI=>by
  rcases step i s hi hI with h | h
  ·exact .inl h
  ·exact .inr ⟨b,h,rfl⟩) h0 hm
 rw [h1,h2]
theorem wHV [Inhabited α] {l:List α} {i k:Nat} {x:α} (hi:i < l.length) (hk:k < l.length):gd (l.set i x) k=if k=i then x else gd l k:=by
 have h1:=wBJ (xs:=l.set i x) (k:=k) (by rw [nm];exact hk)
 rw [kK] at h1
 by_cases e:i=k
 ·subst e
  rw [if_pos rfl,if_pos hi] at h1
  rw [if_pos rfl]
  exact (nl h1).symm
 ·rw [if_neg e,wBJ hk] at h1
  rw [if_neg (fun h=>e h.symm)]
  exact (nl h1).symm
theorem wLX [Inhabited α] {l:List α} {k:Nat} (h:k < l.length):gd l k=l[k]:=by
 have:=wBJ h
 rw [nA h] at this
 exact (nl this).symm
theorem wEu [DecidableEq α] {l:List α} (hn:l.length <= 9223372036854775807) :
  (if (↑l.length:Int)=(↑l.length:Int) then jn (wEw 0 (↑l.length:Int) (fun k4 (_:Unit)=>(idx l (↑k4:Int)).bind fun x26=>(idx l (↑k4:Int)).bind fun x34=>if x26=x34 then some (.inl ()) else esc (some false)) ()) fun _=>some true else some false)=some true:=by
 rw [wKm hn]
 simp
end Go.KL
namespace Go.Proofs.YtlnfbjphfoipaaaGreat
open Go.KL Go.KL.Net
structure EdOK (n:Nat) (e:wAg):Prop where
 f0:0 <= e.from_
 f1:e.from_ < n
 t0:0 <= e.to_
 t1:e.to_ < n
 c0:-400000 <= e.count
 c1:e.count <= 400000
def ed (p:Bool) (e:wAg):Ed:=if p then ⟨e.to_.toNat,e.from_.toNat,e.count⟩ else ⟨e.from_.toNat,e.to_.toNat,e.count⟩
abbrev SS:=List Int × List Int × Int
def spB (es:List wAg) (p2:Bool):Nat->SS->Option SS:=fun k1375 (l1372,l1373,x1374) =>
      ((idx es (↑k1375:Int)).bind fun x1412 =>
      if p2=true then
        (chk x1412.to_ l1372.length).bind fun _ =>
        if (gd l1372 x1412.to_.toNat) < 1125899906842624 then
          (chk x1412.from_ l1372.length).bind fun _ =>
          if (w64 ((gd l1372 x1412.to_.toNat) + x1412.count)) < (gd l1372 x1412.from_.toNat) then
            ((chk x1412.from_ l1373.length).bind fun _ =>
            some ()).bind fun _ =>
            some ((hH l1372 x1412.from_.toNat (w64 ((gd l1372 x1412.to_.toNat) + x1412.count))),(hH l1373 x1412.from_.toNat (↑k1375:Int)),x1412.from_)
          else
            some (l1372,l1373,x1374)
        else
          some (l1372,l1373,x1374)
      else
        (chk x1412.from_ l1372.length).bind fun _ =>
        if (gd l1372 x1412.from_.toNat) < 1125899906842624 then
          (chk x1412.to_ l1372.length).bind fun _ =>
          if (w64 ((gd l1372 x1412.from_.toNat) + x1412.count)) < (gd l1372 x1412.to_.toNat) then
            ((chk x1412.to_ l1373.length).bind fun _ =>
            some ()).bind fun _ =>
            some ((hH l1372 x1412.to_.toNat (w64 ((gd l1372 x1412.from_.toNat) + x1412.count))),(hH l1373 x1412.to_.toNat (↑k1375:Int)),x1412.to_)
          else
            some (l1372,l1373,x1374)
        else
          some (l1372,l1373,x1374)).bind fun (l1406,l1407,x1408) =>
      some (l1406,l1407,x1408)
theorem wOl {n:Nat} {es:List wAg} (hes:∀ e ∈ es,EdOK n e) {p:Bool} {k:Nat} (hk:k < es.length) {far by_:List Int} {last:Int} (hf:far.length=n) (hb:by_.length=n) {M:Int} (hM:M <= 1000000000000000) (h0:0 <= M) (hr:∀ v,v < n->gd far v=1125899906842624 \/ (-M <= gd far v/\gd far v <= M)) :
  (ed p (gd es k)).a < n/\(ed p (gd es k)).b < n /\
  spB es p k (far,by_,last)=some (if gd far (ed p (gd es k)).a < 1125899906842624/\gd far (ed p (gd es k)).a + (ed p (gd es k)).c < gd far (ed p (gd es k)).b then
   (far.set (ed p (gd es k)).b (gd far (ed p (gd es k)).a + (ed p (gd es k)).c),by_.set (ed p (gd es k)).b (k:Int),((ed p (gd es k)).b:Int)) else (far,by_,last)):=by
 obtain ⟨f0,f1,t0,t1,c0,c1⟩:=hes _ (wDq hk)
 have hw:∀ a:Int,0 <= a->a < n->gd far a.toNat < 1125899906842624->w64 (gd far a.toNat + (gd es k).count)=gd far a.toNat + (gd es k).count:=fun a h1 h2 h3=>by
  rcases hr a.toNat (by omega) with c | c
  ·omega
  ·exact wAY (by omega) (by omega)
 unfold spB ed
 rw [wDb hk]
 cases p with
 | true =>
  refine ⟨by simp only [if_true];omega,by simp only [if_true];omega,?_⟩
  simp only [hD,if_true]
  rw [wDM t0 (by omega),hD]
  by_cases a:gd far (gd es k).to_.toNat < 1125899906842624
  ·rw [if_pos a,wDM f0 (by omega),hD,hw _ t0 t1 a]
   by_cases b:gd far (gd es k).to_.toNat + (gd es k).count < gd far (gd es k).from_.toNat
   ·rw [if_pos b,wDM f0 (by omega),if_pos ⟨a,b⟩]
    simp only [hD]
    rw [show (((gd es k).from_.toNat:Nat):Int)=(gd es k).from_ by omega]
   ·rw [if_neg b,if_neg (fun h=>b h.2)];rfl
  ·rw [if_neg a,if_neg (fun h=>a h.1)];rfl
 | false =>
  refine ⟨by simp only [nS,if_false];omega,by simp only [nS,if_false];omega,?_⟩
  simp only [hD,nS,if_false]
  rw [wDM f0 (by omega),hD]
  by_cases a:gd far (gd es k).from_.toNat < 1125899906842624
  ·rw [if_pos a,wDM t0 (by omega),hD,hw _ f0 f1 a]
   by_cases b:gd far (gd es k).from_.toNat + (gd es k).count < gd far (gd es k).to_.toNat
   ·rw [if_pos b,wDM t0 (by omega),if_pos ⟨a,b⟩]
    simp only [hD]
    rw [show (((gd es k).to_.toNat:Nat):Int)=(gd es k).to_ by omega]
   ·rw [if_neg b,if_neg (fun h=>b h.2)];rfl
  ·rw [if_neg a,if_neg (fun h=>a h.1)];rfl
structure Ps (n:Nat) (es:List wAg) (p:Bool) (far:List Int) (M:Int) (i:Nat) (s:SS):Prop where
 fl:s.1.length=n
 bl:s.2.1.length=n
 rg:∀ v,v < n->gd s.1 v=1125899906842624 \/ (-(M + 400000 * (i:Int)) <= gd s.1 v/\gd s.1 v <= M + 400000 * (i:Int))
 le:∀ v,v < n->gd s.1 v <= gd far v
 ch:(s.2.2=-1/\s.1=far/\∀ e ∈ es.take i,gd far (ed p e).a < 1125899906842624->gd far (ed p e).b <= gd far (ed p e).a + (ed p e).c) \/ (0 <= s.2.2/\s.2.2 < n/\∃ v,v < n/\gd s.1 v < gd far v)
 fe:∀ x,wHZ (es.map (ed p)) x->(∀ v,v < n->x v <= gd far v)->∀ v,v < n->x v <= gd s.1 v
 st:∀ δ,wHZ (es.map (ed p)) δ->(∀ v,v < n->δ v <= gd far v)->(∀ v,v < n->δ v < 1125899906842624)->∀ e ∈ es.take i,gd far (ed p e).a=δ (ed p e).a->δ (ed p e).b=δ (ed p e).a + (ed p e).c->gd s.1 (ed p e).b=δ (ed p e).b
theorem wNP {n:Nat} {es:List wAg} (hes:∀ e ∈ es,EdOK n e) (hl:es.length <= 1000) (p:Bool) {far by_:List Int} (hf:far.length=n) (hb:by_.length=n) {M:Int} (hM:M <= 900000000000000) (h0:0 <= M) (hr:∀ v,v < n->gd far v=1125899906842624 \/ (-M <= gd far v/\gd far v <= M)) :
  ∃ s,wCQ 0 (↑es.length:Int) (spB es p) (far,by_,-1)=some s/\Ps n es p far M es.length s:=by
 rw [wDJ (by omega)]
 obtain ⟨s,e,P⟩:=wDp (body:=spB es p) (fun i s=>Ps n es p far M i s) es.length 0 (far,by_,-1)
  ⟨hf,hb,fun v hv=>by have:=hr v hv;simp only;omega,fun _ _=>ny _,.inl ⟨rfl,rfl,fun e he=>by simp at he⟩,fun _ _ h=>h,fun _ _ _ _ e he=>by simp at he⟩ (by
  rintro i ⟨f,b,last⟩ _ hi P
  have hi':i < es.length:=by omega
  obtain ⟨fl,bl,rg,le,ch,fe,st⟩:=P
  simp only at fl bl rg le ch fe st
  obtain ⟨ha,hbb,e⟩:=wOl hes (p:=p) hi' (last:=last) fl bl (M:=M + 400000 * (i:Int)) (by omega) (by omega) rg
  have hm:=wDq hi'
  have hok:=hes _ hm
  have hc:-400000 <= (ed p (gd es i)).c/\(ed p (gd es i)).c <= 400000:=by
   have:=hok.c0;have:=hok.c1
   unfold ed
   split <;> exact ⟨by assumption,by assumption⟩
  have hfe:∀ x,wHZ (es.map (ed p)) x->x (ed p (gd es i)).b <= x (ed p (gd es i)).a + (ed p (gd es i)).c:=fun x hx=>hx _ (nW.2 ⟨_,hm,rfl⟩)
  have hends:∀ e ∈ es.take i,(ed p e).a < n/\(ed p e).b < n:=fun e he=>by
   obtain ⟨a1,a2,a3,a4,_,_⟩:=hes e (List.mem_of_mem_take he)
   unfold ed
   split <;> (simp only;omega)
  generalize hE:ed p (gd es i)=E at ha hbb e hc hfe
  rw [e]
  by_cases c:gd f E.a < 1125899906842624/\gd f E.a + E.c < gd f E.b
  ·rw [if_pos c]
   obtain ⟨c1,c2⟩:=c
   have rga:-(M + 400000 * (i:Int)) <= gd f E.a/\gd f E.a <= M + 400000 * (i:Int):=by
    rcases rg E.a ha with q | q
    ·omega
    ·exact q
   have hg:∀ v,v < n->gd (f.set E.b (gd f E.a + E.c)) v=if v=E.b then gd f E.a + E.c else gd f v:=fun v hv=>wHV (by omega) (by omega)
   refine ⟨_,rfl,by simp [fl],by simp [bl],fun v hv=>?_,fun v hv=>?_,.inr ⟨by simp only;omega,by simp only;omega,E.b,hbb,?_⟩,fun x hx hxt v hv=>?_,fun δ hδ h1 h2 e' he' g1 g2=>?_⟩
   ·simp only
    rw [hg v hv]
    split
    ·right;omega
    ·rcases rg v hv with q | q
     ·exact .inl q
     ·right;omega
   ·simp only
    rw [hg v hv]
    split
    ·rename_i h;have:=le E.b hbb;rw [h];omega
    ·exact le v hv
   ·simp only
    rw [hg _ hbb,if_pos rfl]
    have:=le E.b hbb
    omega
   ·simp only
    rw [hg v hv]
    have:=fe x hx hxt
    split
    ·rename_i h
     have a1:=this E.a ha
     have a2:=hfe x hx
     rw [h];omega
    ·exact this v hv
   ·have lo:=fe δ hδ h1
    simp only
    rw [wHU hi'] at he'
    rcases nL.1 he' with he' | he'
    ·have old:=st δ hδ h1 h2 e' he' g1 g2
     rw [hg _ (hends e' he').2]
     split
     ·rename_i h
      have a1:=lo E.a ha
      have a2:=hfe δ hδ
      rw [h] at old ⊢
      omega
     ·exact old
    ·have:=nh.1 he'
     subst this
     rw [hE] at g1 g2 ⊢
     rw [hg _ hbb,if_pos rfl]
     have a1:=lo E.a ha
     have a2:=le E.a ha
     omega
  ·rw [if_neg c]
   refine ⟨_,rfl,fl,bl,fun v hv=>?_,le,?_,fe,fun δ hδ h1 h2 e' he' g1 g2=>?_⟩
   ·rcases rg v hv with q | q
    ·exact .inl q
    ·right;simp only;omega
   ·simp only
    rcases ch with ⟨q1,q2,q3⟩ | q
    ·refine .inl ⟨q1,q2,fun e' he' g=>?_⟩
     rw [wHU hi'] at he'
     rcases nL.1 he' with he' | he'
     ·exact q3 e' he' g
     ·have:=nh.1 he'
      subst this
      rw [hE] at g ⊢
      rw [q2] at c
      rcases kj (gd far E.a + E.c) (gd far E.b) with d | d
      ·exact absurd ⟨g,d⟩ c
      ·exact d
    ·exact .inr q
   ·have lo:=fe δ hδ h1
    rw [wHU hi'] at he'
    rcases nL.1 he' with he' | he'
    ·exact st δ hδ h1 h2 e' he' g1 g2
    ·have:=nh.1 he'
     subst this
     rw [hE] at g1 g2 ⊢
     simp only
     have a1:=lo E.a ha
     have a2:=le E.a ha
     have a3:=lo E.b hbb
     have a4:=h2 E.a ha
     have fa:gd f E.a=δ E.a:=by omega
     rw [fa] at c
     rcases kj (δ E.a + E.c) (gd f E.b) with d | d
     ·exact absurd ⟨a4,d⟩ c
     ·omega)
 rw [nV] at P
 exact ⟨s,e,P⟩
end Go.Proofs.YtlnfbjphfoipaaaGreat
namespace Go.Proofs.YtlnfbjphfoipaaaGreat
open Go.KL Go.KL.Net
theorem wFY {α:Type} [Inhabited α] (l:List α) (k:Nat):gd l k=(l[k]?).getD default:=by unfold gd;rw [List.getD_eq_getElem?_getD]
theorem wLY {α:Type} {m ys:List α} {a:Nat} (h:a <= m.length):(cpy m a ys).length=m.length:=by
 unfold cpy
 simp only [nN,nT,List.length_drop]
 omega
theorem wMm {α:Type} [Inhabited α] {m ys:List α} {a j:Nat} (h:a <= m.length) (hj:j < m.length):gd (cpy m a ys) j=if j < a then gd m j else if j < a + ys.length then gd ys (j - a) else gd m j:=by
 rw [wFY,wFY,wFY]
 unfold cpy
 rw [nQ]
 by_cases c:j < a
 ·rw [if_pos c,nP (by rw [nT];omega),kG,if_pos c]
 ·rw [if_neg c,nU (by rw [nT];omega),nT,Nat.min_eq_left h]
  by_cases d:j < a + ys.length
  ·rw [if_pos d,nP (by rw [nT];omega),kG,if_pos (by omega)]
  ·rw [if_neg d,nU (by rw [nT];omega),nT,List.getElem?_drop,Nat.min_eq_right (by omega)]
   congr 2
   omega
theorem wJB (x:Int) {n:Nat} (h1:1 <= n) (h2:n <= 1000):wBL [x] (n:Int)=some (nB n x):=by
 unfold wBL wDn
 have e1:wLz (([x]:List Int).length:Int)=1:=rfl
 have e2:wLz (n:Int)=n:=by unfold wLz;omega
 rw [if_neg (by omega),e1,e2,if_pos (by omega),hD]
 simp only
 rw [show (1:Int) * (n:Int) / 18446744073709551616=0 by omega,show (1:Int) * (n:Int) % 18446744073709551616=n by omega,if_neg (by omega),hD,decide_eq_false (by omega),if_neg (by simp),wAY (by omega) (by omega),mkz,if_pos (by omega),hD,wLF,if_pos (by simp),hD]
 have hlen:(nB (n:Int).toNat (0:Int)).length=n:=by simp
 generalize nB (n:Int).toNat (0:Int)=z at hlen
 have e3:((min ([x]:List Int).length z.length:Nat):Int)=1:=by simp only [nu];omega
 refine wJp (I:=fun i (s:List Int × Int)=>s.1.length=n/\(i:Int) + 1 <= s.2/\s.2 <= n/\∀ j,j < s.2.toNat->gd s.1 j=x) n ⟨by rw [wLY (by simp)];exact hlen,by simp only;omega,by simp only;omega,fun j hj=>?_⟩ (by omega) ?_
 ·simp only at hj ⊢
  rw [wMm (by simp) (by omega),if_neg (by simp),if_pos (by simp only [nu];omega)]
  have:j=0:=by omega
  subst this
  rfl
 ·rintro i ⟨l,k⟩ hi ⟨q1,q2,q3,q4⟩
  simp only at q1 q2 q3 q4 ⊢
  by_cases c:k < (l.length:Int)
  ·left
   refine ⟨by omega,?_⟩
   have hd:(List.take ((l.length:Int).toNat - k.toNat) (List.drop k.toNat l)).length=l.length - k.toNat:=by
    rw [nT,List.length_drop];omega
   have ht:(List.take (k.toNat - (0:Int).toNat) (List.drop (0:Int).toNat l))=l.take k.toNat:=by simp
   rw [if_pos c,cut,if_pos (by omega),hD,cut,if_pos (by omega),hD,wLF,if_pos (by omega),hD,ht,hd,nT]
   rw [wAY (by omega) (by omega)]
   refine ⟨_,rfl,by simp only;rw [wLY (by omega)];exact q1,by simp only;omega,by simp only;omega,fun j hj=>?_⟩
   simp only at hj ⊢
   rw [wMm (by omega) (by omega),nT]
   by_cases d:j < k.toNat
   ·rw [if_pos d];exact q4 j d
   ·rw [if_neg d,if_pos (by omega)]
    have:=q4 (j - k.toNat) (by omega)
    rw [wFY] at this ⊢
    rw [kG,if_pos (by omega)]
    exact this
  ·right
   rw [if_neg c,wEx]
   have:l=nB n x:=wOk (by simp [q1]) fun j hj=>by
    rw [q4 j (by omega),wLX (by simpa [q1] using hj)];simp
   rw [this]
def wHW (i:Int) (v:Nat):Int:=if i < 0 \/ (v:Int)=i then 0 else 1125899906842624
theorem wMn (i:Int) (v:Nat):0 <= wHW i v/\wHW i v <= 1125899906842624:=by unfold wHW;split <;> omega
theorem wNQ {n:Nat} (i:Int) {l:List Int} (hl:l.length=n) (hn:n <= 1000) (h0:∀ v,v < n->gd l v=1125899906842624):∃ y,(wCQ 0 (↑l.length:Int) (fun k1254 l1253 =>
  if i < 0 then
   (chk (↑k1254:Int) l1253.length).bind fun _ =>
   some (hH l1253 k1254 0)
  else
   if (↑k1254:Int)=i then
    (chk (↑k1254:Int) l1253.length).bind fun _ =>
    some (hH l1253 k1254 0)
   else
    some l1253) l)=some y/\y.length=n/\∀ v,v < n->gd y v=wHW i v:=by
 rw [wDJ (by omega)]
 obtain ⟨y,e,y1,y2⟩:=wDp (body:=fun (k1254:Nat) (l1253:List Int) =>
  if i < 0 then
   (chk (↑k1254:Int) l1253.length).bind fun _ =>
   some (hH l1253 k1254 0)
  else
   if (↑k1254:Int)=i then
    (chk (↑k1254:Int) l1253.length).bind fun _ =>
    some (hH l1253 k1254 0)
   else
    some l1253) (fun k s=>s.length=n/\∀ v,v < n->gd s v=if v < k then wHW i v else 1125899906842624) l.length 0 l ⟨hl,fun v hv=>by rw [if_neg (by omega)];exact h0 v hv⟩ (by
  rintro k s _ hk ⟨s1,s2⟩
  have hk':k < n:=by omega
  have hset:∀ v,v < n->gd (s.set k 0) v=if v=k then 0 else gd s v:=fun v hv=>wHV (by omega) (by omega)
  by_cases c:i < 0 \/ (k:Int)=i
  ·have hb:(if i < 0 then (chk (↑k:Int) s.length).bind fun _=>some (hH s k 0) else if (↑k:Int)=i then (chk (↑k:Int) s.length).bind fun _=>some (hH s k 0) else some s)=some (s.set k 0):=by
    rw [wDM (by omega) (by omega)]
    rcases c with c | c
    ·rw [if_pos c];rfl
    ·rw [if_pos c]
     split <;> rfl
   refine ⟨_,hb,by simp [s1],fun v hv=>?_⟩
   rw [hset v hv]
   by_cases e:v=k
   ·subst e
    rw [if_pos rfl,if_pos (by omega),wHW,if_pos c]
   ·rw [if_neg e,s2 v hv]
    by_cases d:v < k
    ·rw [if_pos d,if_pos (by omega)]
    ·rw [if_neg d,if_neg (by omega)]
  ·refine ⟨s,by rw [if_neg (fun h=>c (.inl h)),if_neg (fun h=>c (.inr h))],s1,fun v hv=>?_⟩
   rw [s2 v hv]
   by_cases d:v < k
   ·rw [if_pos d,if_pos (by omega)]
   ·by_cases e:v=k
    ·subst e
     rw [if_neg (by omega),if_pos (by omega),wHW,if_neg c]
    ·rw [if_neg d,if_neg (by omega)])
 rw [nV] at y2
 exact ⟨y,e,y1,fun v hv=>by rw [y2 v hv,if_pos (by omega)]⟩
structure SpT (n:Nat) (es:List Ed) (i:Int) (far:List Int):Prop where
 fl:far.length=n
 rl:∀ e ∈ es,gd far e.a < 1125899906842624->gd far e.b <= gd far e.a + e.c
 rg:∀ v,v < n->gd far v=1125899906842624 \/ (-400000000000 <= gd far v/\gd far v <= 400000000000)
 le:∀ v,v < n->gd far v <= wHW i v
 fe:∀ x,wHZ es x->(∀ v,v < n->x v <= wHW i v)->∀ v,v < n->x v <= gd far v
structure SpI (n:Nat) (es:List Ed) (i:Int) (t:Nat) (s:SS):Prop where
 fl:s.1.length=n
 bl:s.2.1.length=n
 rg:∀ v,v < n->gd s.1 v=1125899906842624 \/ (-(400000000 * (t:Int)) <= gd s.1 v/\gd s.1 v <= 400000000 * (t:Int))
 le:∀ v,v < n->gd s.1 v <= wHW i v
 fe:∀ x,wHZ es x->(∀ v,v < n->x v <= wHW i v)->∀ v,v < n->x v <= gd s.1 v
 st:∀ δ,Most n es (wHW i) δ->(∀ v,v < n->δ v < 1125899906842624)->t <= wNy n δ fun v=>gd s.1 v
 la:t=0 \/ (0 <= s.2.2/\s.2.2 < n)
theorem wJC {d:wAh} {n:Nat} (hn:d.number.length=n) (h1:1 <= n) (h2:n <= 500) (hes:∀ e ∈ d.edges,EdOK n e) (hl:d.edges.length <= 1000) (i:Int) (p:Bool) :
  ∃ f last ok,wAr d i p=some (f,last,ok)/\f.by_.length=n/\f.far.length=n/\(ok=true->SpT n (d.edges.map (ed p)) i f.far)/\(ok=false->0 <= last/\last < n/\∀ δ,Most n (d.edges.map (ed p)) (wHW i) δ->¬ ∀ v,v < n->δ v < 1125899906842624):=by
 unfold wAr
 rw [hn,wJB _ h1 (by omega),hD,wJB _ h1 (by omega),hD,hD]
 simp only
 obtain ⟨y,e1,y1,y2⟩:=wNQ (n:=n) i (l:=nB n 1125899906842624) (by simp) (by omega) (fun v hv=>by rw [wLX (by simpa using hv)];simp)
 rw [e1,hD,wAY (by omega) (by omega)]
 have hn1:((n:Int) + 1)=((n + 1:Nat):Int):=by omega
 rw [hn1,wEG (by omega)]
 have hmap:∀ e ∈ d.edges.map (ed p),e.a < n/\e.b < n:=fun e he=>by
  obtain ⟨q,hq,rfl⟩:=nW.1 he
  obtain ⟨a1,a2,a3,a4,_,_⟩:=hes q hq
  unfold ed
  split <;> (simp only;omega)
 rcases wKJ (B:=wDj × Int × Bool) (body:=fun (k1336:Nat) ((l1333,l1334,x1335):SS) =>
  (wCQ 0 (↑d.edges.length:Int) (spB d.edges p) (l1333,l1334,-1)).bind fun (y1380,y1381,y1382) =>
  if y1382 < 0 then
   esc (some ((⟨y1380,y1381⟩:wDj),0,true))
  else
   some (.inl (y1380,y1381,y1382))) (fun t s=>SpI n (d.edges.map (ed p)) i t s) (fun b=>b.2.2=true/\b.1.by_.length=n/\SpT n (d.edges.map (ed p)) i b.1.far) (n + 1) 0 (y,nB n (-1),-1)
  ⟨y1,by simp,fun v hv=>by simp only;rw [y2 v hv];unfold wHW;split <;> omega,fun v hv=>by simp only;rw [y2 v hv];exact ny _,fun x _ hx v hv=>by simp only;rw [y2 v hv];exact hx v hv,fun _ _ _=>Nat.zero_le _,.inl rfl⟩ (by
   rintro t ⟨far,by_,last⟩ _ ht ⟨fl,bl,rg,le,fe,st,la⟩
   simp only at fl bl rg le fe st
   obtain ⟨⟨far',by',last'⟩,e,P⟩:=wNP hes hl p fl bl (M:=400000000 * (t:Int)) (by omega) (by omega) rg
   obtain ⟨gl,ql,qg,qle,ch,qfe,qst⟩:=P
   simp only at gl ql qg qle ch qfe qst
   simp only
   rw [e,hD]
   simp only
   rcases ch with ⟨c1,c2,c3⟩ | ⟨c1,c2,v,hv,c3⟩
   ·right
    subst c1
    rw [if_pos (by omega)]
    refine ⟨_,rfl,rfl,ql,gl,fun e' he' hlt=>?_,fun v hv=>?_,fun v hv=>nX (qle v hv) (le v hv),fun x hx hxt v hv=>qfe x hx (fe x hx hxt) v hv⟩
    ·obtain ⟨q,hq,rfl⟩:=nW.1 he'
     simp only at hlt ⊢
     rw [c2] at hlt ⊢
     rw [List.take_length] at c3
     exact c3 q hq hlt
    ·simp only
     rw [c2]
     rcases rg v hv with q | q
     ·exact .inl q
     ·right;omega
   ·left
    rw [if_neg (by omega)]
    refine ⟨_,rfl,gl,ql,fun v hv=>?_,fun v hv=>nX (qle v hv) (le v hv),fun x hx hxt v hv=>qfe x hx (fe x hx hxt) v hv,fun δ M hδ=>?_,.inr ⟨c1,c2⟩⟩
    ·simp only
     rcases qg v hv with q | q
     ·exact .inl q
     ·right;omega
    ·have old:=st δ M hδ
     have lo:=fe δ M.ok M.le
     have lo':=qfe δ M.ok lo
     simp only
     obtain ⟨e',he',g1,g2,g3⟩:=M.tight hmap (fun u=>gd far u) (fun u hu=>le u hu) ⟨v,hv,by have:=lo' v hv;omega⟩ lo
     obtain ⟨q,hq,rfl⟩:=nW.1 he'
     rw [List.take_length] at qst
     have h5:=qst δ M.ok lo hδ q hq g1 g3
     have:=wNO (n:=n) (δ:=δ) (low:=fun u=>gd far u) (low':=fun u=>gd far' u) lo' (fun u hu=>qle u hu) (hmap _ he').2 g2 h5
     omega) with ⟨⟨far,by_,last⟩,e,I⟩ | ⟨⟨f,last,ok⟩,e,h3,h4,h5⟩
 ·refine ⟨⟨far,by_⟩,last,false,?_,I.bl,I.fl,(fun h=>by cases h),fun _=>?_⟩
  ·show jn (forN _ (n + 1) 0 (y,nB n (-1),-1)) _=_
   erw [e]
   rfl
  ·have hla:=I.la
   simp only at hla
   refine ⟨by omega,by omega,fun δ M hδ=>?_⟩
   have h6:0 + (n + 1) <= wNy n δ fun v=>gd far v:=I.st δ M hδ
   have:=wNN n δ fun v=>gd far v
   omega
 ·simp only at h3 h4 h5
  subst h3
  refine ⟨f,last,true,?_,h4,h5.fl,fun _=>h5,fun h=>by cases h⟩
  show jn (forN _ (n + 1) 0 (y,nB n (-1),-1)) _=_
  erw [e]
  rfl
theorem SpT.fin {n:Nat} {R:Int} {es:List Ed} (C:Con n R es) (hc:∀ e ∈ es,e.c <= 400000) {i:Int} {far:List Int} (S:SpT n es i far) {k:Nat} (hk:k < n) (h0:wHW i k=0):∀ v,v < n->gd far v < 1125899906842624 :=
 C.all (fun v=>v < n->gd far v < 1125899906842624) k hk (fun _=>by have:=S.le k hk;omega) (fun e he h _=>by
  obtain ⟨h1,h2⟩:=C.ends e he
  have a:=h h1
  have b:=S.rl e he a
  have c:=hc e he
  rcases S.rg e.a h1 with q | q <;> omega) |> fun h v hv=>h v hv hv
theorem SpT.feas {n:Nat} {R:Int} {es:List Ed} (C:Con n R es) (hc:∀ e ∈ es,e.c <= 400000) {i:Int} {far:List Int} (S:SpT n es i far) {k:Nat} (hk:k < n) (h0:wHW i k=0):wHZ es fun v=>gd far v :=
 fun e he=>S.rl e he (S.fin C hc hk h0 e.a (C.ends e he).1)
theorem SpT.isD {n:Nat} {R:Int} (hR:R <= 1000000000000) {es:List Ed} (C:Con n R es) (hc:∀ e ∈ es,e.c <= 400000) {i:Nat} (hi:i < n) {far:List Int} (S:SpT n es i far):IsD n es i fun v=>gd far v:=by
 have t0:wHW i i=0:=by unfold wHW;rw [if_pos (.inr rfl)]
 have F:=S.feas C hc hi t0
 have gr:∀ x,wHZ es x->∀ v,v < n->x v - x i <= gd far v:=fun x hx v hv=>by
  have:=S.fe (fun u=>x u + (-(x i))) (wOj hx _) (fun u hu=>by
   show x u + (-(x i)) <= _
   have:=C.near x hx i u hi hu
   unfold wHW
   split
   ·rename_i h
    rcases h with h | h
    ·omega
    ·have:u=i:=by omega
     subst this;omega
   ·omega) v hv
  have this:x v + (-(x i)) <= gd far v:=this
  omega
 have h1:=gr _ F i hi
 have h2:=S.le i hi
 exact ⟨F,by show gd far i=0;omega,gr⟩
end Go.Proofs.YtlnfbjphfoipaaaGreat
namespace Go.KL
def wLx (q:Nat->Bool):Nat->Nat->Bool
 | 0,_=>true
 | m + 1,k=>q k && wLx q m (k + 1)
def fnd {B:Type} (f:Nat->Option B):Nat->Nat->Option B
 | 0,_=>none
 | m + 1,k=>match f k with
  | some c=>some c
  | none=>fnd f m (k + 1)
theorem wIV (q:Nat->Bool):∀ m k,wLx q m k=true ↔ ∀ i,k <= i->i < k + m->q i=true
 | 0,k=>⟨fun _ i h1 h2=>by omega,fun _=>rfl⟩
 | m + 1,k=>by
  rw [wLx,nb,wIV q m (k + 1)]
  constructor
  ·rintro ⟨h1,h2⟩ i h3 h4
   by_cases e:i=k
   ·exact e ▸ h1
   ·exact h2 i (by omega) (by omega)
  ·exact fun h=>⟨h k (by omega) (by omega),fun i h1 h2=>h i (by omega) (by omega)⟩
theorem wJq {A B:Type} (g:A->B) (f:Nat->Option A):∀ m k,fnd (fun i=>(f i).map g) m k=(fnd f m k).map g
 | 0,_=>rfl
 | m + 1,k=>by
  rw [fnd,fnd,wJq g f m (k + 1)]
  cases f k <;> rfl
theorem wLZ {B:Type} (q:Nat->Bool) (c:B):∀ m k,fnd (fun i=>if q i=true then none else some c) m k=if wLx q m k=true then none else some c
 | 0,_=>rfl
 | m + 1,k=>by
  rw [fnd,wLZ q c m (k + 1),wLx]
  cases q k <;> simp
def out {S B:Type} (s:S):Option B->S ⊕ B
 | none=>.inl s
 | some c=>.inr c
theorem wKM {B:Type} {body:Nat->Unit->Option (Unit ⊕ B)} {f:Nat->Option B}:∀ (m k:Nat),(∀ i,k <= i->i < k + m->body i ()=some (out () (f i)))->forN body m k ()=some (out () (fnd f m k))
 | 0,_,_=>rfl
 | m + 1,k,h=>by
  rw [forN,h k (by omega) (by omega),fnd]
  cases f k with
  | none=>exact wKM m (k + 1) fun i h1 h2=>h i (by omega) (by omega)
  | some c=>rfl
theorem wIW {B:Type} {body:Nat->Unit->Option (Unit ⊕ B)} {n:Nat} (f:Nat->Option B) (hn:n <= 1000) (h:∀ i,i < n->body i ()=some (out () (f i))):wEw 0 (n:Int) body ()=some (out () (fnd f n 0)):=by
 rw [wEG (by omega)]
 exact wKM n 0 fun i _ hi=>h i (by omega)
theorem wMJ {B:Type} {body:Nat->Unit->Option (Unit ⊕ B)} {n:Nat} (q:Nat->Bool) (c:B) (hn:n <= 1000) (h:∀ i,i < n->body i ()=some (if q i=true then .inl () else .inr c)):wEw 0 (n:Int) body ()=some (if wLx q n 0=true then .inl () else .inr c):=by
 rw [wIW (fun i=>if q i=true then none else some c) hn fun i hi=>by rw [h i hi];split <;> rfl,wLZ]
 split <;> rfl
theorem wET {B:Type} {body:Int->Option (Int ⊕ B)} {f:Nat->Option B} {z:B} {n:Nat} (h:∀ i,i < n->body (i:Int)=some (out ((i:Int) + 1) (f i))) (hz:body (n:Int)=some (.inr z)):∀ (m k F:Nat),k + m=n->m < F->iter body F (k:Int)=some ((fnd f m k).getD z)
 | 0,k,F,hk,hF=>by
  obtain ⟨F,rfl⟩:∃ G,F=G + 1:=⟨F - 1,by omega⟩
  obtain rfl:k=n:=by omega
  rw [iter,hz]
  rfl
 | m + 1,k,F,hk,hF=>by
  obtain ⟨F,rfl⟩:∃ G,F=G + 1:=⟨F - 1,by omega⟩
  rw [iter,h k (by omega),fnd]
  cases f k with
  | none=>exact wET h hz m (k + 1) F (by omega) (by omega)
  | some c=>rfl
theorem wIX {B:Type} {body:Int->Option (Int ⊕ B)} {n:Nat} (f:Nat->Option B) {z:B} (hn:n <= 1000) (h:∀ i,i < n->body (i:Int)=some (out ((i:Int) + 1) (f i))) (hz:body (n:Int)=some (.inr z)):iter body big 0=some ((fnd f n 0).getD z) :=
 wET h hz n 0 big (by omega) (by unfold big;omega)
theorem wGR {B:Type} {body:Int->Option (Int ⊕ B)} {n:Nat} (q:Nat->Bool) (c:B) {z:B} (hn:n <= 1000) (h:∀ i,i < n->body (i:Int)=some (if q i=true then .inl ((i:Int) + 1) else .inr c)) (hz:body (n:Int)=some (.inr z)):iter body big 0=some (if wLx q n 0=true then z else c):=by
 rw [wIX (fun i=>if q i=true then none else some c) hn (fun i hi=>by rw [h i hi];split <;> rfl) hz,wLZ]
 split <;> rfl
theorem wGS {α:Type} [Inhabited α] (p:α->Bool) (l:List α):l.all p=wLx (fun k=>p (gd l k)) l.length 0:=by
 rw [kT,wIV,na]
 constructor
 ·exact fun h i _ hi=>h _ (wDq (by omega))
 ·intro h a ha
  obtain ⟨k,hk,e⟩:=kg ha
  have:=h k (by omega) (by omega)
  rw [wLX hk,e] at this
  exact this
end Go.KL
namespace Go.Proofs.YtlnfbjphfoipaaaGreat
open Go.KL Go.KL.Net
structure RC (r:wAA):Prop where
 n:1 <= r.Starts.length/\r.Starts.length <= 8
 m:r.Splits.length <= 7
 c:r.Clocks.length <= 4
 q:r.Readings.length <= 40
 st:∀ s ∈ r.Starts,0 <= s/\s <= 360000
 sp:∀ s ∈ r.Splits,s.Lo <= s.Hi/\0 <= s.Lo/\s.Hi <= 360000
 ck:∀ s ∈ r.Clocks,(s.Offset.Lo <= s.Offset.Hi/\-36000 <= s.Offset.Lo/\s.Offset.Hi <= 36000)/\0 <= s.Error/\s.Error <= 600
 rt:∀ x ∈ r.Readings,0 <= x.Time/\x.Time <= 360000
 ru:∀ x ∈ r.Readings,0 <= x.Skier/\x.Skier < r.Starts.length/\0 <= x.Mat/\x.Mat <= r.Splits.length/\0 <= x.Clock/\x.Clock < r.Clocks.length
def zp:wAI:=⟨-1,0⟩
def wEv (r:wAA) (p:wAI):Prop:=p=zp \/ (0 <= p.skier/\p.skier < r.Starts.length/\0 <= p.mat/\p.mat <= r.Splits.length) \/ (p.skier=-1/\1 <= p.mat/\p.mat <= r.Clocks.length)
def wCZ (r:wAA) (x:wAH):Prop :=
 (x.Kind=0/\0 <= x.Skier/\x.Skier < r.Starts.length/\x.Index=0) \/ (x.Kind=1/\0 <= x.Skier/\x.Skier < r.Starts.length/\0 <= x.Index/\x.Index < r.Splits.length) \/
 (x.Kind=2/\x.Skier=0/\0 <= x.Index/\x.Index < r.Clocks.length) \/ (x.Kind=3/\x.Skier=0/\0 <= x.Index/\x.Index < r.Readings.length)
abbrev Pt:=wAI
def wCP (r:wAA) (x:wAH):Pt × Pt × Int × Int :=
 if x.Kind=0 then (zp,⟨x.Skier,0⟩,gd r.Starts x.Skier.toNat,-gd r.Starts x.Skier.toNat)
 else if x.Kind=1 then (⟨x.Skier,x.Index⟩,⟨x.Skier,x.Index + 1⟩,(gd r.Splits x.Index.toNat).Hi,-(gd r.Splits x.Index.toNat).Lo)
 else if x.Kind=2 then (zp,⟨-1,1 + x.Index⟩,-(gd r.Clocks x.Index.toNat).Offset.Lo,(gd r.Clocks x.Index.toNat).Offset.Hi)
 else (⟨-1,1 + (gd r.Readings x.Index.toNat).Clock⟩,⟨(gd r.Readings x.Index.toNat).Skier,(gd r.Readings x.Index.toNat).Mat⟩,(gd r.Readings x.Index.toNat).Time + (gd r.Clocks (gd r.Readings x.Index.toNat).Clock.toNat).Error,(gd r.Clocks (gd r.Readings x.Index.toNat).Clock.toNat).Error - (gd r.Readings x.Index.toNat).Time)
def wDP (r:wAA) (x:wAH):Pt × Pt × Int:=if x.Up=true then ((wCP r x).1,(wCP r x).2.1,(wCP r x).2.2.1) else ((wCP r x).2.1,(wCP r x).1,(wCP r x).2.2.2)
theorem wGj {α:Type} [Inhabited α] {l:List α} {i:Int} (h0:0 <= i) (h1:i < l.length):idx l i=some (gd l i.toNat):=by
 obtain ⟨k,rfl⟩:=nw h0
 rw [wDb (by omega)]
 rfl
theorem wDL {α:Type} [Inhabited α] {l:List α} {i:Int} (h0:0 <= i) (h1:i < l.length):gd l i.toNat ∈ l:=wDq (by omega)
theorem wMK {r:wAA} (C:RC r) {x:wAH} (h:wCZ r x):wBb r x=some (wDP r x):=by
 unfold wBb wBa wDx wDy wDz wEA wEB wEC wDl wDm wBt wDG
 have hm:=C.m;have hc:=C.c;have hq:=C.q;have hn:=C.n
 rcases h with ⟨k,a,b,c⟩ | ⟨k,a,b,c,d⟩ | ⟨k,a,c,d⟩ | ⟨k,a,c,d⟩
 ·have g:=C.st _ (wDL a b)
  have e4:wCP r x=(zp,⟨x.Skier,0⟩,gd r.Starts x.Skier.toNat,-gd r.Starts x.Skier.toNat):=if_pos k
  have w:w64 (-gd r.Starts x.Skier.toNat)=-gd r.Starts x.Skier.toNat:=wAY (by omega) (by omega)
  rw [if_pos k,wGj a b]
  simp only [hD]
  rw [w]
  unfold wDP
  rw [e4]
  split <;> rfl
 ·have g:=C.sp _ (wDL c d)
  have e4:wCP r x=(⟨x.Skier,x.Index⟩,⟨x.Skier,x.Index + 1⟩,(gd r.Splits x.Index.toNat).Hi,-(gd r.Splits x.Index.toNat).Lo):=(if_neg (by omega)).trans (if_pos k)
  have w:w64 (-(gd r.Splits x.Index.toNat).Lo)=-(gd r.Splits x.Index.toNat).Lo:=wAY (by omega) (by omega)
  have w2:w64 (x.Index + 1)=x.Index + 1:=wAY (by omega) (by omega)
  rw [if_neg (by omega),if_pos k,wGj c d]
  simp only [hD]
  rw [w,w2]
  unfold wDP
  rw [e4]
  split <;> rfl
 ·have g:=C.ck _ (wDL c d)
  have e4:wCP r x=(zp,⟨-1,1 + x.Index⟩,-(gd r.Clocks x.Index.toNat).Offset.Lo,(gd r.Clocks x.Index.toNat).Offset.Hi):=(if_neg (by omega)).trans ((if_neg (by omega)).trans (if_pos k))
  have w:w64 (-(gd r.Clocks x.Index.toNat).Offset.Lo)=-(gd r.Clocks x.Index.toNat).Offset.Lo:=wAY (by omega) (by omega)
  have w2:w64 (1 + x.Index)=1 + x.Index:=wAY (by omega) (by omega)
  rw [if_neg (by omega),if_neg (by omega),if_pos k,wGj c d]
  simp only [hD]
  rw [w,w2]
  unfold wDP
  rw [e4]
  split <;> rfl
 ·have g:=C.rt _ (wDL c d)
  have u:=C.ru _ (wDL c d)
  have gc:=C.ck _ (wDL u.2.2.2.2.1 u.2.2.2.2.2)
  have e4:wCP r x=(⟨-1,1 + (gd r.Readings x.Index.toNat).Clock⟩,⟨(gd r.Readings x.Index.toNat).Skier,(gd r.Readings x.Index.toNat).Mat⟩,(gd r.Readings x.Index.toNat).Time + (gd r.Clocks (gd r.Readings x.Index.toNat).Clock.toNat).Error,(gd r.Clocks (gd r.Readings x.Index.toNat).Clock.toNat).Error - (gd r.Readings x.Index.toNat).Time):=(if_neg (by omega)).trans ((if_neg (by omega)).trans (if_neg (by omega)))
  rw [if_neg (by omega),if_neg (by omega),if_neg (by omega),if_pos k,wGj c d]
  simp only [hD]
  rw [wGj u.2.2.2.2.1 u.2.2.2.2.2]
  simp only [hD]
  generalize gd r.Readings x.Index.toNat=X at *
  generalize gd r.Clocks X.Clock.toNat=Y at *
  have w:w64 (X.Time + Y.Error)=X.Time + Y.Error:=wAY (by omega) (by omega)
  have w2:w64 (1 + X.Clock)=1 + X.Clock:=wAY (by omega) (by omega)
  have w3:w64 (Y.Error - X.Time)=Y.Error - X.Time:=wAY (by omega) (by omega)
  rw [w,w2,w3]
  unfold wDP
  rw [e4]
  split <;> rfl
theorem wDv {r:wAA} (C:RC r) {x:wAH} (h:wCZ r x):wEv r (wDP r x).1/\wEv r (wDP r x).2.1/\-400000 <= (wDP r x).2.2/\(wDP r x).2.2 <= 400000:=by
 have key:wEv r (wCP r x).1/\wEv r (wCP r x).2.1/\(-400000 <= (wCP r x).2.2.1/\(wCP r x).2.2.1 <= 400000)/\(-400000 <= (wCP r x).2.2.2/\(wCP r x).2.2.2 <= 400000):=by
  have hn:=C.n
  unfold wCP
  rcases h with ⟨k,a,b,c⟩ | ⟨k,a,b,c,d⟩ | ⟨k,a,c,d⟩ | ⟨k,a,c,d⟩
  ·have g:=C.st _ (wDL a b)
   rw [if_pos k]
   exact ⟨.inl rfl,.inr (.inl ⟨a,b,by simp only;omega,by simp only;omega⟩),by simp only;omega,by simp only;omega⟩
  ·have g:=C.sp _ (wDL c d)
   rw [if_neg (by omega),if_pos k]
   exact ⟨.inr (.inl ⟨a,b,by simp only;omega,by simp only;omega⟩),.inr (.inl ⟨a,b,by simp only;omega,by simp only;omega⟩),by simp only;omega,by simp only;omega⟩
  ·have g:=C.ck _ (wDL c d)
   rw [if_neg (by omega),if_neg (by omega),if_pos k]
   exact ⟨.inl rfl,.inr (.inr ⟨rfl,by simp only;omega,by simp only;omega⟩),by simp only;omega,by simp only;omega⟩
  ·have g:=C.rt _ (wDL c d)
   have u:=C.ru _ (wDL c d)
   have gc:=C.ck _ (wDL u.2.2.2.2.1 u.2.2.2.2.2)
   rw [if_neg (by omega),if_neg (by omega),if_neg (by omega)]
   exact ⟨.inr (.inr ⟨rfl,by simp only;omega,by simp only;omega⟩),.inr (.inl ⟨u.1,u.2.1,u.2.2.1,u.2.2.2.1⟩),by simp only;omega,by simp only;omega⟩
 obtain ⟨h1,h2,h3,h4⟩:=key
 unfold wDP
 split
 ·exact ⟨h1,h2,h3⟩
 ·exact ⟨h2,h1,h4⟩
def two (kind skier i:Nat):List wAH:=[⟨kind,skier,i,true⟩,⟨kind,skier,i,false⟩]
def wJD (kind skier m:Nat):List wAH:=(nY m).flatMap (two kind skier)
def skL (kind ns m:Nat):List wAH:=(nY ns).flatMap fun s=>wJD kind s m
def wJE (r:wAA):List wAH:=skL 0 r.Starts.length 1 ++ (skL 1 r.Starts.length r.Splits.length ++ (skL 2 1 r.Clocks.length ++ skL 3 1 r.Readings.length))
theorem wNR {kind ns m:Nat} {x:wAH}:x ∈ skL kind ns m ↔ x.Kind=kind/\0 <= x.Skier/\x.Skier < ns/\0 <= x.Index/\x.Index < m:=by
 unfold skL wJD two
 simp only [List.mem_flatMap,kD,nn,List.not_mem_nil,or_false]
 constructor
 ·rintro ⟨s,hs,i,hi,rfl | rfl⟩ <;> exact ⟨rfl,by simp only;omega,by simp only;omega,by simp only;omega,by simp only;omega⟩
 ·rintro ⟨a,b,c,d,e⟩
  refine ⟨x.Skier.toNat,by omega,x.Index.toNat,by omega,?_⟩
  obtain ⟨k,s,i,u⟩:=x
  simp only at a b c d e
  subst a
  rw [nH b,nH d]
  cases u <;> simp
theorem wFS {r:wAA} {x:wAH}:x ∈ wJE r ↔ wCZ r x:=by
 unfold wJE wCZ
 simp only [nL,wNR]
 omega
theorem wNS (kind ns m:Nat):(skL kind ns m).length=2 * m * ns:=by
 unfold skL wJD
 rw [kh]
 have:∀ s:Nat,((nY m).flatMap (two kind s)).length=2 * m:=fun s=>by
  rw [kh]
  have e:(nY m).map (fun a=>(two kind s a).length)=nB m 2:=by
   apply kP (by simp)
   intro i h1 h2
   simp [two]
  rw [e,kW]
  omega
 have e:(nY ns).map (fun s=>((nY m).flatMap (two kind s)).length)=nB ns (2 * m):=by
  apply kP (by simp)
  intro i h1 h2
  simp [this]
 rw [e,kW,Nat.mul_comm]
theorem wJF {r:wAA} (C:RC r):(wJE r).length <= 216:=by
 unfold wJE
 simp only [nN,wNS]
 have hm:=C.m;have hc:=C.c;have hq:=C.q;have hn:=C.n
 have h1:2 * r.Splits.length * r.Starts.length <= 14 * 8:=kE (by omega) hn.2
 omega
section
variable {S E:Type}
def wIl (f:S->wAH->Option (S ⊕ E)):List wAH->S->Option (S ⊕ E)
 | [],s=>some (.inl s)
 | x :: l,s=>(f s x).bind fun y=>match y with
  | .inl s'=>wIl f l s'
  | .inr e=>some (.inr e)
theorem wKN (f:S->wAH->Option (S ⊕ E)):∀ (l m:List wAH) (s:S),wIl f (l ++ m) s=(wIl f l s).bind fun y=>match y with
  | .inl s'=>wIl f m s'
  | .inr e=>some (.inr e)
 | [],_,_=>rfl
 | x :: l,m,s=>by
  rw [kA,wIl,wIl]
  cases f s x with
  | none=>rfl
  | some y=>cases y with
   | inl s'=>exact wKN f l m s'
   | inr e=>rfl
def lif {B:Type} (k:E->B) (x:Option (S ⊕ E)):Option (S ⊕ B):=x.bind fun y=>match y with
 | .inl s=>some (.inl s)
 | .inr e=>some (.inr (k e))
theorem wHF {B:Type} (k:E->B) {body:Nat->S->Option (S ⊕ B)} {f:S->wAH->Option (S ⊕ E)} {L:Nat->List wAH}:∀ (m i:Nat) (s:S),(∀ j s,i <= j->j < i + m->body j s=lif k (wIl f (L j) s))->forN body m i s=lif k (wIl f ((List.range' i m).flatMap L) s)
 | 0,_,_,_=>rfl
 | m + 1,i,s,h=>by
  rw [forN,h i s (nJ _) (by omega),List.range'_succ,nR,wKN]
  cases wIl f (L i) s with
  | none=>rfl
  | some y=>cases y with
   | inl s'=>exact wHF k m (i + 1) s' fun j s h1 h2=>h j s (by omega) (by omega)
   | inr e=>rfl
theorem wMo {B:Type} (k:E->B) (x:Option (S ⊕ E)):jn (lif (fun e=>(.inr (k e):S ⊕ B)) x) (fun y=>some (.inl y))=lif k x:=by
 cases x with
 | none=>rfl
 | some y=>cases y <;> rfl
theorem wOm (x:Option (S ⊕ E)):jn (lif (fun e=>(.inr e:S ⊕ E)) x) (fun y=>some (.inl y))=x:=by
 cases x with
 | none=>rfl
 | some y=>cases y <;> rfl
theorem wOn (f:S->wAH->Option (S ⊕ E)) (kind skier i:Nat) (s:S):((f s (⟨(kind:Int),(skier:Int),(i:Int),true⟩:wAH)).bind fun yr141 =>
          match yr141 with
          | .inl s151 =>
            (f s151 (⟨(kind:Int),(skier:Int),(i:Int),false⟩:wAH)).bind fun yr154 =>
            match yr154 with
            | .inl s164 =>
              some (.inl s164)
            | .inr s164 =>
              esc (esc (esc (some (.inr s164))))
          | .inr s151 =>
            esc (esc (esc (some (.inr s151)))))=lif (fun e=>(.inr (.inr (.inr e)):S ⊕ (S ⊕ (S ⊕ E)))) (wIl f (two kind skier i) s):=by
  unfold two
  rw [wIl]
  cases f s (⟨(kind:Int),(skier:Int),(i:Int),true⟩:wAH) with
  | none=>rfl
  | some y=>cases y with
    | inr e=>rfl
    | inl s' =>
      simp only [hD]
      rw [wIl]
      cases f s' (⟨(kind:Int),(skier:Int),(i:Int),false⟩:wAH) with
      | none=>rfl
      | some y=>cases y <;> rfl
theorem wLa (f:S->wAH->Option (S ⊕ E)) (s0:S) {r:wAA} (C:RC r):wCU f s0 r=wIl f (wJE r) s0:=by
  unfold wCU
  have hm:=C.m;have hc:=C.c;have hq:=C.q;have hn:=C.n
  have inner:∀ (kind skier m:Nat) (s:S),m <= 1000->(wEw 0 (m:Int) (fun k113 s111 =>
          (f s111 (⟨(kind:Int),(skier:Int),(↑k113:Int),true⟩:wAH)).bind fun yr141 =>
          match yr141 with
          | .inl s151 =>
            (f s151 (⟨(kind:Int),(skier:Int),(↑k113:Int),false⟩:wAH)).bind fun yr154 =>
            match yr154 with
            | .inl s164 =>
              some (.inl s164)
            | .inr s164 =>
              esc (esc (esc (some (.inr s164))))
          | .inr s151 =>
            esc (esc (esc (some (.inr s151))))) s)=lif (fun e=>(.inr (.inr (.inr e)):S ⊕ (S ⊕ (S ⊕ E)))) (wIl f (wJD kind skier m) s):=fun kind skier m s hm=>by
    rw [wEG (by omega),wHF (fun e=>(.inr (.inr (.inr e)):S ⊕ (S ⊕ (S ⊕ E)))) (f:=f) (L:=two kind skier) m 0 s fun j s _ _=>wOn f kind skier j s,<- ke]
    rfl
  have skier:∀ (kind ns m:Nat) (s:S),ns <= 1000->m <= 1000->(jn (wEw 0 (ns:Int) (fun k78 s76 =>
        jn (wEw 0 (m:Int) (fun k113 s111 =>
          (f s111 (⟨(kind:Int),(↑k78:Int),(↑k113:Int),true⟩:wAH)).bind fun yr141 =>
          match yr141 with
          | .inl s151 =>
            (f s151 (⟨(kind:Int),(↑k78:Int),(↑k113:Int),false⟩:wAH)).bind fun yr154 =>
            match yr154 with
            | .inl s164 =>
              some (.inl s164)
            | .inr s164 =>
              esc (esc (esc (some (.inr s164))))
          | .inr s151 =>
            esc (esc (esc (some (.inr s151))))) s76) fun y195 =>
        some (.inl y195)) s) fun y219 =>
      some (.inl y219))=lif (fun e=>(.inr e:S ⊕ E)) (wIl f (skL kind ns m) s):=fun kind ns m s hns hm=>by
    rw [wEG (by omega),wHF (fun e=>(.inr (.inr e):S ⊕ (S ⊕ E))) (f:=f) (L:=fun q=>wJD kind q m) ns 0 s fun j s _ _=>by rw [inner kind j m s hm,wMo],wMo,<- ke]
    rfl
  unfold wEw
  rw [if_pos (by omega)]
  show jn (forN _ 4 0 s0) _=_
  rw [wHF (fun e=>(.inr e:S ⊕ E)) (f:=f) (L:=fun k=>if k=0 then skL 0 r.Starts.length 1 else if k=1 then skL 1 r.Starts.length r.Splits.length else if k=2 then skL 2 1 r.Clocks.length else skL 3 1 r.Readings.length) 4 0 s0 fun j s _ hj=>?_,wOm]
  · congr 1
    show nD _ [0,1,2,3]=_
    simp only [nR,List.flatMap_nil,kB]
    rfl
  · have:j=0 \/ j=1 \/ j=2 \/ j=3:=by omega
    rcases this with rfl | rfl | rfl | rfl
    · exact skier 0 r.Starts.length 1 s (by omega) (by omega)
    · exact skier 1 r.Starts.length r.Splits.length s (by omega) (by omega)
    · exact skier 2 1 r.Clocks.length s (by omega) (by omega)
    · exact skier 3 1 r.Readings.length s (by omega) (by omega)
end
end Go.Proofs.YtlnfbjphfoipaaaGreat
namespace Go.Proofs.YtlnfbjphfoipaaaGreat
open Go.KL Go.KL.Net
def wFD:List Pt->Nat->List (Pt × Int)
 | [],_=>[]
 | p :: l,k=>(p,(k:Int)) :: wFD l (k + 1)
theorem wIY:∀ (l:List Pt) (k:Nat),(wFD l k).length=l.length
 | [],_=>rfl
 | _ :: l,k=>by rw [wFD,nE,nE,wIY l]
theorem wKO:∀ (l:List Pt) (p:Pt) (k:Nat),wFD (l ++ [p]) k=wFD l k ++ [(p,((k + l.length:Nat):Int))]
 | [],p,k=>by simp [wFD]
 | a :: l,p,k=>by
  rw [kA,wFD,wFD,wKO l p (k + 1),kA,nE]
  congr 4
  omega
theorem wKP:∀ {l:List Pt} {k:Nat} {p:Pt},p ∉ l->wLw (wFD l k) p=none/\∀ v,wGc (wFD l k) p v=wFD l k ++ [(p,v)]
 | [],_,_,_=>⟨rfl,fun _=>rfl⟩
 | a :: l,k,p,h=>by
  rw [nn,not_or] at h
  obtain ⟨h1,h2⟩:=wKP (l:=l) (k:=k + 1) h.2
  refine ⟨by rw [wFD,wLw,if_neg h.1];exact h1,fun v=>?_⟩
  rw [wFD,wGc,if_neg h.1,h2 v];rfl
theorem wLb:∀ {l:List Pt} {k i:Nat},l.Nodup->i < l.length->wLw (wFD l k) (gd l i)=some ((k + i:Nat):Int)
 | a :: l,k,0,_,_=>by
  rw [wFD,wLw]
  exact if_pos rfl
 | a :: l,k,i + 1,nd,hi=>by
  rw [List.nodup_cons] at nd
  have hi':i < l.length:=by simpa using hi
  have e:gd (a :: l) (i + 1)=gd l i:=rfl
  have hne:gd l i ≠ a:=fun h=>nd.1 (h ▸ wDq hi')
  rw [e,wFD,wLw,if_neg hne,wLb nd.2 hi']
  congr 2
  omega
def pos (pts:List Pt) (p:Pt):Nat:=(wBX (wFD pts 0) p 0).toNat
theorem wLc {α:Type} [Inhabited α] {l:List α} {a:α} (h:a ∈ l):∃ i,i < l.length/\gd l i=a:=by
 obtain ⟨i,hi,e⟩:=kg h
 exact ⟨i,hi,by rw [wLX hi,e]⟩
theorem wKQ {pts:List Pt} (nd:pts.Nodup) {i:Nat} (hi:i < pts.length):pos pts (gd pts i)=i/\wBX (wFD pts 0) (gd pts i) 0=(i:Int)/\wKv (wFD pts 0) (gd pts i)=true:=by
 unfold pos wBX wKv
 rw [wLb nd hi]
 simp
theorem wIE {pts:List Pt} (nd:pts.Nodup) {p:Pt} (h:p ∈ pts):pos pts p < pts.length/\gd pts (pos pts p)=p/\wBX (wFD pts 0) p 0=(pos pts p:Int)/\wKv (wFD pts 0) p=true:=by
 obtain ⟨i,hi,rfl⟩:=wLc h
 obtain ⟨h1,h2,h3⟩:=wKQ nd hi
 rw [h1]
 exact ⟨hi,rfl,h2,h3⟩
def wHa (pts:List Pt) (p:Pt):List Pt:=if p ∈ pts then pts else pts ++ [p]
theorem wJr {pts:List Pt} (nd:pts.Nodup) (p:Pt):(wHa pts p).Nodup:=by
 unfold wHa
 split
 ·exact nd
 ·rename_i h
  rw [nt]
  exact ⟨nd,by simp,fun a ha b hb e=>h (by rw [nh.1 hb] at e;exact e ▸ ha)⟩
theorem wEE {pts:List Pt} {p q:Pt}:q ∈ wHa pts p ↔ q ∈ pts \/ q=p:=by
 unfold wHa
 split
 ·rename_i h
  exact ⟨.inl,fun e=>e.elim id fun e=>e ▸ h⟩
 ·rw [nL,nh]
theorem wKR (pts:List Pt) (p:Pt):pts.length <= (wHa pts p).length/\(wHa pts p).length <= pts.length + 1:=by
 unfold wHa
 split <;> simp
theorem wKS {pts:List Pt} (nd:pts.Nodup) {p q:Pt} (h:q ∈ pts):wBX (wFD (wHa pts p) 0) q 0=wBX (wFD pts 0) q 0:=by
 unfold wHa
 split
 ·rfl
 ·rename_i hp
  obtain ⟨i,hi,rfl⟩:=wLc h
  have e:gd (pts ++ [p]) i=gd pts i:=wIU hi
  have nd2:=wJr nd p
  unfold wHa at nd2
  rw [if_neg hp] at nd2
  rw [(wKQ nd hi).2.1,<- e,(wKQ nd2 (by rw [nN];omega)).2.1]
theorem wKT {pts:List Pt} (nd:pts.Nodup) (p:Pt):(if (wKv (wFD pts 0) p)=true then some (wFD pts 0) else some (wGc (wFD pts 0) p (↑((wFD pts 0).length):Int)))=some (wFD (wHa pts p) 0):=by
 by_cases h:p ∈ pts
 ·rw [if_pos (wIE nd h).2.2.2,wHa,if_pos h]
 ·have ho:=wKP (k:=0) h
  have hn:¬ wKv (wFD pts 0) p=true:=by unfold wKv;rw [ho.1];simp
  rw [if_neg hn,ho.2,wHa,if_neg h,wKO,wIY,nV]
theorem wLd {pts:List Pt} {p:Pt} {i:Nat} (h:i < pts.length):gd (wHa pts p) i=gd pts i:=by
 unfold wHa
 split
 ·rfl
 ·exact wIU h
def mkE (r:wAA) (pts:List Pt) (x:wAH):wAg:=⟨x,wBX (wFD pts 0) (wDP r x).1 0,wBX (wFD pts 0) (wDP r x).2.1 0,(wDP r x).2.2⟩
structure Desk (r:wAA) (d:wAh) (pts:List Pt):Prop where
 c:RC r
 race:d.Race=r
 num:d.number=wFD pts 0
 nd:pts.Nodup
 len:1 <= pts.length/\pts.length <= 433
 zero:gd pts 0=zp
 all:∀ p,p ∈ pts ↔ wEv r p
 edges:d.edges=(wJE r).map (mkE r pts)
structure OpI (r:wAA) (pre:List wAH) (s:List wAg × List (Pt × Int)) (pts:List Pt):Prop where
 num:s.2=wFD pts 0
 nd:pts.Nodup
 len:1 <= pts.length/\pts.length <= 1 + 2 * pre.length
 zero:gd pts 0=zp
 ok:∀ p ∈ pts,wEv r p
 has:∀ x ∈ pre,(wDP r x).1 ∈ pts/\(wDP r x).2.1 ∈ pts
 edges:s.1=pre.map (mkE r pts)
def opF (r:wAA):List wAg × List (Pt × Int)->wAH->Option ((List wAg × List (Pt × Int)) ⊕ Empty):=fun (l1591,l1595) x1616 =>
  (wBb r x1616).bind fun (x1652,x1653,x1654) =>
  (wCQ 0 2 (fun k1692 l1689 =>
   (idx ([x1652,x1653]:List wAI) (↑k1692:Int)).bind fun x1718 =>
   if (wKv l1689 x1718)=true then
    some l1689
   else
    some (wGc l1689 x1718 (↑(l1689.length):Int))) l1595).bind fun y1697 =>
  (app 56 l1591 [(⟨x1616,(wBX y1697 x1652 0),(wBX y1697 x1653 0),x1654⟩:wAg)]).bind fun x1773 =>
  some (.inl (x1773,y1697))
theorem wOo {r:wAA} (C:RC r) {pre:List wAH} (hp:pre.length <= 216) {x:wAH} (hx:wCZ r x) {s:List wAg × List (Pt × Int)} {pts:List Pt} (I:OpI r pre s pts):∃ s' pts',opF r s x=some (.inl s')/\OpI r (pre ++ [x]) s' pts':=by
 obtain ⟨es,num⟩:=s
 obtain ⟨hn,nd,hl,hz,ok,has,he⟩:=I
 simp only at hn he
 subst hn he
 obtain ⟨o1,o2,_,_⟩:=wDv C hx
 unfold opF
 simp only
 rw [wMK C hx,hD]
 have nd1:=wJr nd (wDP r x).1
 have nd2:=wJr nd1 (wDP r x).2.1
 have loop:(wCQ 0 2 (fun k1692 l1689 =>
   (idx ([(wDP r x).1,(wDP r x).2.1]:List wAI) (↑k1692:Int)).bind fun x1718 =>
   if (wKv l1689 x1718)=true then
    some l1689
   else
    some (wGc l1689 x1718 (↑(l1689.length):Int))) (wFD pts 0))=some (wFD (wHa (wHa pts (wDP r x).1) (wDP r x).2.1) 0):=by
  unfold wCQ
  rw [if_pos (by omega)]
  show forN' _ 2 0 (wFD pts 0)=_
  have i0:idx ([(wDP r x).1,(wDP r x).2.1]:List wAI) ((0:Nat):Int)=some (wDP r x).1:=rfl
  have i1:idx ([(wDP r x).1,(wDP r x).2.1]:List wAI) ((0 + 1:Nat):Int)=some (wDP r x).2.1:=rfl
  simp only [forN',i0,i1,hD]
  rw [wKT nd]
  simp only
  rw [wKT nd1]
 rw [loop,hD,wEH (by rw [nO];simp only [nE,nZ];omega),hD]
 have l1:=wKR pts (wDP r x).1
 have l2:=wKR (wHa pts (wDP r x).1) (wDP r x).2.1
 have same:∀ q ∈ pts,wBX (wFD (wHa (wHa pts (wDP r x).1) (wDP r x).2.1) 0) q 0=wBX (wFD pts 0) q 0:=fun q hq=>by
  rw [wKS nd1 (wEE.2 (.inl hq)),wKS nd hq]
 refine ⟨_,wHa (wHa pts (wDP r x).1) (wDP r x).2.1,rfl,rfl,nd2,⟨by omega,by rw [nN,nu];omega⟩,?_,fun p hp=>?_,fun y hy=>?_,?_⟩
 ·rw [wLd (by omega),wLd (by omega),hz]
 ·rcases wEE.1 hp with hp | rfl
  ·rcases wEE.1 hp with hp | rfl
   ·exact ok p hp
   ·exact o1
  ·exact o2
 ·rcases nL.1 hy with hy | hy
  ·obtain ⟨a,b⟩:=has y hy
   exact ⟨wEE.2 (.inl (wEE.2 (.inl a))),wEE.2 (.inl (wEE.2 (.inl b)))⟩
  ·have:=nh.1 hy
   subst this
   exact ⟨wEE.2 (.inl (wEE.2 (.inr rfl))),wEE.2 (.inr rfl)⟩
 ·simp only
  rw [nM]
  congr 1
  refine List.map_congr_left fun y hy=>?_
  obtain ⟨a,b⟩:=has y hy
  unfold mkE
  rw [same _ a,same _ b]
theorem skip (r:wAA) (p:Pt) (h:wEv r p) (C:RC r):p=zp \/ ∃ x,wCZ r x/\(wDP r x).2.1=p:=by
 rcases h with h | ⟨a,b,c,d⟩ | ⟨a,b,c⟩
 ·exact .inl h
 ·right
  by_cases e:p.mat=0
  ·refine ⟨⟨0,p.skier,0,true⟩,.inl ⟨rfl,a,b,rfl⟩,?_⟩
   show (⟨p.skier,0⟩:Pt)=p
   rw [<- e]
  ·refine ⟨⟨1,p.skier,p.mat - 1,true⟩,.inr (.inl ⟨rfl,a,b,by simp only;omega,by simp only;omega⟩),?_⟩
   show (⟨p.skier,p.mat - 1 + 1⟩:Pt)=p
   rw [nr]
 ·right
  refine ⟨⟨2,0,p.mat - 1,true⟩,.inr (.inr (.inl ⟨rfl,rfl,by simp only;omega,by simp only;omega⟩)),?_⟩
  show (⟨-1,1 + (p.mat - 1)⟩:Pt)=p
  rw [<- a,kR,nr]
theorem wJG {r:wAA} (C:RC r):∃ d pts,wDV r=some d/\Desk r d pts:=by
 unfold wDV wBt wDU
 simp only [hD]
 rw [wLa _ _ C]
 have hlen:=wJF C
 have key:∀ (l pre:List wAH) (s:List wAg × List (Pt × Int)) (pts:List Pt),OpI r pre s pts->pre.length + l.length <= 216->(∀ x ∈ l,wCZ r x)->∃ s' pts',wIl (opF r) l s=some (.inl s')/\OpI r (pre ++ l) s' pts':=by
  intro l
  induction l with
  | nil=>intro pre s pts I _ _;exact ⟨s,pts,rfl,by rw [kB];exact I⟩
  | cons x l ih =>
   intro pre s pts I hl hx
   simp only [nE] at hl
   obtain ⟨s1,p1,e,I1⟩:=wOo C (by omega) (hx x (by simp)) I
   obtain ⟨s2,p2,e2,I2⟩:=ih (pre ++ [x]) s1 p1 I1 (by rw [nN,nu];omega) fun y hy=>hx y (by simp [hy])
   refine ⟨s2,p2,by rw [wIl,e];exact e2,?_⟩
   rw [nQ] at I2
   exact I2
 obtain ⟨⟨es,num⟩,pts,e,I⟩:=key (wJE r) [] ([],wGc ([]:List (Pt × Int)) (⟨-1,0⟩:wAI) 0) [zp] ⟨rfl,by simp,⟨by simp,by simp⟩,rfl,fun p hp=>.inl (nh.1 hp),(fun x hx=>by cases hx),rfl⟩ (by simpa using hlen) fun x hx=>wFS.1 hx
 rw [List.nil_append] at I
 have hz:zp ∈ pts:=I.zero ▸ wDq I.len.1
 refine ⟨⟨r,num,es⟩,pts,?_,C,rfl,I.num,I.nd,⟨I.len.1,by have:=I.len.2;omega⟩,I.zero,fun p=>⟨I.ok p,fun h=>?_⟩,I.edges⟩
 ·show (wIl (opF r) (wJE r) _).bind _=_
  rw [e]
  rfl
 ·rcases skip r p h C with rfl | ⟨x,hx,rfl⟩
  ·exact hz
  ·exact (I.has x (wFS.2 hx)).2
end Go.Proofs.YtlnfbjphfoipaaaGreat
namespace Go.Proofs.YtlnfbjphfoipaaaGreat
open Go.KL Go.KL.Net
def wCr (r:wAA) (y:Pt->Int):Prop:=∀ x,wCZ r x->y (wDP r x).2.1 <= y (wDP r x).1 + (wDP r x).2.2
section
variable {r:wAA} {y:Pt->Int}
theorem fp0 (F:wCr r y) {s:Int} (h0:0 <= s) (h1:s < r.Starts.length):y ⟨s,0⟩=y zp + gd r.Starts s.toNat:=by
 have a:y ⟨s,0⟩ <= y zp + gd r.Starts s.toNat:=F ⟨0,s,0,true⟩ (.inl ⟨rfl,h0,h1,rfl⟩)
 have b:y zp <= y ⟨s,0⟩ + -gd r.Starts s.toNat:=F ⟨0,s,0,false⟩ (.inl ⟨rfl,h0,h1,rfl⟩)
 omega
theorem fp1 (F:wCr r y) {s k:Int} (h0:0 <= s) (h1:s < r.Starts.length) (k0:0 <= k) (k1:k < r.Splits.length):y ⟨s,k⟩ + (gd r.Splits k.toNat).Lo <= y ⟨s,k + 1⟩/\y ⟨s,k + 1⟩ <= y ⟨s,k⟩ + (gd r.Splits k.toNat).Hi:=by
 have a:y ⟨s,k + 1⟩ <= y ⟨s,k⟩ + (gd r.Splits k.toNat).Hi:=F ⟨1,s,k,true⟩ (.inr (.inl ⟨rfl,h0,h1,k0,k1⟩))
 have b:y ⟨s,k⟩ <= y ⟨s,k + 1⟩ + -(gd r.Splits k.toNat).Lo:=F ⟨1,s,k,false⟩ (.inr (.inl ⟨rfl,h0,h1,k0,k1⟩))
 omega
theorem fp2 (F:wCr r y) {k:Int} (k0:0 <= k) (k1:k < r.Clocks.length):y ⟨-1,1 + k⟩ <= y zp - (gd r.Clocks k.toNat).Offset.Lo/\y zp <= y ⟨-1,1 + k⟩ + (gd r.Clocks k.toNat).Offset.Hi:=by
 have a:y ⟨-1,1 + k⟩ <= y zp + -(gd r.Clocks k.toNat).Offset.Lo:=F ⟨2,0,k,true⟩ (.inr (.inr (.inl ⟨rfl,rfl,k0,k1⟩)))
 have b:y zp <= y ⟨-1,1 + k⟩ + (gd r.Clocks k.toNat).Offset.Hi:=F ⟨2,0,k,false⟩ (.inr (.inr (.inl ⟨rfl,rfl,k0,k1⟩)))
 omega
theorem wJH (C:RC r) (F:wCr r y) {p:Pt} (hp:wEv r p):-3300000 <= y p - y zp/\y p - y zp <= 3300000:=by
 rcases hp with rfl | ⟨a,b,c,d⟩ | ⟨a,b,c⟩
 ·omega
 ·have key:∀ k:Nat,(k:Int) <= r.Splits.length->0 <= y ⟨p.skier,k⟩ - y zp/\y ⟨p.skier,k⟩ - y zp <= 360000 * ((k:Int) + 1):=by
   intro k
   induction k with
   | zero =>
    intro _
    have:=fp0 F a b
    have:=C.st _ (wDL a b)
    show 0 <= y ⟨p.skier,0⟩ - y zp/\y ⟨p.skier,0⟩ - y zp <= _
    omega
   | succ k ih =>
    intro hk
    have h:=ih (by omega)
    have f:=fp1 F a b (k:=(k:Int)) (by omega) (by omega)
    have g:=C.sp _ (wDL (l:=r.Splits) (i:=(k:Int)) (by omega) (by omega))
    have e:((k + 1:Nat):Int)=(k:Int) + 1:=by omega
    rw [e]
    omega
  have:=key p.mat.toNat (by omega)
  rw [nH c] at this
  have hm:=C.m
  have e:(⟨p.skier,p.mat⟩:Pt)=p:=rfl
  rw [e] at this
  omega
 ·have f:=fp2 F (k:=p.mat - 1) (by omega) (by omega)
  have g:=(C.ck _ (wDL (l:=r.Clocks) (i:=p.mat - 1) (by omega) (by omega))).1
  have e:(⟨-1,1 + (p.mat - 1)⟩:Pt)=p:=by rw [<- a,kR,nr]
  rw [e] at f
  omega
theorem wOp {S:Pt->Prop} (hS:∀ x,wCZ r x->S (wDP r x).1->S (wDP r x).2.1) {p:Pt} (hp:wEv r p) (h:S p):S zp:=by
 rcases hp with rfl | ⟨a,b,c,d⟩ | ⟨a,b,c⟩
 ·exact h
 ·have key:∀ k:Nat,(k:Int) <= r.Splits.length->S ⟨p.skier,k⟩->S zp:=by
   intro k
   induction k with
   | zero=>intro _ hk;exact hS ⟨0,p.skier,0,false⟩ (.inl ⟨rfl,a,b,rfl⟩) hk
   | succ k ih =>
    intro hk h
    refine ih (by omega) ?_
    have e:((k + 1:Nat):Int)=(k:Int) + 1:=by omega
    rw [e] at h
    exact hS ⟨1,p.skier,k,false⟩ (.inr (.inl ⟨rfl,a,b,by simp only;omega,by simp only;omega⟩)) h
  refine key p.mat.toNat (by omega) ?_
  rw [nH c];exact h
 ·have e:(⟨-1,1 + (p.mat - 1)⟩:Pt)=p:=by rw [<- a,kR,nr]
  refine hS ⟨2,0,p.mat - 1,false⟩ (.inr (.inr (.inl ⟨rfl,rfl,by simp only;omega,by simp only;omega⟩))) ?_
  show S ⟨-1,1 + (p.mat - 1)⟩
  rw [e];exact h
theorem wNT {S:Pt->Prop} (hS:∀ x,wCZ r x->S (wDP r x).1->S (wDP r x).2.1) (h:S zp) {p:Pt} (hp:wEv r p):S p:=by
 rcases hp with rfl | ⟨a,b,c,d⟩ | ⟨a,b,c⟩
 ·exact h
 ·have key:∀ k:Nat,(k:Int) <= r.Splits.length->S ⟨p.skier,k⟩:=by
   intro k
   induction k with
   | zero=>intro _;exact hS ⟨0,p.skier,0,true⟩ (.inl ⟨rfl,a,b,rfl⟩) h
   | succ k ih =>
    intro hk
    have e:((k + 1:Nat):Int)=(k:Int) + 1:=by omega
    rw [e]
    exact hS ⟨1,p.skier,k,true⟩ (.inr (.inl ⟨rfl,a,b,by simp only;omega,by simp only;omega⟩)) (ih (by omega))
  have:=key p.mat.toNat (by omega)
  rw [nH c] at this
  exact this
 ·have e:(⟨-1,1 + (p.mat - 1)⟩:Pt)=p:=by rw [<- a,kR,nr]
  have:=hS ⟨2,0,p.mat - 1,true⟩ (.inr (.inr (.inl ⟨rfl,rfl,by simp only;omega,by simp only;omega⟩))) h
  rw [<- e];exact this
def wNU (x:wAH):wAH:=⟨x.Kind,x.Skier,x.Index,!x.Up⟩
theorem wLe {x:wAH} (h:wCZ r x):wCZ r (wNU x)/\(wDP r (wNU x)).1=(wDP r x).2.1/\(wDP r (wNU x)).2.1=(wDP r x).1:=by
 refine ⟨h,?_⟩
 obtain ⟨k,s,i,u⟩:=x
 unfold wDP wNU
 cases u <;> exact ⟨rfl,rfl⟩
structure IsDP (r:wAA) (a:Pt) (f:Pt->Int):Prop where
 ok:wCr r f
 zero:f a=0
 gr:∀ y,wCr r y->∀ p,wEv r p->y p - y a <= f p
theorem IsDP.one {a:Pt} {f g:Pt->Int} (F:IsDP r a f) (G:IsDP r a g) {p:Pt} (hp:wEv r p):f p=g p:=by
 have h1:=F.gr g G.ok p hp
 have h2:=G.gr f F.ok p hp
 have:=F.zero;have:=G.zero
 omega
theorem IsDP.near {a:Pt} {f:Pt->Int} (C:RC r) (F:IsDP r a f) (ha:wEv r a) {p:Pt} (hp:wEv r p):-6600000 <= f p/\f p <= 6600000:=by
 have h1:=wJH C F.ok ha
 have h2:=wJH C F.ok hp
 have:=F.zero
 omega
end
section
variable {r:wAA} {d:wAh} {pts:List Pt} (D:Desk r d pts)
include D
theorem Desk.pos_ok {p:Pt} (hp:wEv r p):pos pts p < pts.length/\gd pts (pos pts p)=p/\wBX d.number p 0=(pos pts p:Int):=by
 obtain ⟨h1,h2,h3,_⟩:=wIE D.nd ((D.all p).2 hp)
 exact ⟨h1,h2,by rw [D.num];exact h3⟩
theorem Desk.gd_ok {v:Nat} (hv:v < pts.length):wEv r (gd pts v)/\pos pts (gd pts v)=v:=⟨(D.all _).1 (wDq hv),(wKQ D.nd hv).1⟩
theorem Desk.ed_is {x:wAH} (h:wCZ r x) (p:Bool):ed p (mkE r pts x)=if p then ⟨pos pts (wDP r x).2.1,pos pts (wDP r x).1,(wDP r x).2.2⟩ else ⟨pos pts (wDP r x).1,pos pts (wDP r x).2.1,(wDP r x).2.2⟩:=by
 obtain ⟨o1,o2,_,_⟩:=wDv D.c h
 have h1:=(wIE D.nd ((D.all _).2 o1)).2.2.1
 have h2:=(wIE D.nd ((D.all _).2 o2)).2.2.1
 unfold ed mkE
 simp only [h1,h2,nK]
theorem Desk.mem {p:Bool} {e:Ed}:e ∈ d.edges.map (ed p) ↔ ∃ x,wCZ r x/\e=ed p (mkE r pts x):=by
 rw [D.edges,List.map_map]
 constructor
 ·intro h
  obtain ⟨x,hx,rfl⟩:=nW.1 h
  exact ⟨x,wFS.1 hx,rfl⟩
 ·rintro ⟨x,hx,rfl⟩
  exact nW.2 ⟨x,wFS.2 hx,rfl⟩
theorem Desk.edOK:∀ e ∈ d.edges,EdOK pts.length e:=by
 intro e he
 rw [D.edges] at he
 obtain ⟨x,hx,rfl⟩:=nW.1 he
 have h:=wFS.1 hx
 obtain ⟨o1,o2,c1,c2⟩:=wDv D.c h
 obtain ⟨h1,_,h2,_⟩:=wIE D.nd ((D.all _).2 o1)
 obtain ⟨g1,_,g2,_⟩:=wIE D.nd ((D.all _).2 o2)
 unfold mkE
 rw [h2,g2]
 exact ⟨by simp only;omega,by simp only;omega,by simp only;omega,by simp only;omega,c1,c2⟩
theorem Desk.elen:d.edges.length <= 1000:=by
 have:=wJF D.c
 rw [D.edges,nO]
 omega
theorem Desk.feas {y:Pt->Int} (F:wCr r y):wHZ (d.edges.map (ed false)) fun v=>y (gd pts v):=by
 intro e he
 obtain ⟨x,hx,rfl⟩:=D.mem.1 he
 obtain ⟨o1,o2,_,_⟩:=wDv D.c hx
 rw [D.ed_is hx]
 simp only [nS,if_false]
 rw [(D.pos_ok o1).2.1,(D.pos_ok o2).2.1]
 exact F x hx
theorem Desk.back {z:Nat->Int} (F:wHZ (d.edges.map (ed false)) z):wCr r fun p=>z (pos pts p):=by
 intro x hx
 have:=F _ (D.mem.2 ⟨x,hx,rfl⟩)
 rw [D.ed_is hx] at this
 simp only [nS,if_false] at this
 exact this
theorem Desk.backT {z:Nat->Int} (F:wHZ (d.edges.map (ed true)) z):wCr r fun p=>-z (pos pts p):=by
 intro x hx
 have:=F _ (D.mem.2 ⟨x,hx,rfl⟩)
 rw [D.ed_is hx] at this
 simp only [if_true] at this
 simp only
 omega
theorem Desk.con (p:Bool):Con pts.length 6600000 (d.edges.map (ed p)):=by
 refine ⟨fun e he=>?_,fun z hz a b ha hb=>?_,fun S i hi hSi hS v hv=>?_⟩
 ·obtain ⟨x,hx,rfl⟩:=D.mem.1 he
  obtain ⟨o1,o2,_,_⟩:=wDv D.c hx
  have h1:=(D.pos_ok o1).1
  have h2:=(D.pos_ok o2).1
  rw [D.ed_is hx]
  split
  ·exact ⟨h2,h1⟩
  ·exact ⟨h1,h2⟩
 ·obtain ⟨pa,ea⟩:=D.gd_ok ha
  obtain ⟨pb,eb⟩:=D.gd_ok hb
  cases p with
  | false =>
   have h1:=wJH D.c (D.back hz) pa
   have h2:=wJH D.c (D.back hz) pb
   simp only [ea,eb] at h1 h2
   omega
  | true =>
   have h1:=wJH D.c (D.backT hz) pa
   have h2:=wJH D.c (D.backT hz) pb
   simp only [ea,eb] at h1 h2
   omega
 ·have hcl:∀ x,wCZ r x->S (pos pts (wDP r x).1)->S (pos pts (wDP r x).2.1):=fun x hx h=>by
   cases p with
   | false =>
    have:=hS _ (D.mem.2 ⟨x,hx,rfl⟩)
    rw [D.ed_is hx] at this
    simp only [nS,if_false] at this
    exact this h
   | true =>
    obtain ⟨t1,t2,t3⟩:=wLe hx
    have:=hS _ (D.mem.2 ⟨_,t1,rfl⟩)
    rw [D.ed_is t1] at this
    simp only [if_true] at this
    rw [t2,t3] at this
    exact this h
  obtain ⟨pi,ei⟩:=D.gd_ok hi
  obtain ⟨pv,ev⟩:=D.gd_ok hv
  have:=wNT (S:=fun q=>S (pos pts q)) hcl (wOp (S:=fun q=>S (pos pts q)) hcl pi (by show S (pos pts (gd pts i));rw [ei];exact hSi)) pv
  have this:S (pos pts (gd pts v)):=this
  rwa [ev] at this
theorem Desk.cost (p:Bool):∀ e ∈ d.edges.map (ed p),e.c <= 400000:=by
 intro e he
 obtain ⟨x,hx,rfl⟩:=D.mem.1 he
 obtain ⟨_,_,_,c⟩:=wDv D.c hx
 rw [D.ed_is hx]
 split <;> exact c
theorem Desk.nlen:d.number.length=pts.length:=by rw [D.num,wIY]
theorem Desk.any:∃ f last ok,wAr d (-1) false=some (f,last,ok)/\f.far.length=pts.length/\f.by_.length=pts.length/\(ok=true ↔ ∃ y,wCr r y)/\(ok=true->wCr r fun p=>gd f.far (pos pts p))/\(ok=false->0 <= last/\last < pts.length):=by
 obtain ⟨f,last,ok,e,bl,fl,h1,h2⟩:=wJC D.nlen D.len.1 (by have:=D.len.2;omega) D.edOK D.elen (-1) false
 have hp:0 < pts.length:=D.len.1
 have t0:wHW (-1) 0=0:=by unfold wHW;rw [if_pos (.inl (by omega))]
 have feas:ok=true->wCr r fun p=>gd f.far (pos pts p):=fun h=>D.back ((h1 h).feas (D.con false) (D.cost false) hp t0)
 refine ⟨f,last,ok,e,fl,bl,⟨fun h=>⟨_,feas h⟩,fun ⟨y,hy⟩=>?_⟩,feas,fun h=>⟨(h2 h).1,(h2 h).2.1⟩⟩
 cases ok with
 | true=>rfl
 | false =>
  exfalso
  obtain ⟨δ,M⟩:=wLU (D.con false) (D.feas hy) hp t0 (fun v _=>(wMn (-1) v).1)
  exact (h2 rfl).2.2 δ M fun v hv=>by have:=M.hi (D.con false) hp t0 v hv;omega
theorem Desk.from_ (hy:∃ y,wCr r y) {a:Pt} (ha:wEv r a):∃ f last,wAr d (pos pts a:Int) false=some (f,last,true)/\f.far.length=pts.length/\IsDP r a fun p=>gd f.far (pos pts p):=by
 obtain ⟨f,last,ok,e,bl,fl,h1,h2⟩:=wJC D.nlen D.len.1 (by have:=D.len.2;omega) D.edOK D.elen (pos pts a:Int) false
 obtain ⟨hp,hg,_⟩:=D.pos_ok ha
 have t0:wHW (pos pts a:Int) (pos pts a)=0:=by unfold wHW;rw [if_pos (.inr rfl)]
 obtain ⟨y,hy⟩:=hy
 have hok:ok=true:=by
  cases ok with
  | true=>rfl
  | false =>
   exfalso
   obtain ⟨δ,M⟩:=wLU (D.con false) (D.feas hy) hp t0 (fun v _=>(wMn _ v).1)
   exact (h2 rfl).2.2 δ M fun v hv=>by have:=M.hi (D.con false) hp t0 v hv;omega
 subst hok
 have I:=(h1 rfl).isD (by omega) (D.con false) (D.cost false) hp
 refine ⟨f,last,e,fl,D.back I.ok,I.zero,fun z hz p hpt=>?_⟩
 have:=I.gr _ (D.feas hz) (pos pts p) (D.pos_ok hpt).1
 simp only [hg,(D.pos_ok hpt).2.1] at this
 exact this
end
end Go.Proofs.YtlnfbjphfoipaaaGreat
namespace Go.Proofs.YtlnfbjphfoipaaaGreat
open Go.KL Go.KL.Net
def inB (n lo hi:Int):Bool:=decide (lo <= n/\n <= hi)
theorem wJs (n lo hi:Int):wBT n lo hi=some (inB n lo hi):=by
 unfold wBT inB
 by_cases h:lo <= n
 ·rw [if_pos h];simp [h]
 ·rw [if_neg h];simp [h]
def wKw (s:wAN) (lo hi:Int):Bool:=decide (s.Lo <= s.Hi/\lo <= s.Lo/\s.Hi <= hi)
theorem wIF (s:wAN) (lo hi:Int):wDB s lo hi=some (wKw s lo hi):=by
 unfold wDB wKw
 by_cases h:s.Lo <= s.Hi
 ·by_cases h2:lo <= s.Lo
  ·rw [if_pos h,if_pos h2];simp [h,h2]
  ·rw [if_pos h,if_neg h2];simp [h2]
 ·rw [if_neg h];simp [h]
theorem wLf {l:List Int} {f:Int->Option Bool} {p:Int->Bool} (hf:∀ a ∈ l,f a=some (p a)) (hn:l.length <= 1000):wCq l f=some (l.all p):=by
 unfold wCq
 refine (wGP (R:=Bool) (p:=p) (z:=false) (K:=fun _=>some true) (fun a ha=>?_) (by omega)).trans ?_
 ·rw [hf a ha,hD];split <;> rfl
 ·split <;> simp_all
theorem wKn {l:List wAN} {f:wAN->Option Bool} {p:wAN->Bool} (hf:∀ a ∈ l,f a=some (p a)) (hn:l.length <= 1000):wBq l f=some (l.all p):=by
 unfold wBq
 refine (wGP (R:=Bool) (p:=p) (z:=false) (K:=fun _=>some true) (fun a ha=>?_) (by omega)).trans ?_
 ·rw [hf a ha,hD];split <;> rfl
 ·split <;> simp_all
theorem wJt {l:List wAd} {f:wAd->Option Bool} {p:wAd->Bool} (hf:∀ a ∈ l,f a=some (p a)) (hn:l.length <= 1000):wBZ l f=some (l.all p):=by
 unfold wBZ
 refine (wGP (R:=Bool) (p:=p) (z:=false) (K:=fun _=>some true) (fun a ha=>?_) (by omega)).trans ?_
 ·rw [hf a ha,hD];split <;> rfl
 ·split <;> simp_all
theorem wGT {l:List wAJ} {f:wAJ->Option Bool} {p:wAJ->Bool} (hf:∀ a ∈ l,f a=some (p a)) (hn:l.length <= 1000):wAy l f=some (l.all p):=by
 unfold wAy
 refine (wGP (R:=Bool) (p:=p) (z:=false) (K:=fun _=>some true) (fun a ha=>?_) (by omega)).trans ?_
 ·rw [hf a ha,hD];split <;> rfl
 ·split <;> simp_all
structure wCa (r:wAA):Prop where
 n:r.Starts.length <= 10
 m:r.Splits.length <= 9
 c:r.Clocks.length <= 6
 q:r.Readings.length <= 44
def stP (s:Int):Bool:=inB s 0 360000
def spP (s:wAN):Bool:=wKw s 0 360000
def ckP (c:wAd):Bool:=wKw c.Offset (-36000) 36000 && inB c.Error 0 600
def rtP (x:wAJ):Bool:=inB x.Time 0 360000
def ruP (r:wAA) (x:wAJ):Bool:=inB x.Skier 0 ((r.Starts.length:Int) - 1) && (inB x.Mat 0 r.Splits.length && inB x.Clock 0 ((r.Clocks.length:Int) - 1))
def code (r:wAA):Int :=
 if ¬ (1 <= r.Starts.length/\r.Starts.length <= 8) then 2 else if 7 < r.Splits.length then 2 else if 4 < r.Clocks.length then 2 else if 40 < r.Readings.length then 2
 else if r.Starts.all stP=true then (if r.Splits.all spP=true then (if r.Clocks.all ckP=true then (if r.Readings.all rtP=true then (if r.Readings.all (ruP r)=true then 0 else 1) else 3) else 3) else 3) else 3
theorem wFx {r:wAA} (h:code r=0):RC r:=by
 unfold code at h
 split at h
 ·omega
 ·split at h
  ·omega
  ·split at h
   ·omega
   ·split at h
    ·omega
    ·split at h
     ·split at h
      ·split at h
       ·split at h
        ·split at h
         ·rename_i a1 a2 a3 a4 h1 h2 h3 h4 h5
          rw [na] at h1 h2 h3 h4 h5
          refine ⟨by omega,by omega,by omega,by omega,fun s hs=>?_,fun s hs=>?_,fun s hs=>?_,fun s hs=>?_,fun s hs=>?_⟩
          ·have:=h1 s hs
           simp only [stP,inB,decide_eq_true_eq] at this
           exact this
          ·have:=h2 s hs
           simp only [spP,wKw,decide_eq_true_eq] at this
           exact this
          ·have:=h3 s hs
           simp only [ckP,wKw,inB,nb,decide_eq_true_eq] at this
           exact this
          ·have:=h4 s hs
           simp only [rtP,inB,decide_eq_true_eq] at this
           exact this
          ·have:=h5 s hs
           simp only [ruP,inB,nb,decide_eq_true_eq] at this
           omega
         ·omega
        ·omega
       ·omega
      ·omega
     ·omega
theorem wLg {r:wAA} (S:wCa r) (s:wAL):wAp r s=some (inB s.Skier 0 ((r.Starts.length:Int) - 1) && inB s.Mat 0 r.Splits.length):=by
 have:=S.n
 unfold wAp
 rw [wAY (by omega) (by omega),wJs,hD,wJs,hD]
 cases inB s.Skier 0 ((r.Starts.length:Int) - 1)
 ·rw [if_neg (by simp)];rfl
 ·rw [if_pos rfl,nz]
theorem wIG {r:wAA} (S:wCa r):wCu r=some (code r):=by
 have hn:=S.n;have hm:=S.m;have hc:=S.c;have hq:=S.q
 unfold wCu code
 rw [wJs,hD]
 by_cases c1:1 <= r.Starts.length/\r.Starts.length <= 8
 ·have e1:inB (r.Starts.length:Int) 1 8=true:=by unfold inB;rw [decide_eq_true_eq];omega
  rw [e1,if_pos rfl,if_neg (show ¬ ¬ (1 <= r.Starts.length/\r.Starts.length <= 8) from fun h=>h c1)]
  by_cases c2:7 < r.Splits.length
  ·rw [if_pos (show (7:Int) < (r.Splits.length:Int) by omega),if_pos c2]
  ·rw [if_neg (show ¬ (7:Int) < (r.Splits.length:Int) by omega),if_neg c2]
   by_cases c3:4 < r.Clocks.length
   ·rw [if_pos (show (4:Int) < (r.Clocks.length:Int) by omega),if_pos c3]
   ·rw [if_neg (show ¬ (4:Int) < (r.Clocks.length:Int) by omega),if_neg c3]
    by_cases c4:40 < r.Readings.length
    ·rw [if_pos (show (40:Int) < (r.Readings.length:Int) by omega),if_pos c4]
    ·rw [if_neg (show ¬ (40:Int) < (r.Readings.length:Int) by omega),if_neg c4]
     rw [wLf (p:=stP) (fun a _=>by unfold wDA;rw [wJs];rfl) (by omega),hD]
     rw [wKn (p:=spP) (fun a _=>by unfold wDC;rw [wIF];rfl) (by omega),hD]
     rw [wJt (p:=ckP) (fun a _=>by
      unfold wDD ckP
      rw [wIF,hD,wJs,hD]
      cases wKw a.Offset (-36000) 36000
      ·rw [if_neg (by simp)];rfl
      ·rw [if_pos rfl];rfl) (by omega),hD]
     rw [wGT (p:=rtP) (fun a _=>by unfold wDE;rw [wJs];rfl) (by omega),hD]
     rw [wGT (p:=ruP r) (fun a _=>by
      unfold wDF ruP
      rw [wLg S,hD,wAY (by omega) (by omega),wJs,hD]
      simp only
      cases inB a.Skier 0 ((r.Starts.length:Int) - 1)
      ·rw [if_neg (by simp)];rfl
      ·cases inB a.Mat 0 (r.Splits.length:Int)
       ·rw [if_neg (by simp)];rfl
       ·simp) (by omega),hD]
     split
     ·split
      ·split
       ·split
        ·split <;> rfl
        ·rfl
       ·rfl
      ·rfl
     ·rfl
 ·have e1:inB (r.Starts.length:Int) 1 8=false:=by unfold inB;rw [decide_eq_false_iff_not];omega
  rw [e1,if_neg (by simp),if_pos c1]
end Go.Proofs.YtlnfbjphfoipaaaGreat
namespace Go.Proofs.YtlnfbjphfoipaaaGreat
open Go.KL Go.KL.Net
open Classical
def wFT (r:wAA) (s:wAL):Bool:=inB s.Skier 0 ((r.Starts.length:Int) - 1) && inB s.Mat 0 r.Splits.length
def pt (s:wAL):Pt:=⟨s.Skier,s.Mat⟩
theorem wJu {r:wAA} {s:wAL} (h:wFT r s=true):wEv r (pt s)/\0 <= s.Skier/\s.Skier < r.Starts.length/\0 <= s.Mat/\s.Mat <= r.Splits.length:=by
 simp only [wFT,inB,nb,decide_eq_true_eq] at h
 exact ⟨.inr (.inl ⟨h.1.1,by simp only [pt];omega,h.2.1,h.2.2⟩),h.1.1,by omega,h.2.1,h.2.2⟩
noncomputable def wFZ (r:wAA) (l:List wAL):Int:=if code r=0 then (if l.all (wFT r)=true then (if ∃ y,wCr r y then 0 else 7) else 1) else code r
theorem wNz {r:wAA} {l:List wAL} (h:wFZ r l=0):RC r/\code r=0/\l.all (wFT r)=true/\∃ y,wCr r y:=by
 unfold wFZ at h
 split at h
 ·split at h
  ·split at h
   ·rename_i a b c
    exact ⟨wFx a,a,b,c⟩
   ·omega
  ·omega
 ·contradiction
theorem wKU (r:wAA) (s:wAL):wFZ r [s,s]=wFZ r [s]:=by
 unfold wFZ
 rw [show [s,s].all (wFT r)=[s].all (wFT r) by simp [kH]]
theorem wFa {r:wAA} (S:wCa r):(code r ≠ 0/\wCd r=some (none,code r)) \/ (code r=0/\∃ d pts,wCd r=some (some d,0)/\Desk r d pts):=by
 unfold wCd
 rw [wIG S,hD]
 by_cases c:code r=0
 ·right
  obtain ⟨d,pts,e,D⟩:=wJG (wFx c)
  refine ⟨c,d,pts,?_,D⟩
  rw [if_pos c,e];rfl
 ·left
  exact ⟨c,if_neg c⟩
end Go.Proofs.YtlnfbjphfoipaaaGreat
namespace Go.Proofs.YtlnfbjphfoipaaaGreat
open Go.KL Go.KL.Net
open Classical
theorem wKo {l:List wAL} {f:wAL->Option Bool} {p:wAL->Bool} (hf:∀ a ∈ l,f a=some (p a)) (hn:l.length <= 1000):wBK l f=some (l.all p):=by
 unfold wBK
 refine (wGP (R:=Bool) (p:=p) (z:=false) (K:=fun _=>some true) (fun a ha=>?_) (by omega)).trans ?_
 ·rw [hf a ha,hD];split <;> rfl
 ·split <;> simp_all
section
variable {r:wAA} {d:wAh} {pts:List Pt} (D:Desk r d pts)
include D
theorem Desk.holds:∃ b,wAj d=some b/\(b=true ↔ ∃ y,wCr r y):=by
 obtain ⟨f,last,ok,e,_,_,h,_⟩:=D.any
 refine ⟨ok,?_,h⟩
 unfold wAj
 rw [e];rfl
end
theorem wKV {r:wAA} (S:wCa r) {l:List wAL} (hl:l.length <= 10):∃ o,wCv r l=some (o,wFZ r l)/\(wFZ r l=0->∃ d pts,o=some d/\Desk r d pts)/\(wFZ r l ≠ 0->o=none):=by
 unfold wCv
 rcases wFa S with ⟨c,e⟩ | ⟨c,d,pts,e,D⟩
 ·have ee:wFZ r l=code r:=by unfold wFZ;rw [if_neg c]
  refine ⟨none,?_,fun h=>absurd (ee ▸ h) c,fun _=>rfl⟩
  rw [e,hD,ee]
  simp only
  rw [if_neg c]
 ·rw [e,hD]
  simp only
  rw [if_pos trivial,wKo (p:=wFT r) (fun s _=>wLg S s) (by omega),hD]
  by_cases c2:l.all (wFT r)=true
  ·rw [if_pos c2]
   obtain ⟨b,e3,h3⟩:=D.holds
   rw [e3,hD]
   by_cases c3:∃ y,wCr r y
   ·have ee:wFZ r l=0:=by unfold wFZ;rw [if_pos c,if_pos c2,if_pos c3]
    rw [if_pos (h3.2 c3),ee]
    exact ⟨_,rfl,fun _=>⟨d,pts,rfl,D⟩,fun h=>absurd rfl h⟩
   ·have ee:wFZ r l=7:=by unfold wFZ;rw [if_pos c,if_pos c2,if_neg c3]
    rw [if_neg (fun h=>c3 (h3.1 h)),ee]
    exact ⟨_,rfl,fun h=>by omega,fun _=>rfl⟩
  ·have ee:wFZ r l=1:=by unfold wFZ;rw [if_pos c,if_neg c2]
   rw [if_neg c2,ee]
   exact ⟨_,rfl,fun h=>by omega,fun _=>rfl⟩
end Go.Proofs.YtlnfbjphfoipaaaGreat
namespace Go.Proofs.YtlnfbjphfoipaaaGreat
open Go.KL Go.KL.Net
open Classical
theorem wKp {S:Type} {body:Nat->S->Option S} {n:Nat} {s0:S} (I:Nat->S->Prop) (hn:n <= 1000) (h0:I 0 s0) (h:∀ i s,i < n->I i s->∃ s',body i s=some s'/\I (i + 1) s'):∃ s,wCQ 0 (n:Int) body s0=some s/\I n s:=by
 rw [wDJ (by omega)]
 have:=wDp (body:=body) I n 0 s0 h0 fun i s _ h2 h3=>h i s (by omega) h3
 rwa [nV] at this
end Go.Proofs.YtlnfbjphfoipaaaGreat
namespace Go.Proofs.YtlnfbjphfoipaaaGreat
open Go.KL Go.KL.Net
open Classical
theorem wIH {r:wAA} {d:wAh} {pts:List Pt} (D:Desk r d pts) (hy:∃ y,wCr r y) {a b:Pt} (ha:wEv r a) (hb:wEv r b) {f g:Pt->Int} (hf:IsDP r a f) (hg:IsDP r b g):wBG d a b=some ⟨-g a,f b⟩:=by
 obtain ⟨f',l1,e1,n1,F'⟩:=D.from_ hy ha
 obtain ⟨g',l2,e2,n2,G'⟩:=D.from_ hy hb
 have f1:=F'.one hf hb
 have g1:=G'.one hg ha
 have gn:=hg.near D.c hb ha
 have pa:=D.pos_ok ha
 have pb:=D.pos_ok hb
 unfold wBG
 rw [pa.2.2,pb.2.2,e1,hD]
 simp only
 rw [hD,e2,hD]
 simp only
 rw [hD]
 simp only
 rw [wDM (by omega) (by omega),hD,wDM (by omega) (by omega),hD,nK,nK,f1,g1,wAY (by omega) (by omega)]
theorem wKW {r:wAA} (S:wCa r) (c:code r=0) (hy:∃ y,wCr r y) {a:Pt} (ha:wEv r a):∃ f,IsDP r a f:=by
 rcases wFa S with ⟨c0,_⟩ | ⟨_,d,pts,_,D⟩
 ·exact absurd c c0
 ·obtain ⟨f,l,_,_,F⟩:=D.from_ hy ha
  exact ⟨_,F⟩
end Go.Proofs.YtlnfbjphfoipaaaGreat
namespace Go.Proofs.YtlnfbjphfoipaaaGreat
open Go.KL Go.KL.Net
open Classical
structure F4 (r:wAA) (y:Pt->Int):Prop where
 a:∀ s:Nat,s < r.Starts.length->y ⟨(s:Int),0⟩=y zp + gd r.Starts s
 b:∀ s k:Nat,s < r.Starts.length->k < r.Splits.length->(gd r.Splits k).Lo <= y ⟨(s:Int),(k:Int) + 1⟩ - y ⟨(s:Int),(k:Int)⟩/\y ⟨(s:Int),(k:Int) + 1⟩ - y ⟨(s:Int),(k:Int)⟩ <= (gd r.Splits k).Hi
 c:∀ k:Nat,k < r.Clocks.length->y ⟨-1,1 + (k:Int)⟩ <= y zp - (gd r.Clocks k).Offset.Lo/\y zp <= y ⟨-1,1 + (k:Int)⟩ + (gd r.Clocks k).Offset.Hi
 d:∀ x ∈ r.Readings,y ⟨x.Skier,x.Mat⟩ <= y ⟨-1,1 + x.Clock⟩ + (x.Time + (gd r.Clocks x.Clock.toNat).Error)/\y ⟨-1,1 + x.Clock⟩ <= y ⟨x.Skier,x.Mat⟩ + ((gd r.Clocks x.Clock.toNat).Error - x.Time)
theorem wOq {r:wAA} {y:Pt->Int}:wCr r y ↔ F4 r y:=by
 constructor
 ·intro F
  refine ⟨fun s hs=>?_,fun s k hs hk=>?_,fun k hk=>?_,fun x hx=>?_⟩
  ·have h:=fp0 F (s:=(s:Int)) (by omega) (by omega)
   rwa [nK] at h
  ·have h:=fp1 F (s:=(s:Int)) (k:=(k:Int)) (by omega) (by omega) (by omega) (by omega)
   rw [nK] at h
   omega
  ·have h:=fp2 F (k:=(k:Int)) (by omega) (by omega)
   rwa [nK] at h
  ·obtain ⟨k,hk,rfl⟩:=wLc hx
   have a:y ⟨(gd r.Readings k).Skier,(gd r.Readings k).Mat⟩ <= y ⟨-1,1 + (gd r.Readings k).Clock⟩ + ((gd r.Readings k).Time + (gd r.Clocks (gd r.Readings k).Clock.toNat).Error):=F ⟨3,0,(k:Int),true⟩ (.inr (.inr (.inr ⟨rfl,rfl,by simp only;omega,by simp only;omega⟩)))
   have b:y ⟨-1,1 + (gd r.Readings k).Clock⟩ <= y ⟨(gd r.Readings k).Skier,(gd r.Readings k).Mat⟩ + ((gd r.Clocks (gd r.Readings k).Clock.toNat).Error - (gd r.Readings k).Time):=F ⟨3,0,(k:Int),false⟩ (.inr (.inr (.inr ⟨rfl,rfl,by simp only;omega,by simp only;omega⟩)))
   exact ⟨a,b⟩
 ·rintro ⟨h1,h2,h3,h4⟩ x hx
  have key:y (wCP r x).2.1 <= y (wCP r x).1 + (wCP r x).2.2.1/\y (wCP r x).1 <= y (wCP r x).2.1 + (wCP r x).2.2.2:=by
   unfold wCP
   rcases hx with ⟨k,a,b,c⟩ | ⟨k,a,b,c,d⟩ | ⟨k,a,c,d⟩ | ⟨k,a,c,d⟩
   ·have h:=h1 x.Skier.toNat (by omega)
    rw [nH a] at h
    rw [if_pos k]
    simp only
    omega
   ·have h:=h2 x.Skier.toNat x.Index.toNat (by omega) (by omega)
    rw [nH a,nH c] at h
    rw [if_neg (by omega),if_pos k]
    simp only
    omega
   ·have h:=h3 x.Index.toNat (by omega)
    rw [nH c] at h
    rw [if_neg (by omega),if_neg (by omega),if_pos k]
    simp only
    omega
   ·have h:=h4 _ (wDL c d)
    rw [if_neg (by omega),if_neg (by omega),if_neg (by omega)]
    simp only
    omega
  unfold wDP
  split
  ·exact key.1
  ·exact key.2
end Go.Proofs.YtlnfbjphfoipaaaGreat
namespace Go.Proofs.YtlnfbjphfoipaaaGreat
open Go.KL Go.KL.Net
open Classical
structure Sm (r r':wAA):Prop where
 n:r'.Starts.length=r.Starts.length
 m:r'.Splits.length=r.Splits.length
 c:r'.Clocks.length=r.Clocks.length
theorem Sm.pt {r r':wAA} (h:Sm r r') {p:Pt}:wEv r' p ↔ wEv r p:=by
 unfold wEv
 rw [h.n,h.m,h.c]
theorem Sm.sp {r r':wAA} (h:Sm r r') (s:wAL):wFT r' s=wFT r s:=by
 unfold wFT
 rw [h.n,h.m]
def wr (r:wAA) (l:List wAJ):wAA:=⟨r.Starts,r.Splits,r.Clocks,l⟩
theorem wNV (r:wAA) (l:List wAJ):Sm r (wr r l):=⟨rfl,rfl,rfl⟩
theorem wOr {r:wAA} (C:RC r) {l:List wAJ} (hl:l.length <= 40) (h:∀ x ∈ l,x ∈ r.Readings):RC (wr r l) :=
 ⟨C.n,C.m,C.c,hl,C.st,C.sp,C.ck,fun x hx=>C.rt x (h x hx),fun x hx=>C.ru x (h x hx)⟩
theorem wNW {r:wAA} {l:List wAJ} {y:Pt->Int}:wCr (wr r l) y ↔ wCr (wr r []) y/\∀ x ∈ l,y ⟨x.Skier,x.Mat⟩ <= y ⟨-1,1 + x.Clock⟩ + (x.Time + (gd r.Clocks x.Clock.toNat).Error)/\y ⟨-1,1 + x.Clock⟩ <= y ⟨x.Skier,x.Mat⟩ + ((gd r.Clocks x.Clock.toNat).Error - x.Time):=by
 rw [wOq,wOq]
 exact ⟨fun h=>⟨⟨h.a,h.b,h.c,fun x hx=>by cases hx⟩,h.d⟩,fun h=>⟨h.1.a,h.1.b,h.1.c,h.2⟩⟩
theorem wOs {r:wAA} {l m:List wAJ} (h:∀ x ∈ l,x ∈ m) {y:Pt->Int} (F:wCr (wr r m) y):wCr (wr r l) y:=by
 rw [wNW] at F ⊢
 exact ⟨F.1,fun x hx=>F.2 x (h x hx)⟩
def wGk (q:Nat->Bool) (l:List wAJ) (k:Nat):List wAJ:=((nY k).filter fun i=>!q i).map fun i=>gd l i
theorem wJI (q:Nat->Bool) (l:List wAJ) (k:Nat):wGk q l (k + 1)=if q k=true then wGk q l k else wGk q l k ++ [gd l k]:=by
 unfold wGk
 rw [List.range_succ,km,nM]
 by_cases h:q k=true
 ·rw [if_pos h];simp [h]
 ·rw [if_neg h];simp [h]
theorem wHX (q:Nat->Bool) (l:List wAJ) (k:Nat):(wGk q l k).length <= k:=by
 unfold wGk
 rw [nO]
 have:=ka (fun i=>!q i) (nY k)
 rwa [kL] at this
theorem wIZ {q:Nat->Bool} {l:List wAJ} {x:wAJ}:x ∈ wGk q l l.length ↔ ∃ i,i < l.length/\q i=false/\x=gd l i:=by
 unfold wGk
 simp only [nW,List.mem_filter,kD,no]
 constructor
 ·rintro ⟨i,⟨h1,h2⟩,rfl⟩;exact ⟨i,h1,h2,rfl⟩
 ·rintro ⟨i,h1,h2,rfl⟩;exact ⟨i,⟨h1,h2⟩,rfl⟩
theorem wII {r:wAA} (C:RC r) {g:Int × wAJ->Option Bool} {q:Nat->Bool} (hg:∀ k,k < r.Readings.length->g ((k:Int),gd r.Readings k)=some (q k)):∃ d pts,wAk r g=some d/\Desk (wr r (wGk q r.Readings r.Readings.length)) d pts:=by
 have hq:=C.q
 unfold wAk
 rw [mkz,if_pos (by omega),hD]
 have ec:wLF (nB (r.Readings.length:Int).toNat (⟨0,0,0,0⟩:wAJ)) 0 r.Readings=some r.Readings:=by
  unfold wLF
  rw [if_pos (by simp)]
  unfold cpy
  simp
 rw [ec,hD]
 obtain ⟨s,e,h1,h2,h3,h4⟩:=wKp (n:=r.Readings.length) (body:=fun (k34:Nat) ((l32,k33):List wAJ × Nat) =>
  (chk (↑k34:Int) l32.length).bind fun _ =>
  (g ((↑k34:Int),(gd l32 k34))).bind fun x68 =>
  if x68=true then
   some (l32,k33)
  else
   (chk (((k33):Nat):Int) l32.length).bind fun _ =>
   some ((hH l32 k33 (gd l32 k34)),(k33 + 1))) (s0:=(r.Readings,0))
  (fun k s=>s.1.length=r.Readings.length/\s.2=(wGk q r.Readings k).length/\s.1.take s.2=wGk q r.Readings k/\∀ j,k <= j->j < r.Readings.length->gd s.1 j=gd r.Readings j) (by omega)
  ⟨rfl,rfl,rfl,fun _ _ _=>rfl⟩ (by
   rintro k ⟨l,c⟩ hk ⟨a1,a2,a3,a4⟩
   simp only at a1 a2 a3 a4 ⊢
   have hkl:=wHX q r.Readings k
   rw [wDM (by omega) (by omega),hD,a4 k (nJ _) hk,hg k hk,hD]
   by_cases h:q k=true
   ·rw [if_pos h]
    exact ⟨_,rfl,a1,by rw [wJI,if_pos h];exact a2,by rw [wJI,if_pos h];exact a3,fun j h1 h2=>a4 j (by omega) h2⟩
   ·rw [if_neg h,wDM (by omega) (by omega),hD]
    refine ⟨_,rfl,by simp only [nm];exact a1,?_,?_,fun j h1 h2=>?_⟩
    ·simp only
     rw [wJI,if_neg h,nN,a2];rfl
    ·simp only
     have hc:c < (l.set c (gd r.Readings k)).length:=by rw [nm];omega
     rw [wJI,if_neg h,wHU hc,List.take_set_of_le (nJ _),a3,wHV (by omega) (by omega),if_pos rfl]
    ·simp only
     rw [wHV (by omega) (by omega)]
     by_cases e:j=c
     ·omega
     ·rw [if_neg e]
      exact a4 j (by omega) h2)
 have hk2:=wHX q r.Readings r.Readings.length
 rw [e,hD]
 simp only
 have ecut:Go.KL.cut s.1 0 ((s.2:Nat):Int)=some (wGk q r.Readings r.Readings.length):=by
  unfold Go.KL.cut
  rw [if_pos (by omega)]
  rw [<- h3]
  simp
 rw [ecut,hD]
 obtain ⟨d,pts,ed,D⟩:=wJG (wOr C (l:=wGk q r.Readings r.Readings.length) (by omega) (fun x hx=>by
  obtain ⟨i,hi,_,rfl⟩:=wIZ.1 hx
  exact wDq hi))
 exact ⟨d,pts,by
  rw [show (⟨r.Starts,r.Splits,r.Clocks,wGk q r.Readings r.Readings.length⟩:wAA)=wr r (wGk q r.Readings r.Readings.length) from rfl,ed]
  rfl,D⟩
end Go.Proofs.YtlnfbjphfoipaaaGreat
namespace Go.Proofs.YtlnfbjphfoipaaaGreat
open Go.KL Go.KL.Net
open Classical
def Wo (r:wAA) (q:Nat->Bool):Prop:=∃ y,wCr (wr r (wGk q r.Readings r.Readings.length)) y
theorem wIa {r:wAA} (C:RC r) {g:Int × wAJ->Option Bool} {q:Nat->Bool} (hg:∀ k,k < r.Readings.length->g ((k:Int),gd r.Readings k)=some (q k)) {B:Type} {K:Bool->Option B}:((wAk r g).bind fun d=>(wAj d).bind K)=K (decide (Wo r q)):=by
 obtain ⟨d,pts,e,D⟩:=wII C hg
 obtain ⟨b,e2,h⟩:=D.holds
 rw [e,hD,e2,hD]
 have:b=decide (Wo r q):=by
  cases b with
  | true=>exact (decide_eq_true (h.1 rfl)).symm
  | false=>exact (decide_eq_false (fun w=>by have:=h.2 w;cases this)).symm
 rw [this]
theorem wHG {B:Type} {f:Nat->Option B} {c:B}:∀ (m k:Nat),fnd f m k=some c->∃ i,k <= i/\i < k + m/\f i=some c
 | 0,_,h=>by cases h
 | m + 1,k,h=>by
  unfold fnd at h
  cases e:f k with
  | some c' =>
   rw [e] at h
   exact ⟨k,nJ _,by omega,e.trans h⟩
  | none =>
   rw [e] at h
   obtain ⟨i,h1,h2,h3⟩:=wHG m (k + 1) h
   exact ⟨i,by omega,by omega,h3⟩
end Go.Proofs.YtlnfbjphfoipaaaGreat
namespace Go.Proofs.YtlnfbjphfoipaaaGreat
open Go.KL Go.KL.Net
open Classical
def lsR (r:wAA) (k:Nat):wAA:=wr r (wGk (fun i=>decide (k=i)) r.Readings r.Readings.length)
theorem wMp {r:wAA} {k:Nat} {y:Pt->Int} (F:wCr r y):wCr (lsR r k) y:=by
 have F:wCr (wr r r.Readings) y:=F
 exact wOs (fun x hx=>by
  obtain ⟨i,hi,_,rfl⟩:=wIZ.1 hx
  exact wDq hi) F
theorem most2 (a b:Int):wEX [a,b]=some (max a b):=by
 unfold wEX wCm
 rw [if_neg (by simp),show idx [a,b] 0=some a from rfl,hD]
 unfold wCQ
 rw [if_pos (by simp),show ((([a,b]:List Int).length:Int) - 1).toNat=1 from rfl]
 simp only [forN',show idx [a,b] (1 + ((0:Nat):Int))=some b from rfl,hD]
def mtL (c:Nat->Bool) (k:Nat):List Int:=((nY k).filter c).map fun (j:Nat)=>(j:Int)
theorem wML (c:Nat->Bool) (k:Nat):mtL c (k + 1)=if c k=true then mtL c k ++ [(k:Int)] else mtL c k:=by
 unfold mtL
 rw [List.range_succ,km,nM]
 by_cases h:c k=true
 ·rw [if_pos h];simp [h]
 ·rw [if_neg h];simp [h]
theorem wGl (c:Nat->Bool) (k:Nat):(mtL c k).length <= k:=by
 unfold mtL
 rw [nO]
 have:=ka c (nY k)
 rwa [kL] at this
theorem wLh {r:wAA} (S:wCa r) {s:wAL} (c:wFZ r [s]=0) {f g:Pt->Int} (hf:IsDP r zp f) (hg:IsDP r (pt s) g) {F G:Nat->Pt->Int} (hF:∀ k,k < r.Readings.length->IsDP (lsR r k) zp (F k)) (hG:∀ k,k < r.Readings.length->IsDP (lsR r k) (pt s) (G k)):wCi r s=some (mtL (fun k=>decide (0 < max (-g zp - -G k zp) (F k (pt s) - f (pt s)))) r.Readings.length,0):=by
 have hq:=S.q
 unfold wCi
 obtain ⟨o,e,h0,_⟩:=wKV S (l:=[s]) (by simp)
 obtain ⟨d,pts,rfl,D⟩:=h0 c
 obtain ⟨C,_,hs,hy⟩:=wNz c
 simp only [kH,List.all_nil,Bool.and_true] at hs
 have hp:=(wJu (r:=r) (s:=s) hs).1
 have nf:=hf.near C (.inl rfl) hp
 have ng:=hg.near C hp (p:=zp) (.inl rfl)
 rw [e,hD]
 simp only
 rw [if_pos c]
 have ez:wBt=some zp:=rfl
 have ea:wCe s=some (pt s):=rfl
 rw [ez,ea,hD,hD,wIH D hy (.inl rfl) hp hf hg,hD,hD]
 simp only
 rw [wHT (S:=List Int) (n:=r.Readings.length) (fun k=>mtL (fun k=>decide (0 < max (-g zp - -G k zp) (F k (pt s) - f (pt s)))) k) (s0:=[]) rfl (by omega) fun k hk=>?_]
 ·rfl
 ·obtain ⟨d2,pts2,e2,D2⟩:=wII C (g:=fun x=>wCB x.1 x.2 (k:Int)) (q:=fun i=>decide (k=i)) (fun i hi=>by
   have hd:decide ((i:Int)=(k:Int))=decide (k=i):=decide_eq_decide.2 ⟨fun h=>by omega,fun h=>by omega⟩
   exact congrArg some hd)
  have sm:=wNV r (wGk (fun i=>decide (k=i)) r.Readings r.Readings.length)
  have hp2:=(sm.pt (p:=pt s)).2 hp
  have eb2:=wIH D2 (hy.elim fun y F=>⟨y,wMp F⟩) (.inl rfl) hp2 (hF k hk) (hG k hk)
  have nF:=(hF k hk).near D2.c (.inl rfl) hp2
  have nG:=(hG k hk).near D2.c hp2 (p:=zp) (.inl rfl)
  have ml:=wGl (fun k=>decide (0 < max (-g zp - -G k zp) (F k (pt s) - f (pt s)))) k
  rw [e2,hD,hD,hD,eb2,hD,hD]
  simp only
  rw [wAY (by omega) (by omega),wAY (by omega) (by omega),most2,hD,wML]
  by_cases h:0 < max (-g zp - -G k zp) (F k (pt s) - f (pt s))
  ·rw [if_pos h,if_pos (decide_eq_true h),wEH (by simp only [nE,nZ];omega),hD]
  ·rw [if_neg h,if_neg (by simpa using h)]
end Go.Proofs.YtlnfbjphfoipaaaGreat
namespace Go.Proofs.YtlnfbjphfoipaaaGreat
noncomputable section
open Go.KL Go.KL.Net
open Classical
def wMM (r:wAA) (k:Nat):Option (List Int × Int):=if Wo r (fun j=>decide (j=k)) then some ([(k:Int)],0) else none
def wKX (r:wAA) (k i:Nat):Option (List Int × Int):=if Wo r (fun j=>decide (j=k) || decide (j=i)) then some ([(k:Int),(i:Int)],0) else none
def wNX (r:wAA):List Int × Int :=
 if (∃ y,wCr r y) then ([],0) else
  ((fnd (wMM r) r.Readings.length 0).or (fnd (fun k=>fnd (wKX r k) (r.Readings.length - (k + 1)) (k + 1)) r.Readings.length 0)).getD ([],10)
theorem wMN {r:wAA} (S:wCa r) (c:code r=0):wCg r=some (wNX r):=by
  have C:=wFx c
  have hq:=S.q
  rcases wFa S with ⟨h,_⟩ | ⟨_,d,pts,e,D⟩
  · exact absurd c h
  obtain ⟨b,e2,hb⟩:=D.holds
  unfold wCg wNX
  rw [e,hD]
  simp only
  rw [if_pos trivial,e2,hD]
  by_cases hy:∃ y,wCr r y
  · rw [hb.2 hy,if_pos rfl,if_pos hy]
  rw [if_neg (fun h=>hy (hb.1 h)),if_neg hy]
  have one:∀ i:Nat,∀ j:Nat,wCk (j:Int) (gd r.Readings j) (i:Int)=some (decide (j=i)):=fun i j=>by
    unfold wCk
    exact congrArg some (decide_eq_decide.2 ⟨fun h=>by omega,fun h=>by omega⟩)
  have two:∀ i k:Nat,∀ j:Nat,wBz (j:Int) (gd r.Readings j) (i:Int) (k:Int)=some (decide (j=i) || decide (j=k)):=fun i k j=>by
    unfold wBz
    by_cases h1:j=i
    · rw [if_pos (by omega),decide_eq_true h1,Bool.true_or]
    · rw [if_neg (by omega),decide_eq_false h1,Bool.false_or]
      exact congrArg some (decide_eq_decide.2 ⟨fun h=>by omega,fun h=>by omega⟩)
  rw [wIW (B:=List Int × Int) (wMM r) (by omega) fun k hk=>by
    unfold wMM
    rw [wIa C (q:=fun j=>decide (j=k)) fun j _=>one k j]
    by_cases h:Wo r (fun j=>decide (j=k))
    · rw [if_pos h,if_pos (decide_eq_true h)];rfl
    · rw [if_neg h,if_neg (by simpa using h)];rfl]
  cases h1:fnd (wMM r) r.Readings.length 0 with
  | some v=>rfl
  | none =>
    show (jn (wEw 0 (↑r.Readings.length:Int) (fun k204 _ =>
          iter (fun x250 =>
            if x250 < (↑r.Readings.length:Int) then
              (wAk r (fun x=>wBz x.1 x.2 (↑k204:Int) x250)).bind fun x309 =>
              (wAj x309).bind fun x350 =>
              if x350=true then
                esc (esc (some ([(↑k204:Int),x250],0)))
              else
                some (.inl (w64 (x250 + 1)))
            else
              esc (some (.inl ()))) big (↑(k204 + 1):Int)) ()) fun _ =>
        some ([],10))=some ((fnd (fun k=>fnd (wKX r k) (r.Readings.length - (k + 1)) (k + 1)) r.Readings.length 0).getD ([],10))
    rw [wIW (B:=List Int × Int) (fun k=>fnd (wKX r k) (r.Readings.length - (k + 1)) (k + 1)) (by omega) fun k hk=>by
      have st:=wET (B:=Unit ⊕ (List Int × Int)) (body:=fun (x250:Int) =>
            if x250 < (↑r.Readings.length:Int) then
              (wAk r (fun x=>wBz x.1 x.2 (↑k:Int) x250)).bind fun x309 =>
              (wAj x309).bind fun x350 =>
              if x350=true then
                esc (esc (some ([(↑k:Int),x250],0)))
              else
                some (.inl (w64 (x250 + 1)))
            else
              esc (some (.inl ()))) (f:=fun i=>(wKX r k i).map Sum.inr) (z:=.inl ()) (n:=r.Readings.length) (fun i hi=>by
          unfold wKX
          rw [if_pos (by omega),wIa C (q:=fun j=>decide (j=k) || decide (j=i)) fun j _=>two k i j,wAY (by omega) (by omega)]
          by_cases h:Wo r (fun j=>decide (j=k) || decide (j=i))
          · rw [if_pos h,if_pos (decide_eq_true h)];rfl
          · rw [if_neg h,if_neg (by simpa using h)];rfl) (by rw [if_neg (by omega)];rfl) (r.Readings.length - (k + 1)) (k + 1) big (by omega) (by unfold big;omega)
      rw [st,wJq]
      cases fnd (wKX r k) (r.Readings.length - (k + 1)) (k + 1) <;> rfl]
    cases h2:fnd (fun k=>fnd (wKX r k) (r.Readings.length - (k + 1)) (k + 1)) r.Readings.length 0 <;> rfl
theorem wLi {r:wAA} (S:wCa r) (c:code r ≠ 0):wCg r=some ([],code r):=by
 rcases wFa S with ⟨_,e⟩ | ⟨h,_⟩
 ·unfold wCg
  rw [e,hD]
  simp only
  rw [if_neg c]
 ·exact absurd h c
def his (r:wAA) (i:Nat):Bool:=decide (Wo r fun j=>decide ((gd r.Readings j).Skier=(i:Int)))
def wNY (r:wAA):List Int × Int:=if (∃ y,wCr r y) then ([],6) else (mtL (his r) r.Starts.length,0)
theorem wMO {r:wAA} (S:wCa r) (c:code r=0):wCh r=some (wNY r):=by
 have C:=wFx c
 have hn:=S.n
 rcases wFa S with ⟨h,_⟩ | ⟨_,d,pts,e,D⟩
 ·exact absurd c h
 obtain ⟨b,e2,hb⟩:=D.holds
 unfold wCh wNY
 rw [e,hD]
 simp only
 rw [if_pos trivial,e2,hD]
 by_cases hy:∃ y,wCr r y
 ·rw [hb.2 hy,if_pos rfl,if_pos hy]
 rw [if_neg (fun h=>hy (hb.1 h)),if_neg hy,wHT (S:=List Int) (n:=r.Starts.length) (fun k=>mtL (his r) k) (s0:=[]) rfl (by omega) fun k hk=>?_]
 ·rfl
 ·have ml:=wGl (his r) k
  rw [wIa C (q:=fun j=>decide ((gd r.Readings j).Skier=(k:Int))) fun j _=>rfl,wML]
  by_cases w:Wo r fun j=>decide ((gd r.Readings j).Skier=(k:Int))
  ·rw [if_pos (decide_eq_true w),if_pos (show his r k=true from decide_eq_true w),wEH (by simp only [nE,nZ];omega),hD]
  ·rw [if_neg (by simpa using w),if_neg (show ¬ his r k=true by unfold his;simpa using w)]
theorem wLj {r:wAA} (S:wCa r) (c:code r ≠ 0):wCh r=some ([],code r):=by
 rcases wFa S with ⟨_,e⟩ | ⟨h,_⟩
 ·unfold wCh
  rw [e,hD]
  simp only
  rw [if_neg c]
 ·exact absurd h c
end
end Go.Proofs.YtlnfbjphfoipaaaGreat
namespace Go.KL.Floyd
open Go.KL
def mx (t:List (List Int)) (a b:Nat):Int:=gd (gd t a) b
structure Mx (n:Nat) (t:List (List Int)):Prop where
 rows:t.length=n
 cols:∀ a,a < n->(gd t a).length=n
theorem Mx.put {n:Nat} {t:List (List Int)} (M:Mx n t) {i j:Nat} (hi:i < n) (hj:j < n) (v:Int):Mx n (hH t i (hH (gd t i) j v))/\∀ a b,a < n->b < n->mx (hH t i (hH (gd t i) j v)) a b=if a=i/\b=j then v else mx t a b:=by
 have hr:=M.rows
 have hg:∀ a,a < n->gd (hH t i (hH (gd t i) j v)) a=if a=i then hH (gd t i) j v else gd t a:=fun a ha=>wHV (by omega) (by omega)
 refine ⟨⟨by simp [hr],fun a ha=>?_⟩,fun a b ha hb=>?_⟩
 ·rw [hg a ha]
  split
  ·rw [nm];exact M.cols i hi
  ·exact M.cols a ha
 ·unfold mx
  rw [hg a ha]
  by_cases e:a=i
  ·subst e
   rw [if_pos rfl,wHV (by rw [M.cols a ha];omega) (by rw [M.cols a ha];omega)]
   by_cases e2:b=j
   ·rw [if_pos e2,if_pos ⟨rfl,e2⟩]
   ·rw [if_neg e2,if_neg (fun h=>e2 h.2)]
  ·rw [if_neg e,if_neg (fun h=>e h.1)]
theorem wKY:∀ (k:Nat) (l:List Nat),l.Nodup->(∀ j ∈ l,j < k)->l.length <= k
 | 0,l,_,h=>by
  cases l with
  | nil=>exact nJ _
  | cons a l=>have:=h a (by simp);omega
 | k + 1,l,nd,h=>by
  have h1:=wKY k (l.erase k) (nd.erase k) fun j hj=>by
   have:=(nd.mem_erase_iff).1 hj
   have:=h j this.2
   omega
  have h2:l.length <= (l.erase k).length + 1:=by
   rw [List.length_erase]
   split <;> omega
  omega
def upd (y:List (List Int)) (k a b:Nat):Int:=if mx y a k < 1125899906842624/\mx y k b < 1125899906842624/\mx y a k + mx y k b < mx y a b then max (mx y a k + mx y k b) (-1125899906842624) else mx y a b
def cB (k561 k587:Nat):Nat->List (List Int)->Option (List (List Int)):=fun k632 l631 =>
                    (chk (↑k587:Int) l631.length).bind fun _ =>
                    (chk (↑k561:Int) (gd l631 k587).length).bind fun _ =>
                    if (gd (gd l631 k587) k561) < 1125899906842624 then
                      (chk (↑k561:Int) l631.length).bind fun _ =>
                      (chk (↑k632:Int) (gd l631 k561).length).bind fun _ =>
                      if (gd (gd l631 k561) k632) < 1125899906842624 then
                        (chk (↑k632:Int) (gd l631 k587).length).bind fun _ =>
                        if (w64 ((gd (gd l631 k587) k561) + (gd (gd l631 k561) k632))) < (gd (gd l631 k587) k632) then
                          some (hH l631 k587 (hH (gd l631 k587) k632 (max (w64 ((gd (gd l631 k587) k561) + (gd (gd l631 k561) k632))) (-1125899906842624))))
                        else
                          some l631
                      else
                        some l631
                    else
                      some l631
structure Rnd (n k:Nat) (y s:List (List Int)) (i j:Nat):Prop where
 m:Mx n s
 un:∀ a b,a < n->b < n->¬ (a < i \/ (a=i/\b < j))->mx s a b=mx y a b
 lo:∀ a b,a < n->b < n->-1125899906842624 <= mx s a b
 le:∀ a b,a < n->b < n->mx s a b <= mx y a b
 fe:∀ x:Nat->Int,(∀ a b,a < n->b < n->x b - x a <= mx y a b)->∀ a b,a < n->b < n->x b - x a <= mx s a b
 fo:0 <= mx y k k->∀ a b,a < n->b < n->(a < i \/ (a=i/\b < j))->mx s a b=upd y k a b
theorem wMP {y:List (List Int)} {k a:Nat} (h:0 <= mx y k k):upd y k a k=mx y a k/\upd y k k a=mx y k a:=by
 unfold upd
 constructor
 ·rw [if_neg (by omega)]
 ·rw [if_neg (by omega)]
theorem wMQ {n k:Nat} {y s:List (List Int)} {i j:Nat} (hk:k < n) (hi:∀ a b,a < n->b < n->mx y a b <= 1125899906842624) (R:Rnd n k y s i j) (h1:i < n) (h2:j < n):∃ s',cB k i j s=some s'/\Rnd n k y s' i (j + 1):=by
 have hr:=R.m.rows
 have ci:=R.m.cols i h1
 have ck:=R.m.cols k hk
 have b1:mx s i k <= 1125899906842624:=nX (R.le i k h1 hk) (hi i k h1 hk)
 have b2:mx s k j <= 1125899906842624:=nX (R.le k j hk h2) (hi k j hk h2)
 have b3:=R.lo i k h1 hk
 have b4:=R.lo k j hk h2
 have hw:w64 ((gd (gd s i) k) + (gd (gd s k) j))=mx s i k + mx s k j:=wAY (by show _ <= mx s i k + mx s k j;omega) (by show mx s i k + mx s k j <= _;omega)
 have e:cB k i j s=some (if mx s i k < 1125899906842624/\mx s k j < 1125899906842624/\mx s i k + mx s k j < mx s i j then hH s i (hH (gd s i) j (max (mx s i k + mx s k j) (-1125899906842624))) else s):=by
  unfold cB
  rw [wDM (by omega) (by omega),hD,wDM (by omega) (by omega),hD,hw]
  by_cases c1:mx s i k < 1125899906842624
  ·rw [if_pos (show gd (gd s i) k < 1125899906842624 from c1),wDM (by omega) (by omega),hD,wDM (by omega) (by omega),hD]
   by_cases c2:mx s k j < 1125899906842624
   ·rw [if_pos (show gd (gd s k) j < 1125899906842624 from c2),wDM (by omega) (by omega),hD]
    by_cases c3:mx s i k + mx s k j < mx s i j
    ·rw [if_pos (show mx s i k + mx s k j < gd (gd s i) j from c3),if_pos ⟨c1,c2,c3⟩]
    ·rw [if_neg (show ¬ mx s i k + mx s k j < gd (gd s i) j from c3),if_neg (fun h=>c3 h.2.2)]
   ·rw [if_neg (show ¬ gd (gd s k) j < 1125899906842624 from c2),if_neg (fun h=>c2 h.2.1)]
  ·rw [if_neg (show ¬ gd (gd s i) k < 1125899906842624 from c1),if_neg (fun h=>c1 h.1)]
 have hij:mx s i j=mx y i j:=R.un i j h1 h2 (by omega)
 have hnew:0 <= mx y k k->(if mx s i k < 1125899906842624/\mx s k j < 1125899906842624/\mx s i k + mx s k j < mx s i j then max (mx s i k + mx s k j) (-1125899906842624) else mx s i j)=upd y k i j:=fun h0=>by
  have e1:mx s i k=mx y i k:=by
   by_cases d:i < i \/ (i=i/\k < j)
   ·rw [R.fo h0 i k h1 hk d,(wMP h0).1]
   ·exact R.un i k h1 hk d
  have e2:mx s k j=mx y k j:=by
   by_cases d:k < i \/ (k=i/\j < j)
   ·rw [R.fo h0 k j hk h2 d,(wMP h0).2]
   ·exact R.un k j hk h2 d
  rw [e1,e2,hij]
  rfl
 rw [e]
 by_cases c:mx s i k < 1125899906842624/\mx s k j < 1125899906842624/\mx s i k + mx s k j < mx s i j
 ·rw [if_pos c]
  rw [if_pos c] at hnew
  obtain ⟨m',hg⟩:=R.m.put h1 h2 (max (mx s i k + mx s k j) (-1125899906842624))
  refine ⟨_,rfl,m',fun a b ha hb hd=>?_,fun a b ha hb=>?_,fun a b ha hb=>?_,fun x hx a b ha hb=>?_,fun h0 a b ha hb hd=>?_⟩
  ·rw [hg a b ha hb,if_neg (by omega)]
   exact R.un a b ha hb (by omega)
  ·rw [hg a b ha hb]
   have:=R.lo a b ha hb
   split <;> omega
  ·rw [hg a b ha hb]
   have:=R.lo i j h1 h2
   split
   ·rename_i h
    rw [h.1,h.2,<- hij]
    omega
   ·exact R.le a b ha hb
  ·rw [hg a b ha hb]
   have f1:=R.fe x hx i k h1 hk
   have f2:=R.fe x hx k j hk h2
   split
   ·rename_i h
    rw [h.1,h.2]
    omega
   ·exact R.fe x hx a b ha hb
  ·rw [hg a b ha hb]
   split
   ·rename_i h
    rw [h.1,h.2]
    exact hnew h0
   ·exact R.fo h0 a b ha hb (by omega)
 ·rw [if_neg c]
  rw [if_neg c] at hnew
  refine ⟨_,rfl,R.m,fun a b ha hb hd=>R.un a b ha hb (by omega),R.lo,R.le,R.fe,fun h0 a b ha hb hd=>?_⟩
  by_cases h:a=i/\b=j
  ·rw [h.1,h.2];exact hnew h0
  ·exact R.fo h0 a b ha hb (by omega)
def rB (n k:Nat):List (List Int)->Option (List (List Int)):=fun l560=>(wCQ 0 (n:Int) (fun k587 l586 =>
                  (wCQ 0 (n:Int) (cB k k587) l586).bind fun y637 =>
                  some y637) l560).bind fun y592=>some y592
theorem wMR {n k:Nat} (hn:n <= 1000) (hk:k < n) {y:List (List Int)} (M:Mx n y) (lo:∀ a b,a < n->b < n->-1125899906842624 <= mx y a b) (hi:∀ a b,a < n->b < n->mx y a b <= 1125899906842624):∃ s,rB n k y=some s/\Rnd n k y s n 0:=by
 unfold rB
 rw [wDJ (by omega)]
 obtain ⟨s,g1,g2⟩:=wDp (body:=fun k587 l586=>(wCQ 0 (n:Int) (cB k k587) l586).bind fun y637=>some y637) (fun i s=>Rnd n k y s i 0) n 0 y ⟨M,fun _ _ _ _ _=>rfl,lo,fun _ _ _ _=>ny _,fun _ hx=>hx,fun _ a b _ _ h=>by omega⟩ (by
  intro i s _ hi' R
  rw [wDJ (by omega)]
  obtain ⟨t,g1,g2⟩:=wDp (body:=cB k i) (fun j s=>Rnd n k y s i j) n 0 s R (fun j s _ hj R=>wMQ hk hi R (by omega) (by omega))
  refine ⟨t,by rw [g1];rfl,g2.m,fun a b ha hb hd=>g2.un a b ha hb (by omega),g2.lo,g2.le,g2.fe,fun h0 a b ha hb hd=>g2.fo h0 a b ha hb (by omega)⟩)
 rw [nV] at g2
 exact ⟨s,by rw [g1];rfl,g2⟩
structure Fl (n:Nat) (y0 t:List (List Int)) (k:Nat):Prop where
 m:Mx n t
 lo:∀ a b,a < n->b < n->-1125899906842624 <= mx t a b
 le:∀ a b,a < n->b < n->mx t a b <= mx y0 a b
 fe:∀ x:Nat->Int,(∀ a b,a < n->b < n->x b - x a <= mx y0 a b)->∀ a b,a < n->b < n->x b - x a <= mx t a b
 tri:(∀ a,a < n->0 <= mx t a a)->∀ j,j < k->∀ a b,a < n->b < n->mx t a j < 1125899906842624->mx t j b < 1125899906842624->mx t a b <= mx t a j + mx t j b
 wit:(∀ a,a < n->0 <= mx t a a)->∀ a b,a < n->b < n->mx t a b < 1125899906842624->∃ l:List Nat,l.Nodup/\(∀ j ∈ l,j < k/\mx t a j < 1125899906842624/\mx t j b < 1125899906842624/\mx t a j + mx t j b <= mx t a b)/\-(400000 * ((l.length:Int) + 1)) <= mx t a b/\mx t a b <= 400000 * ((l.length:Int) + 1)
theorem Fl.fin {n:Nat} (hn:n <= 1000) {y0 t:List (List Int)} {k:Nat} (hk:k <= n) (F:Fl n y0 t k) (h0:∀ a,a < n->0 <= mx t a a) {a b:Nat} (ha:a < n) (hb:b < n) (h:mx t a b < 1125899906842624):-400400000 <= mx t a b/\mx t a b <= 400400000:=by
 obtain ⟨l,nd,hl,l1,l2⟩:=F.wit h0 a b ha hb h
 have:=wKY k l nd fun j hj=>(hl j hj).1
 omega
theorem wNZ {n:Nat} (hn:n <= 1000) {y0 t s:List (List Int)} {k:Nat} (hk:k < n) (F:Fl n y0 t k) (hi0:∀ a b,a < n->b < n->mx y0 a b <= 1125899906842624) (R:Rnd n k t s n 0):Fl n y0 s (k + 1):=by
 refine ⟨R.m,R.lo,fun a b ha hb=>nX (R.le a b ha hb) (F.le a b ha hb),fun x hx=>R.fe x (F.fe x hx),fun h0=>?_,fun h0=>?_⟩ <;> (
  have ht:∀ a,a < n->0 <= mx t a a:=fun a ha=>nX (h0 a ha) (R.le a a ha ha)
  have T:=F.tri ht
  have B:∀ a b,a < n->b < n->mx t a b < 1125899906842624->-400400000 <= mx t a b/\mx t a b <= 400400000:=fun a b ha hb h=>F.fin hn (by omega) ht ha hb h
  have E:∀ a b,a < n->b < n->mx s a b=upd t k a b:=fun a b ha hb=>R.fo (ht k hk) a b ha hb (by omega)
  have up:∀ a b,a < n->b < n->mx t a k < 1125899906842624->mx t k b < 1125899906842624->mx s a b <= mx t a k + mx t k b:=fun a b ha hb g1 g2=>by
   rw [E a b ha hb]
   have:=B a k ha hk g1
   have:=B k b hk hb g2
   unfold upd
   split <;> omega
  have cs:∀ a b,a < n->b < n->mx s a b=mx t a b \/ (mx t a k < 1125899906842624/\mx t k b < 1125899906842624/\mx s a b=mx t a k + mx t k b/\mx s a b < mx t a b):=fun a b ha hb=>by
   rw [E a b ha hb]
   unfold upd
   split
   ·rename_i c
    right
    have:=B a k ha hk c.1
    have:=B k b hk hb c.2.1
    refine ⟨c.1,c.2.1,by omega,by omega⟩
   ·exact .inl rfl
  have loop:∀ j,j < n->mx t j k < 1125899906842624->mx t k j < 1125899906842624->0 <= mx t j k + mx t k j:=fun j hj g1 g2=>nX (h0 j hj) (up j j hj hj g1 g2))
 ·intro j hj a b ha hb g1 g2
  have hjn:j < n:=by omega
  have e1:=cs a j ha hjn
  have e2:=cs j b hjn hb
  by_cases hjk:j=k
  ·subst hjk
   have a1:mx s a j=mx t a j:=by rw [E a j ha hk,(wMP (ht j hk)).1]
   have a2:mx s j b=mx t j b:=by rw [E j b hk hb,(wMP (ht j hk)).2]
   rw [a1] at g1 ⊢
   rw [a2] at g2 ⊢
   exact up a b ha hb g1 g2
  ·have hjk':j < k:=by omega
   rcases e1 with e1 | ⟨p1,p2,p3,_⟩ <;> rcases e2 with e2 | ⟨q1,q2,q3,_⟩
   ·rw [e1] at g1 ⊢
    rw [e2] at g2 ⊢
    exact nX (R.le a b ha hb) (T j hjk' a b ha hb g1 g2)
   ·rw [e1] at g1 ⊢
    have t1:=T j hjk' a k ha hk g1 q1
    have:=B a j ha hjn g1
    have:=B j k hjn hk q1
    have:=up a b ha hb (by omega) q2
    omega
   ·rw [e2] at g2 ⊢
    have t1:=T j hjk' k b hk hb p2 g2
    have:=B k j hk hjn p2
    have:=B j b hjn hb g2
    have:=up a b ha hb p1 (by omega)
    omega
   ·have:=up a b ha hb p1 q2
    have:=loop j hjn q1 p2
    omega
 ·intro a b ha hb g
  rcases cs a b ha hb with e | ⟨p1,p2,p3,p4⟩
  ·rw [e] at g ⊢
   obtain ⟨l,nd,hl,l1,l2⟩:=F.wit ht a b ha hb g
   refine ⟨l,nd,fun j hj=>?_,l1,l2⟩
   obtain ⟨j1,j2,j3,j4⟩:=hl j hj
   have:=R.le a j ha (by omega)
   have:=R.le j b (by omega) hb
   exact ⟨by omega,by omega,by omega,by omega⟩
  ·obtain ⟨l1,n1,h1,u1,v1⟩:=F.wit ht a k ha hk p1
   obtain ⟨l2,n2,h2,u2,v2⟩:=F.wit ht k b hk hb p2
   have dis:∀ j,j ∈ l1->j ∈ l2->False:=fun j m1 m2=>by
    obtain ⟨a1,a2,a3,a4⟩:=h1 j m1
    obtain ⟨b1,b2,b3,b4⟩:=h2 j m2
    have:=T j a1 a b ha hb a2 b3
    have:=loop j (by omega) a3 b2
    omega
   refine ⟨l1 ++ k :: l2,?_,fun j hj=>?_,by rw [nN,nE];omega,by rw [nN,nE];omega⟩
   ·rw [nt,List.nodup_cons]
    refine ⟨n1,⟨fun h=>by have:=(h2 k h).1;omega,n2⟩,fun x hx y hy e=>?_⟩
    subst e
    rcases nn.1 hy with rfl | hy
    ·have:=(h1 _ hx).1;omega
    ·exact dis x hx hy
   ·rcases nL.1 hj with hj | hj
    ·obtain ⟨a1,a2,a3,a4⟩:=h1 j hj
     have hjn:j < n:=by omega
     have:=R.le a j ha hjn
     have:=up j b hjn hb a3 p2
     have:=B j k hjn hk a3
     have:=B k b hk hb p2
     exact ⟨by omega,by omega,by omega,by omega⟩
    ·rcases nn.1 hj with rfl | hj
     ·have:=R.le a j ha hk
      have:=R.le j b hk hb
      exact ⟨by omega,by omega,by omega,by omega⟩
     ·obtain ⟨b1,b2,b3,b4⟩:=h2 j hj
      have hjn:j < n:=by omega
      have:=R.le j b hjn hb
      have:=up a j ha hjn p1 b2
      have:=B a k ha hk p1
      have:=B k j hk hjn b2
      exact ⟨by omega,by omega,by omega,by omega⟩
theorem wMS {n:Nat} (hn:n <= 1000) {y0:List (List Int)} (M:Mx n y0) (b0:∀ a b,a < n->b < n->mx y0 a b=1125899906842624 \/ (-400000 <= mx y0 a b/\mx y0 a b <= 400000)):∃ t,(wCQ 0 (n:Int) (fun k561 l560=>rB n k561 l560) y0)=some t/\Fl n y0 t n:=by
 rw [wDJ (by omega)]
 have hi0:∀ a b,a < n->b < n->mx y0 a b <= 1125899906842624:=fun a b ha hb=>by rcases b0 a b ha hb with h | h <;> omega
 obtain ⟨t,g1,g2⟩:=wDp (body:=fun k561 l560=>rB n k561 l560) (fun k t=>Fl n y0 t k) n 0 y0 ⟨M,fun a b ha hb=>by rcases b0 a b ha hb with h | h <;> omega,fun _ _ _ _=>ny _,fun _ hx=>hx,fun _ j hj=>by omega,fun _ a b ha hb h=>⟨[],by simp,(fun j hj=>by cases hj),by rcases b0 a b ha hb with q | q <;> simp <;> omega,by rcases b0 a b ha hb with q | q <;> simp <;> omega⟩⟩ (by
  intro k t _ hk F
  obtain ⟨s,e,R⟩:=wMR hn (k:=k) (by omega) F.m F.lo (fun a b ha hb=>nX (F.le a b ha hb) (hi0 a b ha hb))
  exact ⟨s,e,wNZ hn (by omega) F hi0 R⟩)
 rw [nV] at g2
 exact ⟨t,g1,g2⟩
end Go.KL.Floyd
namespace Go.Proofs.YtlnfbjphfoipaaaGreat
open Go.KL Go.KL.Net Go.KL.Floyd
def cv (r:wAA):wAK:=⟨r.Starts,r.Splits,r.Clocks.map fun x=>⟨x.Offset,x.Error⟩,r.Readings.map fun x=>⟨x.Skier,x.Mat,x.Clock,x.Time⟩⟩
def plc (r:wAA) (p:Pt):Nat:=if p.skier=-1 then (if p.mat=0 then 0 else r.Starts.length * (r.Splits.length + 1) + p.mat.toNat) else 1 + p.skier.toNat * (r.Splits.length + 1) + p.mat.toNat
def np (r:wAA):Nat:=1 + r.Starts.length * (r.Splits.length + 1) + r.Clocks.length
def unp (r:wAA) (v:Nat):Pt:=if v=0 then zp else if v <= r.Starts.length * (r.Splits.length + 1) then ⟨((v - 1) / (r.Splits.length + 1):Nat),((v - 1) % (r.Splits.length + 1):Nat)⟩ else ⟨-1,(v - r.Starts.length * (r.Splits.length + 1):Nat)⟩
theorem wLk {r:wAA} (C:RC r):np r <= 69:=by
 have h:r.Starts.length * (r.Splits.length + 1) <= 8 * 8:=kE C.n.2 (by have:=C.m;omega)
 have:=C.c
 unfold np
 omega
theorem wMq {r:wAA} {s k:Nat} (h1:s < r.Starts.length) (h2:k <= r.Splits.length):s * (r.Splits.length + 1) + k < r.Starts.length * (r.Splits.length + 1):=by
 have:(s + 1) * (r.Splits.length + 1) <= r.Starts.length * (r.Splits.length + 1):=nq _ h1
 rw [kU] at this
 omega
theorem wOt (r:wAA):plc r zp=0:=rfl
theorem wIb {r:wAA} {s k:Int} (h0:0 <= s):plc r ⟨s,k⟩=1 + s.toNat * (r.Splits.length + 1) + k.toNat:=if_neg (by simp only;omega)
theorem wGU {r:wAA} {k:Int} (h0:1 <= k):plc r ⟨-1,k⟩=r.Starts.length * (r.Splits.length + 1) + k.toNat:=(if_pos rfl).trans (if_neg (by simp only;omega))
theorem wCs {r:wAA} {p:Pt} (hp:wEv r p):plc r p < np r:=by
 unfold np
 rcases hp with rfl | ⟨a,b,c,d⟩ | ⟨a,b,c⟩
 ·rw [wOt];omega
 ·have e:p=⟨p.skier,p.mat⟩:=rfl
  rw [e,wIb a]
  have:=wMq (r:=r) (s:=p.skier.toNat) (k:=p.mat.toNat) (by omega) (by omega)
  omega
 ·have e:p=⟨-1,p.mat⟩:=by rw [<- a]
  rw [e,wGU b]
  omega
theorem wGm {r:wAA} {p:Pt} (hp:wEv r p):unp r (plc r p)=p:=by
 rcases hp with rfl | ⟨a,b,c,d⟩ | ⟨a,b,c⟩
 ·rfl
 ·have e:p=⟨p.skier,p.mat⟩:=rfl
  rw [e,wIb a]
  have h:=wMq (r:=r) (s:=p.skier.toNat) (k:=p.mat.toNat) (by omega) (by omega)
  unfold unp
  rw [if_neg (by omega),if_pos (by omega)]
  have e1:1 + p.skier.toNat * (r.Splits.length + 1) + p.mat.toNat - 1=p.mat.toNat + p.skier.toNat * (r.Splits.length + 1):=by omega
  have e2:(p.mat.toNat + p.skier.toNat * (r.Splits.length + 1)) / (r.Splits.length + 1)=p.skier.toNat:=by
   rw [Nat.add_mul_div_right _ _ (by omega),Nat.div_eq_of_lt (by omega),nV]
  have e3:(p.mat.toNat + p.skier.toNat * (r.Splits.length + 1)) % (r.Splits.length + 1)=p.mat.toNat:=by
   rw [Nat.add_mul_mod_self_right,Nat.mod_eq_of_lt (by omega)]
  rw [e1,e2,e3,nH a,nH c]
 ·have e:p=⟨-1,p.mat⟩:=by rw [<- a]
  rw [e,wGU b]
  unfold unp
  rw [if_neg (by omega),if_neg (by omega)]
  have e1:r.Starts.length * (r.Splits.length + 1) + p.mat.toNat - r.Starts.length * (r.Splits.length + 1)=p.mat.toNat:=by omega
  rw [e1,nH (by omega)]
theorem wMr {r:wAA} {v:Nat} (hv:v < np r):wEv r (unp r v):=by
 unfold np at hv
 unfold unp
 by_cases c:v=0
 ·rw [if_pos c];exact .inl rfl
 ·rw [if_neg c]
  by_cases d:v <= r.Starts.length * (r.Splits.length + 1)
  ·rw [if_pos d]
   have h1:(v - 1) / (r.Splits.length + 1) < r.Starts.length:=by
    rw [Nat.div_lt_iff_lt_mul (by omega)];omega
   have h2:(v - 1) % (r.Splits.length + 1) < r.Splits.length + 1:=Nat.mod_lt _ (by omega)
   exact .inr (.inl ⟨ko _,Int.ofNat_lt.2 h1,ko _,Int.ofNat_le.2 (Nat.lt_succ_iff.1 h2)⟩)
  ·rw [if_neg d]
   exact .inr (.inr ⟨rfl,by simp only;omega,by simp only;omega⟩)
theorem wNa {r:wAA} {p q:Pt} (hp:wEv r p) (hq:wEv r q) (h:plc r p=plc r q):p=q:=by
 rw [<- wGm hp,<- wGm hq,h]
section
variable {r:wAA} (C:RC r)
include C
theorem wOu {s k:Int} (h0:0 <= s) (h1:s <= r.Starts.length) (k0:0 <= k) (k1:k <= 100):wAZ (cv r) s k=some ((1 + s.toNat * (r.Splits.length + 1) + k.toNat:Nat):Int):=by
 have hm:=C.m;have hn:=C.n
 obtain ⟨s,rfl⟩:=nw h0
 have hb:s * (r.Splits.length + 1) <= 8 * 8:=kE (by omega) (by omega)
 have e:(s:Int) * ((r.Splits.length:Int) + 1)=((s * (r.Splits.length + 1):Nat):Int):=by simp
 unfold wAZ
 show some (w64 ((w64 (1 + (w64 ((s:Int) * (w64 ((r.Splits.length:Int) + 1)))))) + k))=_
 rw [wAY (x:=(r.Splits.length:Int) + 1) (by omega) (by omega),e,wAY (x:=((s * (r.Splits.length + 1):Nat):Int)) (by omega) (by omega),wAY (x:=1 + _) (by omega) (by omega),wAY (by omega) (by omega),nK]
 congr 1
 omega
theorem wGV {s k:Int} (h0:0 <= s) (h1:s < r.Starts.length) (k0:0 <= k) (k1:k <= r.Splits.length):wAZ (cv r) s k=some (plc r ⟨s,k⟩:Int):=by
 have:=C.m
 rw [wOu C h0 (by omega) k0 (by omega),wIb h0]
theorem wIc {i:Int} (h0:0 <= i) (h1:i <= r.Clocks.length):wAo (cv r) i=some (plc r ⟨-1,1 + i⟩:Int):=by
 have hc:=C.c
 have hb:r.Starts.length * (r.Splits.length + 1) <= 8 * 8:=kE C.n.2 (by have:=C.m;omega)
 unfold wAo
 show (wAZ (cv r) (r.Starts.length:Int) 0).bind _=_
 rw [wOu C (by omega) (ny _) (by omega) (by omega),hD,wGU (by omega),nK,wAY (by omega) (by omega)]
 congr 1
 omega
theorem wJJ:wBd (cv r)=some (np r:Int):=by
 unfold wBd
 show (wAo (cv r) ((r.Clocks.map _).length:Int)).bind _=_
 rw [nO,wIc C (by omega) (ny _),hD,wGU (by omega)]
 unfold np
 congr 1
 omega
end
theorem wNb {n:Nat} {t:List (List Int)} (M:Mx n t) {a b:Nat} (ha:a < n) (hb:b < n) (hab:a ≠ b) (u v:Int):∃ t',wAQ ⟨t⟩ (a:Int) (b:Int) u v=some t'/\Mx n t'/\∀ i j,i < n->j < n->mx t' i j=if i=a/\j=b then min (mx t a b) u else if i=b/\j=a then min (mx t b a) v else mx t i j:=by
 obtain ⟨M1,g1⟩:=M.put ha hb (min (mx t a b) u)
 have e1:mx (hH t a (hH (gd t a) b (min (mx t a b) u))) b a=mx t b a:=by rw [g1 b a hb ha,if_neg (by omega)]
 obtain ⟨M2,g2⟩:=M1.put hb ha (min (mx t b a) v)
 refine ⟨_,?_,M2,fun i j hi hj=>?_⟩
 ·unfold wAQ
  simp only [nK]
  have r1:=M.rows;have r2:=M1.rows
  have c1:=M.cols a ha;have c2:=M1.cols b hb
  rw [wDM (by omega) (by omega),hD,wDM (by omega) (by omega),hD,wDM (by omega) (by omega),hD]
  rw [show min (gd (gd t a) b) u=min (mx t a b) u from rfl,wDM (by omega) (by omega),hD,wDM (by omega) (by omega),hD]
  rw [show gd (gd (hH t a (hH (gd t a) b (min (mx t a b) u))) b) a=mx t b a from e1]
 ·rw [g2 i j hi hj]
  by_cases c:i=b/\j=a
  ·rw [if_pos c,if_neg (by omega),if_pos c]
  ·rw [if_neg c,g1 i j hi hj,if_neg c]
structure Gt (r:wAA) (X:wAH->Prop) (t:List (List Int)):Prop where
 m:Mx (np r) t
 b0:∀ a b,a < np r->b < np r->mx t a b=1125899906842624 \/ (-400000 <= mx t a b/\mx t a b <= 400000)
 d0:∀ a,a < np r->mx t a a=0
 fe:∀ y,wCr r y->∀ a b,a < np r->b < np r->y (unp r b) - y (unp r a) <= mx t a b
 le:∀ x,wCZ r x->X x->mx t (plc r (wDP r x).1) (plc r (wDP r x).2.1) <= (wDP r x).2.2
theorem wNc {r:wAA} (C:RC r) {x:wAH} (h:wCZ r x):(wDP r x).1 ≠ (wDP r x).2.1:=by
 have key:(wCP r x).1 ≠ (wCP r x).2.1:=by
  unfold wCP
  rcases h with ⟨k,a,b,c⟩ | ⟨k,a,b,c,d⟩ | ⟨k,a,c,d⟩ | ⟨k,a,c,d⟩
  ·rw [if_pos k]
   intro e
   have:=congrArg wAI.skier e
   simp only [zp] at this
   omega
  ·rw [if_neg (by omega),if_pos k]
   intro e
   have:=congrArg wAI.mat e
   simp only at this
   omega
  ·rw [if_neg (by omega),if_neg (by omega),if_pos k]
   intro e
   have:=congrArg wAI.mat e
   simp only [zp] at this
   omega
  ·have u:=C.ru _ (wDL c d)
   rw [if_neg (by omega),if_neg (by omega),if_neg (by omega)]
   intro e
   have:=congrArg wAI.skier e
   simp only at this
   omega
 unfold wDP
 split
 ·exact key
 ·exact fun e=>key e.symm
theorem wNd {r:wAA} {x:wAH} (h:x.Up=true):wDP r x=((wCP r x).1,(wCP r x).2.1,(wCP r x).2.2.1)/\wDP r (wNU x)=((wCP r x).2.1,(wCP r x).1,(wCP r x).2.2.2):=by
 obtain ⟨k,s,i,u⟩:=x
 simp only at h
 subst h
 exact ⟨rfl,rfl⟩
theorem Gt.both {r:wAA} (C:RC r) {X X':wAH->Prop} {t:List (List Int)} (G:Gt r X t) {x:wAH} (hx:wCZ r x) (hu:x.Up=true) (hX:∀ z,wCZ r z->X' z->X z \/ z=x \/ z=wNU x) :
  ∃ t',wAQ ⟨t⟩ (plc r (wCP r x).1:Int) (plc r (wCP r x).2.1:Int) (wCP r x).2.2.1 (wCP r x).2.2.2=some t'/\Gt r X' t':=by
 obtain ⟨e1,e2⟩:=wNd (r:=r) hu
 obtain ⟨o1,o2,c1,c2⟩:=wDv C hx
 obtain ⟨tk,_,_⟩:=wLe (r:=r) hx
 obtain ⟨_,_,c3,c4⟩:=wDv C tk
 have hne:=wNc C hx
 rw [e1] at o1 o2 c1 c2 hne
 rw [e2] at c3 c4
 simp only at o1 o2 c1 c2 c3 c4 hne
 have ha:=wCs o1
 have hb:=wCs o2
 have hab:plc r (wCP r x).1 ≠ plc r (wCP r x).2.1:=fun h=>hne (wNa o1 o2 h)
 obtain ⟨t',e,M,g⟩:=wNb G.m ha hb hab (wCP r x).2.2.1 (wCP r x).2.2.2
 have up1:=wGm o1
 have up2:=wGm o2
 have hl1:∀ y,wCr r y->y (wCP r x).2.1 <= y (wCP r x).1 + (wCP r x).2.2.1:=fun y F=>by have:=F x hx;rw [e1] at this;exact this
 have hl2:∀ y,wCr r y->y (wCP r x).1 <= y (wCP r x).2.1 + (wCP r x).2.2.2:=fun y F=>by have:=F _ tk;rw [e2] at this;exact this
 generalize hA:plc r (wCP r x).1=A at *
 generalize hB:plc r (wCP r x).2.1=B at *
 refine ⟨t',e,M,fun a b ha' hb'=>?_,fun a ha'=>?_,fun y F a b ha' hb'=>?_,fun z hz hXz=>?_⟩
 ·rw [g a b ha' hb']
  have:=G.b0 A B ha hb
  have:=G.b0 B A hb ha
  split
  ·omega
  ·split
   ·omega
   ·exact G.b0 a b ha' hb'
 ·rw [g a a ha' ha',if_neg (by omega),if_neg (by omega)]
  exact G.d0 a ha'
 ·rw [g a b ha' hb']
  have f1:=G.fe y F A B ha hb
  have f2:=G.fe y F B A hb ha
  have h1:=hl1 y F
  have h2:=hl2 y F
  rw [up1,up2] at f1 f2
  split
  ·rename_i h
   rw [h.1,h.2,up1,up2];omega
  ·split
   ·rename_i h
    rw [h.1,h.2,up1,up2];omega
   ·exact G.fe y F a b ha' hb'
 ·obtain ⟨z1,z2,_,_⟩:=wDv C hz
  have p1:=wCs z1
  have p2:=wCs z2
  rcases hX z hz hXz with h | rfl | rfl
  ·have old:=G.le z hz h
   rw [g _ _ p1 p2]
   split
   ·rename_i q
    rw [q.1,q.2] at old
    omega
   ·split
    ·rename_i q
     rw [q.1,q.2] at old
     omega
    ·exact old
  ·rw [e1]
   simp only
   rw [hA,hB,g _ _ ha hb,if_pos ⟨rfl,rfl⟩]
   exact Int.min_le_right _ _
  ·rw [e2]
   simp only
   rw [hA,hB,g _ _ hb ha,if_neg (fun h=>hab h.1.symm),if_pos ⟨rfl,rfl⟩]
   exact Int.min_le_right _ _
end Go.Proofs.YtlnfbjphfoipaaaGreat
namespace Go.Proofs.YtlnfbjphfoipaaaGreat
open Go.KL Go.KL.Net Go.KL.Floyd
theorem wMT {n:Nat} (hn:n <= 100):∃ t,(wCQ 0 (n:Int) (fun k38 l32 =>
  (mkz 8 (n:Int) (0:Int)).bind fun x64 =>
  (wCQ 0 (n:Int) (fun k78 l77 =>
   if (↑k38:Int)=(↑k78:Int) then
    some l77
   else
    (chk (↑k78:Int) l77.length).bind fun _ =>
    some (hH l77 k78 1125899906842624)) x64).bind fun y83 =>
  (app 24 l32 [y83]).bind fun x140 =>
  some x140) ([]:List (List Int)))=some t/\Mx n t/\∀ a b,a < n->b < n->mx t a b=if a=b then 0 else 1125899906842624:=by
 have row:∀ k:Nat,∃ l:List Int,(wCQ 0 (n:Int) (fun k78 l77 =>
   if (↑k:Int)=(↑k78:Int) then
    some l77
   else
    (chk (↑k78:Int) l77.length).bind fun _ =>
    some (hH l77 k78 1125899906842624)) (nB (n:Int).toNat (0:Int)))=some l/\l.length=n/\∀ b,b < n->gd l b=if k=b then 0 else 1125899906842624:=by
  intro k
  rw [wDJ (by omega)]
  obtain ⟨l,e,l1,l2⟩:=wDp (body:=fun (k78:Nat) (l77:List Int) =>
   if (↑k:Int)=(↑k78:Int) then
    some l77
   else
    (chk (↑k78:Int) l77.length).bind fun _ =>
    some (hH l77 k78 1125899906842624)) (fun i s=>s.length=n/\∀ b,b < n->gd s b=if b < i then (if k=b then 0 else 1125899906842624) else 0) n 0 (nB (n:Int).toNat (0:Int)) ⟨by simp,fun b hb=>by rw [if_neg (by omega),wLX (by simpa using hb)];simp⟩ (by
   rintro i s _ hi ⟨s1,s2⟩
   by_cases c:k=i
   ·refine ⟨s,by rw [if_pos (by omega)],s1,fun b hb=>?_⟩
    rw [s2 b hb]
    by_cases d:b < i
    ·rw [if_pos d,if_pos (show b < i + 1 by omega)]
    ·by_cases e:b=i
     ·rw [if_neg d,if_pos (show b < i + 1 by omega),if_pos (show k=b by omega)]
     ·rw [if_neg d,if_neg (show ¬ b < i + 1 by omega)]
   ·refine ⟨_,by rw [if_neg (by omega),wDM (by omega) (by omega)];rfl,by simp [s1],fun b hb=>?_⟩
    rw [wHV (by omega) (by omega),s2 b hb]
    by_cases e:b=i
    ·rw [if_pos e,if_pos (show b < i + 1 by omega),if_neg (show ¬ k=b by omega)]
    ·by_cases d:b < i
     ·rw [if_neg e,if_pos d,if_pos (show b < i + 1 by omega)]
     ·rw [if_neg e,if_neg d,if_neg (show ¬ b < i + 1 by omega)])
  rw [nV] at l2
  exact ⟨l,e,l1,fun b hb=>by rw [l2 b hb,if_pos hb]⟩
 rw [wDJ (by omega)]
 obtain ⟨t,e,t1,t2⟩:=wDp (body:=fun (k38:Nat) (l32:List (List Int)) =>
  (mkz 8 (n:Int) (0:Int)).bind fun x64 =>
  (wCQ 0 (n:Int) (fun k78 l77 =>
   if (↑k38:Int)=(↑k78:Int) then
    some l77
   else
    (chk (↑k78:Int) l77.length).bind fun _ =>
    some (hH l77 k78 1125899906842624)) x64).bind fun y83 =>
  (app 24 l32 [y83]).bind fun x140 =>
  some x140) (fun i s=>s.length=i/\∀ a,a < i->(gd s a).length=n/\∀ b,b < n->gd (gd s a) b=if a=b then 0 else 1125899906842624) n 0 [] ⟨rfl,fun a ha=>by omega⟩ (by
  rintro i s _ hi ⟨s1,s2⟩
  obtain ⟨l,e,l1,l2⟩:=row i
  rw [mkz,if_pos (by omega),hD,e,hD,wEH (by simp only [nE,nZ];omega),hD]
  refine ⟨_,rfl,by simp [s1],fun a ha=>?_⟩
  by_cases c:a=i
  ·subst c
   have e2:gd (s ++ [l]) a=l:=by rw [<- s1];exact wMI s [] l
   rw [e2]
   exact ⟨l1,l2⟩
  ·rw [wIU (by omega)]
   exact s2 a (by omega))
 rw [nV] at t1 t2
 exact ⟨t,e,⟨t1,fun a ha=>(t2 a ha).1⟩,fun a b ha hb=>(t2 a ha).2 b hb⟩
def done (s0 s1 j c q:Int) (x:wAH):Prop:=(x.Kind=0/\x.Skier < s0) \/ (x.Kind=1/\(x.Skier < s1 \/ (x.Skier=s1/\x.Index < j))) \/ (x.Kind=2/\x.Index < c) \/ (x.Kind=3/\x.Index < q)
theorem Gt.weak {r:wAA} {X X':wAH->Prop} {t:List (List Int)} (G:Gt r X t) (h:∀ z,wCZ r z->X' z->X z):Gt r X' t:=⟨G.m,G.b0,G.d0,G.fe,fun z hz hX=>G.le z hz (h z hz hX)⟩
theorem wGW {z:wAH} {k s i:Int} (h1:z.Kind=k) (h2:z.Skier=s) (h3:z.Index=i):z=⟨k,s,i,true⟩ \/ z=wNU ⟨k,s,i,true⟩:=by
 obtain ⟨a,b,c,u⟩:=z
 simp only at h1 h2 h3
 subst h1 h2 h3
 cases u
 ·exact .inr rfl
 ·exact .inl rfl
structure Tab (r:wAA) (T:List (List Int)):Prop where
 ex:∃ t,Gt r (fun _=>True) t/\Fl (np r) t T (np r)
section
variable {r:wAA} (C:RC r)
include C
theorem wMU {t:List (List Int)} (G:Gt r (fun _=>True) t):∃ T,((wCQ 0 (np r:Int) (fun k561 l560=>rB (np r) k561 l560) t).bind fun y566=>some y566)=some T/\Tab r T:=by
 obtain ⟨T,e,F⟩:=wMS (n:=np r) (by have:=wLk C;omega) G.m G.b0
 exact ⟨T,by rw [e];rfl,⟨t,G,F⟩⟩
def rdB (r:wAA):(List (List Int) × Int)->Option ((List (List Int) × Int) ⊕ List (List Int)):=fun (l449,x450) =>
            if x450 < (↑(cv r).Readings.length:Int) then
              (idx (cv r).Readings x450).bind fun x468 =>
              (idx (cv r).Clocks x468.Clock).bind fun x487 =>
              (wAo (cv r) x468.Clock).bind fun x511 =>
              (wAZ (cv r) x468.Skier x468.Mat).bind fun x525 =>
              (wAQ (⟨l449⟩:wAU) x511 x525 (w64 (x468.Time + x487.Error)) (w64 (x487.Error - x468.Time))).bind fun x535 =>
              some (.inl (x535,w64 (x450 + 1)))
            else
              esc ((wCQ 0 (np r:Int) (fun k561 l560=>rB (np r) k561 l560) l449).bind fun y566=>some y566)
theorem rd_is {t:List (List Int)} (G:Gt r (done r.Starts.length r.Starts.length 0 r.Clocks.length 0) t):∃ T,iter (rdB r) big (t,0)=some T/\Tab r T:=by
 have hq:=C.q
 have hl:(cv r).Readings.length=r.Readings.length:=nO ..
 refine wGQ (I:=fun i (s:List (List Int) × Int)=>s.2=(i:Int)/\Gt r (done r.Starts.length r.Starts.length 0 r.Clocks.length i) s.1) (Z:=Tab r) r.Readings.length ?_ ⟨rfl,G⟩ (by omega)
 rintro i ⟨t,x⟩ hi ⟨rfl,G⟩
 unfold rdB
 simp only [hl]
 by_cases c:(i:Int) < (r.Readings.length:Int)
 ·left
  have hi':i < r.Readings.length:=by omega
  have hm:=wDq hi'
  obtain ⟨u1,u2,u3,u4,u5,u6⟩:=C.ru _ hm
  have ut:=C.rt _ hm
  have uc:=C.ck _ (wDL u5 u6)
  obtain ⟨t',e,G'⟩:=G.both C (x:=⟨3,0,(i:Int),true⟩) (X':=done r.Starts.length r.Starts.length 0 r.Clocks.length ((i + 1:Nat):Int)) (.inr (.inr (.inr ⟨rfl,rfl,by simp only;omega,by simp only;omega⟩))) rfl fun z hz hX=>by
   unfold wCZ at hz
   unfold done at hX ⊢
   by_cases q:z.Kind=3/\z.Index=(i:Int)
   ·exact .inr (wGW q.1 (by omega) q.2)
   ·left;omega
  have e1:idx (cv r).Readings (i:Int)=some ⟨(gd r.Readings i).Skier,(gd r.Readings i).Mat,(gd r.Readings i).Clock,(gd r.Readings i).Time⟩:=by
   rw [wDb (by rw [hl];exact hi')]
   exact congrArg some (wFQ _ hi')
  have e2:idx (cv r).Clocks (gd r.Readings i).Clock=some ⟨(gd r.Clocks (gd r.Readings i).Clock.toNat).Offset,(gd r.Clocks (gd r.Readings i).Clock.toNat).Error⟩:=by
   rw [wGj u5 (by show _ < ((r.Clocks.map _).length:Int);rw [nO];exact u6)]
   exact congrArg some (wFQ _ (by omega))
  have w1:w64 ((gd r.Readings i).Time + (gd r.Clocks (gd r.Readings i).Clock.toNat).Error)=(gd r.Readings i).Time + (gd r.Clocks (gd r.Readings i).Clock.toNat).Error:=wAY (by omega) (by omega)
  have w2:w64 ((gd r.Clocks (gd r.Readings i).Clock.toNat).Error - (gd r.Readings i).Time)=(gd r.Clocks (gd r.Readings i).Clock.toNat).Error - (gd r.Readings i).Time:=wAY (by omega) (by omega)
  refine ⟨hi',(t',((i + 1:Nat):Int)),?_,rfl,G'⟩
  rw [if_pos c,e1,hD]
  simp only
  rw [e2,hD,wIc C u5 (by omega),hD,wGV C u1 u2 u3 u4,hD]
  simp only
  rw [w1,w2,wAY (by omega) (by omega)]
  have e':wAQ (⟨t⟩:wAU) (plc r ⟨-1,1 + (gd r.Readings i).Clock⟩:Int) (plc r ⟨(gd r.Readings i).Skier,(gd r.Readings i).Mat⟩:Int) ((gd r.Readings i).Time + (gd r.Clocks (gd r.Readings i).Clock.toNat).Error) ((gd r.Clocks (gd r.Readings i).Clock.toNat).Error - (gd r.Readings i).Time)=some t':=e
  rw [e']
  rfl
 ·right
  have hi':i=r.Readings.length:=by omega
  obtain ⟨T,e,hT⟩:=wMU C (G.weak fun z hz _=>by unfold wCZ at hz;unfold done;omega)
  exact ⟨T,by rw [if_neg c,e];rfl,hT⟩
def ckB (r:wAA):(List (List Int) × Int)->Option ((List (List Int) × Int) ⊕ List (List Int)):=fun (l366,x367) =>
        if x367 < (↑(cv r).Clocks.length:Int) then
          (idx (cv r).Clocks x367).bind fun x387 =>
          (wAo (cv r) x367).bind fun x414 =>
          (wAQ (⟨l366⟩:wAU) 0 x414 (w64 (-x387.Offset.Lo)) x387.Offset.Hi).bind fun x424 =>
          some (.inl (x424,w64 (x367 + 1)))
        else
          esc (iter (rdB r) big (l366,0))
theorem ck_is {t:List (List Int)} (G:Gt r (done r.Starts.length r.Starts.length 0 0 0) t):∃ T,iter (ckB r) big (t,0)=some T/\Tab r T:=by
 have hq:=C.c
 have hl:(cv r).Clocks.length=r.Clocks.length:=nO ..
 refine wGQ (I:=fun i (s:List (List Int) × Int)=>s.2=(i:Int)/\Gt r (done r.Starts.length r.Starts.length 0 i 0) s.1) (Z:=Tab r) r.Clocks.length ?_ ⟨rfl,G⟩ (by omega)
 rintro i ⟨t,x⟩ hi ⟨rfl,G⟩
 unfold ckB
 simp only [hl]
 by_cases c:(i:Int) < (r.Clocks.length:Int)
 ·left
  have hi':i < r.Clocks.length:=by omega
  have uc:=C.ck _ (wDq hi')
  obtain ⟨t',e,G'⟩:=G.both C (x:=⟨2,0,(i:Int),true⟩) (X':=done r.Starts.length r.Starts.length 0 ((i + 1:Nat):Int) 0) (.inr (.inr (.inl ⟨rfl,rfl,by simp only;omega,by simp only;omega⟩))) rfl fun z hz hX=>by
   unfold wCZ at hz
   unfold done at hX ⊢
   by_cases q:z.Kind=2/\z.Index=(i:Int)
   ·exact .inr (wGW q.1 (by omega) q.2)
   ·left;omega
  have e2:idx (cv r).Clocks (i:Int)=some ⟨(gd r.Clocks i).Offset,(gd r.Clocks i).Error⟩:=by
   rw [wDb (by rw [hl];exact hi')]
   exact congrArg some (wFQ _ hi')
  refine ⟨hi',(t',((i + 1:Nat):Int)),?_,rfl,G'⟩
  rw [if_pos c,e2,hD,wIc C (by omega) (by omega),hD]
  simp only
  rw [wAY (x:=-(gd r.Clocks i).Offset.Lo) (by omega) (by omega),wAY (by omega) (by omega)]
  have e':wAQ (⟨t⟩:wAU) 0 (plc r ⟨-1,1 + (i:Int)⟩:Int) (-(gd r.Clocks i).Offset.Lo) (gd r.Clocks i).Offset.Hi=some t':=e
  rw [e']
  rfl
 ·right
  have hi':i=r.Clocks.length:=by omega
  obtain ⟨T,e,hT⟩:=rd_is C (G.weak fun z hz hX=>by unfold wCZ at hz;unfold done at hX ⊢;omega)
  exact ⟨T,by rw [if_neg c,e];rfl,hT⟩
def spB' (r:wAA) (x194:Int):(List (List Int) × Int)->Option ((List (List Int) × Int) ⊕ ((List (List Int) × Int) ⊕ List (List Int))):=fun (l266,x267) =>
        if x267 < (↑(cv r).Splits.length:Int) then
          (idx (cv r).Splits x267).bind fun x288 =>
          (wAZ (cv r) x194 x267).bind fun x311 =>
          (wAZ (cv r) x194 (w64 (x267 + 1))).bind fun x325 =>
          (wAQ (⟨l266⟩:wAU) x311 x325 x288.Hi (w64 (-x288.Lo))).bind fun x335 =>
          some (.inl (x335,w64 (x267 + 1)))
        else
          esc (some (.inl (l266,w64 (x194 + 1))))
def stB (r:wAA):(List (List Int) × Int)->Option ((List (List Int) × Int) ⊕ List (List Int)):=fun (l193,x194) =>
  if x194 < (↑(cv r).Starts.length:Int) then
   (idx (cv r).Starts x194).bind fun x214 =>
   (wAZ (cv r) x194 0).bind fun x237 =>
   (wAQ (⟨l193⟩:wAU) 0 x237 x214 (w64 (-x214))).bind fun x247 =>
   iter (spB' r x194) big (x247,0)
  else
   esc (iter (ckB r) big (l193,0))
theorem sp_is {k:Nat} (hk:k < r.Starts.length) {t:List (List Int)} (G:Gt r (done ((k + 1:Nat):Int) k 0 0 0) t):∃ b,iter (spB' r (k:Int)) big (t,0)=some b/\∃ t',b=.inl (t',((k + 1:Nat):Int))/\Gt r (done ((k + 1:Nat):Int) ((k + 1:Nat):Int) 0 0 0) t':=by
 have hm:=C.m;have hn:=C.n
 refine wGQ (I:=fun i (s:List (List Int) × Int)=>s.2=(i:Int)/\Gt r (done ((k + 1:Nat):Int) k i 0 0) s.1) (Z:=fun (b:(List (List Int) × Int) ⊕ List (List Int))=>∃ t',b=.inl (t',((k + 1:Nat):Int))/\Gt r (done ((k + 1:Nat):Int) ((k + 1:Nat):Int) 0 0 0) t') r.Splits.length ?_ ⟨rfl,G⟩ (by omega)
 rintro i ⟨t,x⟩ hi ⟨rfl,G⟩
 unfold spB'
 simp only [show (cv r).Splits=r.Splits from rfl]
 by_cases c:(i:Int) < (r.Splits.length:Int)
 ·left
  have hi':i < r.Splits.length:=by omega
  have uc:=C.sp _ (wDq hi')
  obtain ⟨t',e,G'⟩:=G.both C (x:=⟨1,(k:Int),(i:Int),true⟩) (X':=done ((k + 1:Nat):Int) k ((i + 1:Nat):Int) 0 0) (.inr (.inl ⟨rfl,by simp only;omega,by simp only;omega,by simp only;omega,by simp only;omega⟩)) rfl fun z hz hX=>by
   unfold wCZ at hz
   unfold done at hX ⊢
   by_cases q:z.Kind=1/\z.Skier=(k:Int)/\z.Index=(i:Int)
   ·exact .inr (wGW q.1 q.2.1 q.2.2)
   ·left;omega
  refine ⟨hi',(t',((i + 1:Nat):Int)),?_,rfl,G'⟩
  rw [if_pos c,wDb hi',hD,wAY (x:=(i:Int) + 1) (by omega) (by omega),wGV C (by omega) (by omega) (by omega) (by omega),hD,wGV C (by omega) (by omega) (by omega) (by omega),hD,wAY (by omega) (by omega)]
  have e':wAQ (⟨t⟩:wAU) (plc r ⟨(k:Int),(i:Int)⟩:Int) (plc r ⟨(k:Int),(i:Int) + 1⟩:Int) (gd r.Splits i).Hi (-(gd r.Splits i).Lo)=some t':=e
  rw [e']
  rfl
 ·right
  have hi':i=r.Splits.length:=by omega
  refine ⟨.inl (t,((k + 1:Nat):Int)),by rw [if_neg c,wAY (by omega) (by omega)];rfl,t,rfl,G.weak fun z hz hX=>by unfold wCZ at hz;unfold done at hX ⊢;omega⟩
theorem st_is {t:List (List Int)} (G:Gt r (done 0 0 0 0 0) t):∃ T,iter (stB r) big (t,0)=some T/\Tab r T:=by
 have hn:=C.n
 refine wGQ (I:=fun i (s:List (List Int) × Int)=>s.2=(i:Int)/\Gt r (done i i 0 0 0) s.1) (Z:=Tab r) r.Starts.length ?_ ⟨rfl,G⟩ (by omega)
 rintro i ⟨t,x⟩ hi ⟨rfl,G⟩
 unfold stB
 simp only [show (cv r).Starts=r.Starts from rfl]
 by_cases c:(i:Int) < (r.Starts.length:Int)
 ·left
  have hi':i < r.Starts.length:=by omega
  have uc:=C.st _ (wDq hi')
  obtain ⟨t',e,G'⟩:=G.both C (x:=⟨0,(i:Int),0,true⟩) (X':=done ((i + 1:Nat):Int) i 0 0 0) (.inl ⟨rfl,by simp only;omega,by simp only;omega,rfl⟩) rfl fun z hz hX=>by
   unfold wCZ at hz
   unfold done at hX ⊢
   by_cases q:z.Kind=0/\z.Skier=(i:Int)
   ·exact .inr (wGW q.1 q.2 (by omega))
   ·left;omega
  obtain ⟨b,e2,t2,rfl,G2⟩:=sp_is C hi' G'
  refine ⟨hi',(t2,((i + 1:Nat):Int)),?_,rfl,G2⟩
  rw [if_pos c,wDb hi',hD,wGV C (by omega) (by omega) (by omega) (by omega),hD,wAY (by omega) (by omega)]
  have e':wAQ (⟨t⟩:wAU) 0 (plc r ⟨(i:Int),0⟩:Int) (gd r.Starts i) (-gd r.Starts i)=some t':=e
  rw [e',hD]
  exact e2
 ·right
  have hi':i=r.Starts.length:=by omega
  obtain ⟨T,e,hT⟩:=ck_is C (G.weak fun z hz hX=>by unfold wCZ at hz;unfold done at hX ⊢;omega)
  exact ⟨T,by rw [if_neg c,e];rfl,hT⟩
theorem wJK:wBO (cv r)=(wBd (cv r)).bind fun x5 =>
 (wCQ 0 x5 (fun k38 l32 =>
  (mkz 8 x5 (0:Int)).bind fun x64 =>
  (wCQ 0 x5 (fun k78 l77 =>
   if (↑k38:Int)=(↑k78:Int) then
    some l77
   else
    (chk (↑k78:Int) l77.length).bind fun _ =>
    some (hH l77 k78 1125899906842624)) x64).bind fun y83 =>
  (app 24 l32 [y83]).bind fun x140 =>
  some x140) []).bind fun y43=>if x5=(np r:Int) then iter (stB r) big (y43,0) else none:=by
 unfold wBO
 rw [wJJ C,hD,hD]
 simp only [if_true]
 rfl
theorem wKZ:∃ T,wBO (cv r)=some T/\Tab r T:=by
 rw [wJK C,wJJ C,hD]
 have hnp:=wLk C
 obtain ⟨t,e,M,g⟩:=wMT (n:=np r) (by omega)
 rw [e,hD,if_pos rfl]
 refine st_is C ⟨M,fun a b ha hb=>?_,fun a ha=>by rw [g a a ha ha,if_pos rfl],fun y F a b ha hb=>?_,fun x hx hX=>?_⟩
 ·rw [g a b ha hb]
  split <;> omega
 ·have h1:=wJH C F (wMr ha)
  have h2:=wJH C F (wMr hb)
  rw [g a b ha hb]
  split
  ·rename_i h;subst h;omega
  ·omega
 ·unfold wCZ at hx
  unfold done at hX
  omega
theorem Tab.clash {T:List (List Int)} (h:Tab r T):(∃ y,wCr r y) ↔ ∀ a,a < np r->0 <= mx T a a:=by
 obtain ⟨t,G,F⟩:=h
 constructor
 ·rintro ⟨y,hy⟩ a ha
  have:=F.fe (fun v=>y (unp r v)) (G.fe y hy) a a ha ha
  omega
 ·intro h0
  have hz:wEv r zp:=.inl rfl
  have p0:plc r zp < np r:=wCs hz
  have hnp:=wLk C
  have fin:∀ p,wEv r p->mx T (plc r zp) (plc r p) < 1125899906842624:=fun p hp=>by
   refine wNT (S:=fun q=>wEv r q->mx T (plc r zp) (plc r q) < 1125899906842624) (fun x hx h _=>?_) (fun _=>?_) hp hp
   ·obtain ⟨o1,o2,c1,c2⟩:=wDv C hx
    have hf:=h o1
    have b:=F.fin (by omega) (nJ _) h0 p0 (wCs o1) hf
    have e:=nX (F.le _ _ (wCs o1) (wCs o2)) (G.le x hx trivial)
    have:=F.tri h0 _ (wCs o1) _ _ p0 (wCs o2) hf (by omega)
    omega
   ·have:=F.le _ _ p0 p0
    rw [G.d0 _ p0] at this
    omega
  refine ⟨fun p=>mx T (plc r zp) (plc r p),fun x hx=>?_⟩
  obtain ⟨o1,o2,c1,c2⟩:=wDv C hx
  have e:=nX (F.le _ _ (wCs o1) (wCs o2)) (G.le x hx trivial)
  have:=F.tri h0 _ (wCs o1) _ _ p0 (wCs o2) (fin _ o1) (by omega)
  show mx T (plc r zp) (plc r (wDP r x).2.1) <= mx T (plc r zp) (plc r (wDP r x).1) + (wDP r x).2.2
  omega
theorem Tab.isDP {T:List (List Int)} (h:Tab r T) (hy:∃ y,wCr r y) {a:Pt} (ha:wEv r a):IsDP r a fun p=>mx T (plc r a) (plc r p):=by
 have h0:=(h.clash C).1 hy
 obtain ⟨t,G,F⟩:=h
 have p0:=wCs ha
 have hnp:=wLk C
 have d:mx T (plc r a) (plc r a)=0:=by
  have h1:=F.le _ _ p0 p0
  rw [G.d0 _ p0] at h1
  have:=h0 _ p0
  omega
 have cl:∀ x,wCZ r x->(wEv r (wDP r x).1->mx T (plc r a) (plc r (wDP r x).1) < 1125899906842624)->(wEv r (wDP r x).2.1->mx T (plc r a) (plc r (wDP r x).2.1) < 1125899906842624):=fun x hx h _=>by
  obtain ⟨o1,o2,c1,c2⟩:=wDv C hx
  have hf:=h o1
  have b:=F.fin (by omega) (nJ _) h0 p0 (wCs o1) hf
  have e:=nX (F.le _ _ (wCs o1) (wCs o2)) (G.le x hx trivial)
  have:=F.tri h0 _ (wCs o1) _ _ p0 (wCs o2) hf (by omega)
  omega
 have fin:∀ p,wEv r p->mx T (plc r a) (plc r p) < 1125899906842624:=fun p hp =>
  wNT (S:=fun q=>wEv r q->mx T (plc r a) (plc r q) < 1125899906842624) cl (wOp (S:=fun q=>wEv r q->mx T (plc r a) (plc r q) < 1125899906842624) cl ha fun _=>by omega) hp hp
 refine ⟨fun x hx=>?_,d,fun y hy p hp=>?_⟩
 ·obtain ⟨o1,o2,c1,c2⟩:=wDv C hx
  have e:=nX (F.le _ _ (wCs o1) (wCs o2)) (G.le x hx trivial)
  have:=F.tri h0 _ (wCs o1) _ _ p0 (wCs o2) (fin _ o1) (by omega)
  show mx T (plc r a) (plc r (wDP r x).2.1) <= mx T (plc r a) (plc r (wDP r x).1) + (wDP r x).2.2
  omega
 ·have:=F.fe (fun v=>y (unp r v)) (G.fe y hy) _ _ p0 (wCs hp)
  simp only [wGm ha,wGm hp] at this
  exact this
end
end Go.Proofs.YtlnfbjphfoipaaaGreat
namespace Go.Proofs.YtlnfbjphfoipaaaGreat
open Go.KL Go.KL.Net
theorem wGX (n lo hi:Int):wAe n lo hi=some (!inB n lo hi):=by
 unfold wAe inB
 by_cases h:n < lo
 ·rw [if_pos h,decide_eq_false (by omega)];rfl
 ·rw [if_neg h]
  congr 1
  rw [kT]
  simp only [no,decide_eq_true_eq,decide_eq_false_iff_not]
  omega
theorem wLl (s:wAN) (lo hi:Int):wBu s lo hi=some (!wKw s lo hi):=by
 unfold wBu wKw
 by_cases h:s.Hi < s.Lo
 ·rw [if_pos h,decide_eq_false (by omega)];rfl
 ·by_cases h2:s.Lo < lo
  ·rw [if_neg h,if_pos h2,decide_eq_false (by omega)];rfl
  ·rw [if_neg h,if_neg h2]
   congr 1
   rw [kT]
   simp only [no,decide_eq_true_eq,decide_eq_false_iff_not]
   omega
theorem wJL {S B:Type} {q:Bool} {s:S} {c:B} {x:Option (S ⊕ B)} {y:Option (S ⊕ B)} (hx:x=some (.inr c)) (hy:y=some (.inl s)):(if (!q)=true then x else y)=some (if q=true then .inl s else .inr c):=by
 cases q
 ·rw [hx];rfl
 ·rw [hy];rfl
theorem wEc {r:wAA} (S:wCa r):wAt (cv r)=some (code r):=by
 have hn:=S.n;have hm:=S.m;have hc:=S.c;have hq:=S.q
 have lc:(cv r).Clocks.length=r.Clocks.length:=nO ..
 have lq:(cv r).Readings.length=r.Readings.length:=nO ..
 unfold wAt code
 rw [show (cv r).Starts=r.Starts from rfl,show (cv r).Splits=r.Splits from rfl,lc,lq,wGX,hD]
 by_cases c1:1 <= r.Starts.length/\r.Starts.length <= 8
 ·have e1:(!inB (r.Starts.length:Int) 1 8)=false:=by unfold inB;rw [decide_eq_true (by omega)];rfl
  rw [e1,if_neg (by simp),if_neg (show ¬ ¬ (1 <= r.Starts.length/\r.Starts.length <= 8) from fun h=>h c1)]
  by_cases c2:7 < r.Splits.length
  ·rw [if_pos (show (7:Int) < (r.Splits.length:Int) by omega),if_pos c2]
  ·rw [if_neg (show ¬ (7:Int) < (r.Splits.length:Int) by omega),if_neg c2]
   by_cases c3:4 < r.Clocks.length
   ·rw [if_pos (show (4:Int) < (r.Clocks.length:Int) by omega),if_pos c3]
   ·rw [if_neg (show ¬ (4:Int) < (r.Clocks.length:Int) by omega),if_neg c3]
    by_cases c4:40 < r.Readings.length
    ·rw [if_pos (show (40:Int) < (r.Readings.length:Int) by omega),if_pos c4]
    ·rw [if_neg (show ¬ (40:Int) < (r.Readings.length:Int) by omega),if_neg c4]
     rw [wGS stP,wGS spP,wGS ckP,wGS rtP,wGS (ruP r)]
     refine wGR (fun k=>stP (gd r.Starts k)) 3 (by omega) (fun i hi=>?_) ?_
     ·rw [if_pos (by omega),wDb hi,hD,wGX,hD]
      exact wJL rfl (by rw [wAY (by omega) (by omega)])
     ·rw [if_neg (by omega)]
      refine (congrArg esc (wGR (fun k=>spP (gd r.Splits k)) 3 (by omega) (fun i hi=>?_) ?_)).trans (wEx _)
      ·rw [if_pos (by omega),wDb hi,hD,wLl,hD]
       exact wJL rfl (by rw [wAY (by omega) (by omega)])
      ·rw [if_neg (by omega)]
       refine (congrArg esc (wGR (fun k=>ckP (gd r.Clocks k)) 3 (by omega) (fun i hi=>?_) ?_)).trans (wEx _)
       ·have ei:idx (cv r).Clocks (i:Int)=some ⟨(gd r.Clocks i).Offset,(gd r.Clocks i).Error⟩:=by
         rw [wDb (by rw [lc];exact hi)]
         exact congrArg some (wFQ _ hi)
        rw [if_pos (by omega),ei,hD]
        simp only
        rw [wLl,hD,wGX,hD]
        unfold ckP
        cases wKw (gd r.Clocks i).Offset (-36000) 36000
        ·rfl
        ·rw [if_neg (by simp),nz]
         exact wJL rfl (by rw [wAY (by omega) (by omega)])
       ·rw [if_neg (by omega)]
        refine (congrArg esc (wGR (fun k=>rtP (gd r.Readings k)) 3 (by omega) (fun i hi=>?_) ?_)).trans (wEx _)
        ·have ei:idx (cv r).Readings (i:Int)=some ⟨(gd r.Readings i).Skier,(gd r.Readings i).Mat,(gd r.Readings i).Clock,(gd r.Readings i).Time⟩:=by
          rw [wDb (by rw [lq];exact hi)]
          exact congrArg some (wFQ _ hi)
         rw [if_pos (by omega),ei,hD]
         simp only
         rw [wGX,hD]
         exact wJL rfl (by rw [wAY (by omega) (by omega)])
        ·rw [if_neg (by omega)]
         refine (congrArg esc (wGR (fun k=>ruP r (gd r.Readings k)) 1 (z:=0) (by omega) (fun i hi=>?_) ?_)).trans (wEx _)
         ·have ei:idx (cv r).Readings (i:Int)=some ⟨(gd r.Readings i).Skier,(gd r.Readings i).Mat,(gd r.Readings i).Clock,(gd r.Readings i).Time⟩:=by
           rw [wDb (by rw [lq];exact hi)]
           exact congrArg some (wFQ _ hi)
          rw [if_pos (by omega),ei,hD]
          simp only
          rw [wAY (x:=(r.Starts.length:Int) - 1) (by omega) (by omega),wAY (x:=(r.Clocks.length:Int) - 1) (by omega) (by omega),wGX,hD,wGX,hD,wGX,hD]
          unfold ruP
          cases inB (gd r.Readings i).Skier 0 ((r.Starts.length:Int) - 1)
          ·rfl
          ·rw [if_neg (by simp),nz]
           cases inB (gd r.Readings i).Mat 0 (r.Splits.length:Int)
           ·rfl
           ·rw [if_neg (by simp),nz]
            exact wJL rfl (by rw [wAY (by omega) (by omega)])
         ·rw [if_neg (by omega)];rfl
 ·have e1:(!inB (r.Starts.length:Int) 1 8)=true:=by unfold inB;rw [decide_eq_false (by omega)];rfl
  rw [e1,if_pos rfl,if_pos c1]
theorem wNe {r:wAA} (S:wCa r):wCV r=some (cv r):=by
 have hn:=S.n;have hm:=S.m;have hc:=S.c;have hq:=S.q
 unfold wCV wBR wAv
 rw [wEH (by simp only [nZ];omega),hD,hD,wEH (by simp only [nZ];omega),hD,hD,hD]
 simp only
 rw [wKK (f:=fun x:wAd=>(⟨x.Offset,x.Error⟩:wBA)) (fun a _ l=>by cases app 24 l [(⟨a.Offset,a.Error⟩:wBA)] <;> rfl) (by omega) (by omega),hD]
 rw [wKK (f:=fun x:wAJ=>(⟨x.Skier,x.Mat,x.Clock,x.Time⟩:wAn)) (fun a _ l=>by cases app 32 l [(⟨a.Skier,a.Mat,a.Clock,a.Time⟩:wAn)] <;> rfl) (by omega) (by omega),hD]
 rfl
end Go.Proofs.YtlnfbjphfoipaaaGreat
namespace Go.Proofs.YtlnfbjphfoipaaaGreat
open Go.KL Go.KL.Net Go.KL.Floyd
open Classical
theorem wHH {r:wAA} (C:RC r):∃ b,wAa (cv r)=some b/\(b=true ↔ ¬ ∃ y,wCr r y):=by
 obtain ⟨T,e,hT⟩:=wKZ C
 have hnp:=wLk C
 obtain ⟨t,G,F⟩:=id hT
 have hr:=F.m.rows
 refine ⟨!wLx (fun k=>!decide (mx T k k < 0)) (np r) 0,?_,?_⟩
 ·unfold wAa
  rw [e,hD,hr,wMJ (fun k=>!decide (mx T k k < 0)) true (by omega) fun i hi=>?_]
  ·cases wLx (fun k=>!decide (mx T k k < 0)) (np r) 0 <;> rfl
  ·rw [wDb (by omega),hD,wDb (by rw [F.m.cols i hi];exact hi),hD]
   by_cases c:mx T i i < 0
   ·rw [if_pos (show gd (gd T i) i < 0 from c),decide_eq_true c];rfl
   ·rw [if_neg (show ¬ gd (gd T i) i < 0 from c),decide_eq_false c];rfl
 ·rw [hT.clash C,no,Bool.eq_false_iff,ne_eq,wIV]
  constructor
  ·intro h h2
   exact h fun i _ hi=>by
    have:=h2 i (by omega)
    simp only [no,decide_eq_false_iff_not]
    omega
  ·intro h h2
   exact h fun i hi=>by
    have:=h2 i (by omega) (by omega)
    simp only [no,decide_eq_false_iff_not] at this
    omega
theorem wLm {r:wAA} (S:wCa r):wCC (cv r)=some (wFZ r []):=by
 unfold wCC wFZ
 rw [wEc S,hD]
 by_cases c:code r=0
 ·obtain ⟨b,e,hb⟩:=wHH (wFx c)
  rw [if_pos c,if_pos c,e,hD,if_pos (show ([]:List wAL).all (wFT r)=true from rfl)]
  by_cases d:∃ y,wCr r y
  ·rw [if_neg (fun h=>hb.1 h d),if_pos d]
  ·rw [if_pos (hb.2 d),if_neg d]
 ·rw [if_neg c,if_neg c]
end Go.Proofs.YtlnfbjphfoipaaaGreat
namespace Go.Proofs.YtlnfbjphfoipaaaGreat
open Go.KL Go.KL.Net Go.KL.Floyd
open Classical
def sp6 (s:wAL):wAR:=⟨s.Skier,s.Mat⟩
theorem wLn {r:wAA} (S:wCa r) (s:wAL):wBv (cv r) (sp6 s)=some (!wFT r s):=by
 have:=S.n
 unfold wBv wFT sp6
 show (wAe s.Skier 0 (w64 ((r.Starts.length:Int) - 1))).bind _=_
 rw [wAY (by omega) (by omega),wGX,hD]
 cases inB s.Skier 0 ((r.Starts.length:Int) - 1)
 ·rfl
 ·rw [if_neg (by simp)]
  show (wAe s.Mat 0 (r.Splits.length:Int)).bind _=_
  rw [wGX];rfl
theorem wJM {r:wAA} (S:wCa r) (a b:wAL):wCM (cv r) (sp6 a) (sp6 b)=some (wFZ r [a,b]):=by
 unfold wCM
 rw [wEc S,hD]
 by_cases c:code r=0
 ·rw [if_pos c,wLn S,hD]
  cases h1:wFT r a
  ·rw [if_pos (by rfl)]
   unfold wFZ
   rw [if_pos c,if_neg (by simp [h1])]
  ·rw [if_neg (by simp),wLn S,hD]
   cases h2:wFT r b
   ·rw [if_pos (by rfl)]
    unfold wFZ
    rw [if_pos c,if_neg (by simp [h2])]
   ·rw [if_neg (by simp),wLm S,hD]
    unfold wFZ
    rw [show [a,b].all (wFT r)=true by simp [h1,h2]]
    rfl
 ·rw [if_neg c]
  unfold wFZ
  rw [if_neg c]
theorem wLo {r:wAA} {T:List (List Int)} (hT:Tab r T) {a b:Pt} (ha:wEv r a) (hb:wEv r b) {α:Type} (k:Int->Option α):((idx T (plc r a:Int)).bind fun row=>(idx row (plc r b:Int)).bind k)=k (mx T (plc r a) (plc r b)):=by
 obtain ⟨t,G,F⟩:=hT
 have h1:=wCs ha
 have h2:=wCs hb
 rw [wDb (by rw [F.m.rows];exact h1),hD,wDb (by rw [F.m.cols _ h1];exact h2),hD]
 rfl
end Go.Proofs.YtlnfbjphfoipaaaGreat
namespace Go.Proofs.YtlnfbjphfoipaaaGreat
open Go.KL Go.KL.Net Go.KL.Floyd
open Classical
def rd6 (x:wAJ):wAn:=⟨x.Skier,x.Mat,x.Clock,x.Time⟩
theorem wNf {r:wAA} (C:RC r):code r=0:=by
 unfold code
 rw [if_neg (fun h=>h C.n),if_neg (by have:=C.m;omega),if_neg (by have:=C.c;omega),if_neg (by have:=C.q;omega),if_pos (na.2 fun s hs=>by
  have:=C.st s hs
  unfold stP inB
  rw [decide_eq_true_eq];omega),if_pos (na.2 fun s hs=>by
  have:=C.sp s hs
  unfold spP wKw
  rw [decide_eq_true_eq];omega),if_pos (na.2 fun s hs=>by
  have:=C.ck s hs
  unfold ckP wKw inB
  rw [nb,decide_eq_true_eq,decide_eq_true_eq];omega),if_pos (na.2 fun s hs=>by
  have:=C.rt s hs
  unfold rtP inB
  rw [decide_eq_true_eq];omega),if_pos (na.2 fun s hs=>by
  have:=C.ru s hs
  unfold ruP inB
  rw [nb,nb,decide_eq_true_eq,decide_eq_true_eq,decide_eq_true_eq];omega)]
theorem wFl (r:wAA):(cv r).Readings.length=r.Readings.length:=nO ..
theorem wLp {r:wAA} {k:Nat} (h:k < r.Readings.length):idx (cv r).Readings (k:Int)=some (rd6 (gd r.Readings k)):=by
 rw [wDb (by rw [wFl];exact h)]
 exact congrArg some (wFQ _ h)
theorem wOv (q:Nat->Bool) (l:List wAJ) (k:Nat):(wGk q l (k + 1)).map rd6=if q k=true then (wGk q l k).map rd6 else (wGk q l k).map rd6 ++ [rd6 (gd l k)]:=by
 rw [wJI]
 by_cases h:q k=true
 ·rw [if_pos h,if_pos h]
 ·rw [if_neg h,if_neg h,nM];rfl
theorem wKa (q:Nat->Bool) (l:List wAJ) (k:Nat):((wGk q l k).map rd6).length <= k:=by
 rw [nO];exact wHX q l k
def lsW (r:wAA) (q:Nat->Bool):wAA:=wr r (wGk q r.Readings r.Readings.length)
theorem wJv {r:wAA} (h:r.Readings.length <= 40) (a b:Nat):wAl (cv r) (a:Int) (b:Int)=some (cv (lsW r fun j=>decide (j=a) || decide (j=b))):=by
 unfold wAl
 refine wFR (m:=r.Readings.length) (fun i=>((wGk (fun j=>decide (j=a) || decide (j=b)) r.Readings i).map rd6,(i:Int))) (fun i hi=>?_) ?_ rfl (by omega)
 ·have kl:=wKa (fun j=>decide (j=a) || decide (j=b)) r.Readings i
  dsimp only
  rw [wFl,if_pos (by omega),wAY (by omega) (by omega),wOv]
  by_cases h1:i=a
  ·rw [if_pos (by omega),if_pos (by rw [decide_eq_true h1,Bool.true_or])];rfl
  ·rw [if_neg (by omega),decide_eq_false h1,Bool.false_or]
   by_cases h2:i=b
   ·rw [if_pos (by omega),if_pos (decide_eq_true h2)];rfl
   ·rw [if_neg (by omega),if_neg (by simpa using h2),wLp hi,hD,wEH (by simp only [nE,nZ];omega),hD];rfl
 ·dsimp only
  rw [wFl,if_neg (by omega)];rfl
theorem wMs {r:wAA} (C:RC r) (q:Nat->Bool):RC (lsW r q):=wOr C (by have:=wHX q r.Readings r.Readings.length;have:=C.q;omega) fun x hx=>by
 obtain ⟨i,hi,_,rfl⟩:=wIZ.1 hx
 exact wDq hi
theorem wId {r:wAA} (C:RC r) (q:Nat->Bool):wAa (cv (lsW r q))=some (!decide (Wo r q)):=by
 obtain ⟨b,e,h⟩:=wHH (wMs C q)
 rw [e]
 refine congrArg some ?_
 cases b with
 | true=>exact (congrArg not (decide_eq_false (h.1 rfl))).symm
 | false =>
  refine (congrArg not (decide_eq_true ?_)).symm
  exact Classical.byContradiction fun w=>by have:=h.2 w;cases this
theorem wLq {r:wAA} (S:wCa r) (c:code r=0):wBB (cv r)=some (wNX r):=by
  have C:=wFx c
  have hq:=C.q
  unfold wBB wNX
  obtain ⟨b,e,hb⟩:=wHH C
  rw [wEc S,hD,if_pos c,e,hD]
  by_cases hy:∃ y,wCr r y
  · rw [if_pos hy,if_neg (fun h=>hb.1 h hy)]
  rw [if_neg hy,if_pos (hb.2 hy)]
  have key:=wIX (B:=List Int × Int) (n:=r.Readings.length) (body:=fun (x36:Int) =>
        if x36 < (↑(cv r).Readings.length:Int) then
          (wAl (cv r) x36 x36).bind fun x59 =>
          (wAa x59).bind fun x89 =>
          if x89=true then
            some (.inl (w64 (x36 + 1)))
          else
            esc (some ([x36],0))
        else
          esc (iter (fun x118 =>
            if x118 < (↑(cv r).Readings.length:Int) then
              iter (fun x136 =>
                if x136 < (↑(cv r).Readings.length:Int) then
                  (wAl (cv r) x118 x136).bind fun x168 =>
                  (wAa x168).bind fun x198 =>
                  if x198=true then
                    some (.inl (w64 (x136 + 1)))
                  else
                    esc (esc (some ([x118,x136],0)))
                else
                  esc (some (.inl (w64 (x118 + 1))))) big (w64 (x118 + 1))
            else
              esc (some ([],10))) big 0)) (wMM r) (z:=(fnd (fun k=>fnd (wKX r k) (r.Readings.length - (k + 1)) (k + 1)) r.Readings.length 0).getD ([],10)) (by omega) (fun i hi=>by
      unfold wMM
      rw [wFl,if_pos (by omega),wJv hq,hD,wId C,hD,wAY (by omega) (by omega),show (fun j=>decide (j=i) || decide (j=i))=fun j:Nat=>decide (j=i) from funext fun j=>Bool.or_self _]
      by_cases h:Wo r (fun j=>decide (j=i))
      · rw [if_neg (by rw [decide_eq_true h];simp),if_pos h];rfl
      · rw [if_pos (by rw [decide_eq_false h];rfl),if_neg h];rfl) (by
      rw [wFl,if_neg (by omega)]
      have k2:=wIX (B:=List Int × Int) (n:=r.Readings.length) (body:=fun (x118:Int) =>
            if x118 < (↑r.Readings.length:Int) then
              iter (fun x136 =>
                if x136 < (↑r.Readings.length:Int) then
                  (wAl (cv r) x118 x136).bind fun x168 =>
                  (wAa x168).bind fun x198 =>
                  if x198=true then
                    some (.inl (w64 (x136 + 1)))
                  else
                    esc (esc (some ([x118,x136],0)))
                else
                  esc (some (.inl (w64 (x118 + 1))))) big (w64 (x118 + 1))
            else
              esc (some ([],10))) (fun k=>fnd (wKX r k) (r.Readings.length - (k + 1)) (k + 1)) (z:=([],10)) (by omega) (fun k hk=>by
          rw [if_pos (by omega),wAY (by omega) (by omega)]
          have k3:=wET (B:=Int ⊕ (List Int × Int)) (body:=fun (x136:Int) =>
                if x136 < (↑r.Readings.length:Int) then
                  (wAl (cv r) (k:Int) x136).bind fun x168 =>
                  (wAa x168).bind fun x198 =>
                  if x198=true then
                    some (.inl (w64 (x136 + 1)))
                  else
                    esc (esc (some ([(k:Int),x136],0)))
                else
                  esc (some (.inl ((k:Int) + 1)))) (f:=fun i=>(wKX r k i).map Sum.inr) (z:=.inl ((k:Int) + 1)) (n:=r.Readings.length) (fun i hi=>by
              unfold wKX
              rw [if_pos (by omega),wJv hq,hD,wId C,hD,wAY (by omega) (by omega)]
              by_cases h:Wo r (fun j=>decide (j=k) || decide (j=i))
              · rw [if_neg (by rw [decide_eq_true h];simp),if_pos h];rfl
              · rw [if_pos (by rw [decide_eq_false h];rfl),if_neg h];rfl) (by rw [if_neg (by omega)];rfl) (r.Readings.length - (k + 1)) (k + 1) big (by omega) (by unfold big;omega)
          rw [show ((k:Int) + 1)=(((k + 1:Nat)):Int) by omega] at *
          rw [k3,wJq]
          cases fnd (wKX r k) (r.Readings.length - (k + 1)) (k + 1) <;> rfl) (by rw [if_neg (by omega)];rfl)
      rw [k2];rfl)
  refine key.trans ?_
  cases fnd (wMM r) r.Readings.length 0 <;> rfl
theorem wKq {r:wAA} (S:wCa r) (c:code r ≠ 0):wBB (cv r)=some ([],code r):=by
 unfold wBB
 rw [wEc S,hD,if_neg c]
theorem wLr {r:wAA} (S:wCa r) (c:code r=0):wBC (cv r)=some (wNY r):=by
 have C:=wFx c
 have hq:=C.q
 have hn:=S.n
 unfold wBC wNY
 obtain ⟨b,e,hb⟩:=wHH C
 rw [wEc S,hD,if_pos c,e,hD]
 by_cases hy:∃ y,wCr r y
 ·rw [if_pos hy,if_neg (fun h=>hb.1 h hy)]
 rw [if_neg hy,if_pos (hb.2 hy)]
 refine wFR (m:=r.Starts.length) (fun k=>(mtL (his r) k,(k:Int))) (fun k hk=>?_) ?_ rfl (by omega)
 ·have ml:=wGl (his r) k
  dsimp only
  rw [show (cv r).Starts=r.Starts from rfl,if_pos (by omega),wML]
  refine wFR (m:=r.Readings.length) (fun i=>((wGk (fun j=>decide ((gd r.Readings j).Skier=(k:Int))) r.Readings i).map rd6,(i:Int))) (fun i hi=>?_) ?_ rfl (by omega)
  ·have kl:=wKa (fun j=>decide ((gd r.Readings j).Skier=(k:Int))) r.Readings i
   dsimp only
   rw [wFl,if_pos (by omega),wLp hi,hD,wAY (by omega) (by omega),wOv]
   by_cases h1:(gd r.Readings i).Skier=(k:Int)
   ·rw [if_pos (show (rd6 (gd r.Readings i)).Skier=(k:Int) from h1),if_pos (decide_eq_true h1)];rfl
   ·rw [if_neg (show ¬ (rd6 (gd r.Readings i)).Skier=(k:Int) from h1),if_neg (by simpa using h1),wEH (by simp only [nE,nZ];omega),hD];rfl
  ·dsimp only
   have e2:=wId C fun j=>decide ((gd r.Readings j).Skier=(k:Int))
   rw [wFl,if_neg (by omega)]
   refine (congrArg esc ?_).trans (wEx _)
   rw [show (⟨r.Starts,(cv r).Splits,(cv r).Clocks,(wGk (fun j=>decide ((gd r.Readings j).Skier=(k:Int))) r.Readings r.Readings.length).map rd6⟩:wAK)=cv (lsW r fun j=>decide ((gd r.Readings j).Skier=(k:Int))) from rfl,e2,hD,wAY (by omega) (by omega)]
   by_cases w:Wo r (fun j=>decide ((gd r.Readings j).Skier=(k:Int)))
   ·rw [if_neg (by rw [decide_eq_true w];simp),if_pos (show his r k=true from decide_eq_true w),wEH (by simp only [nE,nZ];omega),hD];rfl
   ·rw [if_pos (by rw [decide_eq_false w];rfl),if_neg (show ¬ his r k=true by unfold his;rw [decide_eq_false w];simp)];rfl
 ·dsimp only
  rw [show (cv r).Starts=r.Starts from rfl,if_neg (by omega)];rfl
theorem wKr {r:wAA} (S:wCa r) (c:code r ≠ 0):wBC (cv r)=some ([],code r):=by
 unfold wBC
 rw [wEc S,hD,if_neg c]
end Go.Proofs.YtlnfbjphfoipaaaGreat
