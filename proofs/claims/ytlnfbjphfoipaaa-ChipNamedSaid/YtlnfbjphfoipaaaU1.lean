import Derived.Test.YtlnfbjphfoipaaaU0
import Derived.Lib.AppendZerosOnto
set_option linter.all false
open Option renaming bind_some->hD
open List renaming mem_map->hH,set->nA,range->nB,length_cons->nH,replicate->nI,mem_range->nJ,length_nil->nK,getElem?_eq_getElem->nL,length_take->nM,length_append->nN,flatMap_cons->nO,map_append->nP,mem_append->nQ,length_singleton->nR,mem_singleton->nT,append_assoc->nU,length_set->nV,all_eq_true->nW,length_map->nY,flatMap->nZ,getElem?_append_right->nf,drop_eq_getElem_cons->ng,getElem?_append_left->nh,nodup_append->ni,countP_congr->nj,drop_eq_nil_of_le->nk,cons_append->nl,append_nil->nq,getElem?_take->nt,all_cons->nu,map_cons->nw,mem_cons->ny,getD_eq_getElem?_getD->nz,nodup_iff_pairwise_ne->kB,getElem?_eq_some_iff->kC,perm_middle->kE,ext_getElem->kF,take_length->kG,range_succ->kJ,sum_replicate_nat->kL,pairwise_lt_range->kM,getElem?_eq_none->kP,mem_of_getElem?->kQ,range_eq_range'->kR,length_flatMap->kS,map_congr_left->kT,append_of_mem->kU,pairwise_map->kY,map->ka
open Int renaming toNat_natCast->hJ,toNat_of_nonneg->nE,sub_add_cancel->nc,tmod_eq_emod_of_nonneg->kA,add_comm->kH,eq_ofNat_of_zero_le->kI,lt_or_le->kV,add_zero->kW,add_sub_cancel->kX
open Bool renaming and_eq_true->nD,false_eq_true->nS
open Nat renaming le_refl->nX,zero_add->na,mul_le_mul_right->np,beq->kD,one_mul->kK,eq_of_beq_eq_true->kO,add_mul->kZ
open Option.some renaming inj->nb
open Classical renaming choose->nn,choose_spec->no,em->kc
open Array renaming replicate->nr
open List.cons renaming inj->kb
namespace Go.Proofs.Ytlnfbjphfoipaaa
open Go.KL
structure wAF where
 bytes:List Int
 next:Int
 state:Int
deriving DecidableEq,Inhabited,Repr
structure wAG where
 Lo:Int
 Hi:Int
deriving DecidableEq,Inhabited,Repr
structure wAK where
 Offset:wAG
 Error:Int
deriving DecidableEq,Inhabited,Repr
structure wAI where
 Skier:Int
 Mat:Int
 Clock:Int
 Time:Int
deriving DecidableEq,Inhabited,Repr
structure wAD where
 Starts:List Int
 Splits:List wAG
 Clocks:List wAK
 Readings:List wAI
deriving DecidableEq,Inhabited,Repr
structure wAO where
 Skier:Int
 Mat:Int
deriving DecidableEq,Inhabited,Repr
structure wAL where
 skier:Int
 mat:Int
deriving DecidableEq,Inhabited,Repr
structure wAJ where
 Kind:Int
 Skier:Int
 Index:Int
 Up:Bool
deriving DecidableEq,Inhabited,Repr
structure wAX where
 step:wAJ
 from_:Int
 to_:Int
 count:Int
deriving DecidableEq,Inhabited,Repr
structure wAY where
 Race:wAD
 number:List (wAL × Int)
 edges:List wAX
structure wCy where
 far:List Int
 by_:List Int
deriving DecidableEq,Inhabited,Repr
def wBW (p0:List Int):Option (wAF) :=
 some (⟨p0,0,17⟩:wAF)
def wAM (p0:wAF) (p1:Int):Option (Int × wAF) :=
 if p1 <= 1 then
  some (0,p0)
 else
  if (↑p0.bytes.length:Int)=0 then
   some (0,p0)
  else
   (rem p0.next (↑p0.bytes.length:Int)).bind fun x10 =>
   (idx p0.bytes x10).bind fun x13 =>
   (quo p0.next (↑p0.bytes.length:Int)).bind fun x20 =>
   (rem (wER ((wER ((wER ((wER (p0.state * 45)) + (wER x13))) + (wER (77 * (wER x20))))) + 1)) 65519).bind fun x32 =>
   if (wER x20)=0 then
    if p1 <= 256 then
     (rem (w64 (wER x13)) p1).bind fun x42 =>
     some (x42,(⟨p0.bytes,w64 (p0.next + 1),x32⟩:wAF))
    else
     (rem (w64 (wER ((wER (x32 * 256)) + (wER x13)))) p1).bind fun x46 =>
     some (x46,(⟨p0.bytes,w64 (p0.next + 1),x32⟩:wAF))
   else
    (rem (w64 (wER ((wER (x32 * 256)) + (wER x13)))) p1).bind fun x50 =>
    some (x50,(⟨p0.bytes,w64 (p0.next + 1),x32⟩:wAF))
def wAQ (p0:wAF) (p1:Int) (p2:Int):Option (Int × wAF) :=
 (wAM p0 (w64 ((w64 (p2 - p1)) + 1))).bind fun (x2,x3) =>
 some (w64 (p1 + x2),x3)
def wBj (p0:wAF) (p1:Int) (p2:Int) (p3:Int):Option (wAD × (List (List Int)) × (List Int) × wAF) :=
 (wAQ p0 1 p1).bind fun (x10,x11) =>
 (wBc 0 x10 (fun k62 (l53,x56,x57,l58) =>
  (wAM (⟨l53,x56,x57⟩:wAF) 4).bind fun (x142,x143) =>
  (wAM x143 3).bind fun (x156,x157) =>
  (app 8 l58 [w64 ((w64 (300 * x142)) + x156)]).bind fun x175 =>
  some (x157.bytes,x157.next,x157.state,x175)) (x11.bytes,x11.next,x11.state,[])).bind fun (y67,y68,y69,y70) =>
 (wAM (⟨y67,y68,y69⟩:wAF) p2).bind fun (x223,x224) =>
 (wBc 0 x223 (fun k274 (l265,x268,x269,l270) =>
  (wAQ (⟨l265,x268,x269⟩:wAF) 3 9).bind fun (x305,x306) =>
  (wAM x306 30).bind fun (x353,x354) =>
  (app 16 l270 [(⟨w64 (100 * x305),w64 ((w64 (100 * x305)) + (w64 (10 * x353)))⟩:wAG)]).bind fun x372 =>
  some (x354.bytes,x354.next,x354.state,x372)) (x224.bytes,x224.next,x224.state,[])).bind fun (y279,y280,y281,y282) =>
 (wBc 0 (↑y70.length:Int) (fun k460 (l450,x453,x454,l455) =>
  (chk (↑k460:Int) y70.length).bind fun _ =>
  (wBc 0 (↑y282.length:Int) (fun k541 (l532,x535,x536,x537,l538) =>
   (chk (↑k541:Int) y282.length).bind fun _ =>
   (wAQ (⟨l532,x535,x536⟩:wAF) ((gd y282 k541).Lo) ((gd y282 k541).Hi)).bind fun (x589,x590) =>
   (app 8 l538 [w64 (x537 + x589)]).bind fun x609 =>
   some (x590.bytes,x590.next,x590.state,w64 (x537 + x589),x609)) (l450,x453,x454,(gd y70 k460),[(gd y70 k460)])).bind fun (y546,y547,y548,y549,y550) =>
  (app 24 l455 [y550]).bind fun x672 =>
  some (y546,y547,y548,x672)) (y279,y280,y281,[])).bind fun (y465,y466,y467,y468) =>
 (wAQ (⟨y465,y466,y467⟩:wAF) 1 3).bind fun (x726,x727) =>
 (wBc 0 x726 (fun k792 (l779,x782,x783,l784,l788) =>
  (wAQ (⟨l779,x782,x783⟩:wAF) (-60) 20).bind fun (x826,x827) =>
  (wAM x827 50).bind fun (x840,x841) =>
  (wAM x841 6).bind fun (x854,x855) =>
  (app 24 l784 [(⟨(⟨x826,w64 (x826 + x840)⟩:wAG),x854⟩:wAK)]).bind fun x880 =>
  (wAQ x855 x826 (w64 (x826 + x840))).bind fun (x888,x889) =>
  (app 8 l788 [x888]).bind fun x908 =>
  some (x889.bytes,x889.next,x889.state,x880,x908)) (x727.bytes,x727.next,x727.state,[],[])).bind fun (y797,y798,y799,y800,y801) =>
 (wAM (⟨y797,y798,y799⟩:wAF) (w64 (p3 + 1))).bind fun (x1667,x1668) =>
 (wBc 0 x1667 (fun k1736 (l1727,x1730,x1731,l1732) =>
  ((wAM (⟨l1727,x1730,x1731⟩:wAF) (↑y70.length:Int)).bind fun (x1833,x1834) =>
  (wAM x1834 (w64 ((↑y282.length:Int) + 1))).bind fun (x1847,x1848) =>
  (wAM x1848 (↑y800.length:Int)).bind fun (x1861,x1862) =>
  some (x1862.bytes,x1862.next,x1862.state,x1833,x1847,x1861)).bind fun (l1767,x1770,x1771,x1774,x1775,x1776) =>
  (chk x1776 y800.length).bind fun _ =>
  (idx y468 x1774).bind fun x2140 =>
  (idx x2140 x1775).bind fun x2156 =>
  (chk x1776 y801.length).bind fun _ =>
  (wAQ (⟨l1767,x1770,x1771⟩:wAF) (w64 (-((gd y800 x1776.toNat).Error))) ((gd y800 x1776.toNat).Error)).bind fun (x2171,x2172) =>
  if (w64 (-((gd y800 x1776.toNat).Error))) <= (w64 ((w64 ((max 0 (w64 ((w64 (x2156 + (gd y801 x1776.toNat))) + x2171))) - x2156)) - (gd y801 x1776.toNat))) then
   if (w64 ((w64 ((max 0 (w64 ((w64 (x2156 + (gd y801 x1776.toNat))) + x2171))) - x2156)) - (gd y801 x1776.toNat))) <= ((gd y800 x1776.toNat).Error) then
    (app 32 l1732 [(⟨x1774,x1775,x1776,max 0 (w64 ((w64 (x2156 + (gd y801 x1776.toNat))) + x2171))⟩:wAI)]).bind fun x2225 =>
    some (x2172.bytes,x2172.next,x2172.state,x2225)
   else
    some (x2172.bytes,x2172.next,x2172.state,l1732)
  else
   some (x2172.bytes,x2172.next,x2172.state,l1732)) (x1668.bytes,x1668.next,x1668.state,[])).bind fun (y1741,y1742,y1743,y1744) =>
 some ((⟨y70,y282,y800,y1744⟩:wAD),y468,y801,(⟨y1741,y1742,y1743⟩:wAF))
def wBm (p0:List Int):Option ((List Int)) :=
 (app 8 ([]:List Int) p0).bind fun x4 =>
 some x4
def wBK (p0:List wAG):Option ((List wAG)) :=
 (app 16 ([]:List wAG) p0).bind fun x4 =>
 some x4
def wBB (p0:List wAK):Option ((List wAK)) :=
 (app 24 ([]:List wAK) p0).bind fun x4 =>
 some x4
def wAt (p0:List wAI):Option ((List wAI)) :=
 (app 32 ([]:List wAI) p0).bind fun x4 =>
 some x4
def wAo (p0:wAD):Option (wAD) :=
 (wBm p0.Starts).bind fun x11 =>
 (wBK p0.Splits).bind fun x25 =>
 (wBB p0.Clocks).bind fun x40 =>
 (wAt p0.Readings).bind fun x56 =>
 some (⟨x11,x25,x40,x56⟩:wAD)
def wAy (p0:wAF) (p1:Int):Option (Bool × wAF) :=
 (wAM p0 p1).bind fun (x2,x3) =>
 some (decide (x2=0),x3)
def wBd (p0:wAF) (p1:wAD):Option (wAD × wAF) :=
 (wAo p1).bind fun x10 =>
 (wBc 0 (↑x10.Readings.length:Int) (fun k61 (l55,l56,x59,x60) =>
  (wAy (⟨l56,x59,x60⟩:wAF) 5).bind fun (x89,x90) =>
  if x89=true then
   (chk (↑k61:Int) l55.length).bind fun _ =>
   (wAQ x90 (-400) 400).bind fun (x144,x145) =>
   some ((nA l55 k61 (⟨(gd l55 k61).Skier,(gd l55 k61).Mat,(gd l55 k61).Clock,max 0 (w64 (((gd l55 k61).Time) + x144))⟩:wAI)),x145.bytes,x145.next,x145.state)
  else
   some (l55,x90.bytes,x90.next,x90.state)) (x10.Readings,p0.bytes,p0.next,p0.state)).bind fun (y66,y67,y68,y69) =>
 some ((⟨x10.Starts,x10.Splits,x10.Clocks,y66⟩:wAD),(⟨y67,y68,y69⟩:wAF))
def wCD (p0:Int) (p1:Int):Option (Int) :=
 if p1 <= 0 then
  some 0
 else
  (rem p0 p1).bind fun x4 =>
  (rem (w64 (x4 + p1)) p1).bind fun x7 =>
  some x7
def wAm (p0:wAF) (p1:Int):Option ((List Int) × wAF) :=
 (wBc 0 (max 0 p1) (fun k19 l15 =>
  (app 8 l15 [(↑k19:Int)]).bind fun x47 =>
  some x47) []).bind fun y24 =>
 iter (fun (l95,x98,x99,l100,x101) =>
  if 0 < x101 then
   (wAM (⟨l95,x98,x99⟩:wAF) (w64 (x101 + 1))).bind fun (x120,x121) =>
   (chk x120 l100.length).bind fun _ =>
   (chk x101 l100.length).bind fun _ =>
   (chk x120 (nA l100 x101.toNat (gd l100 x120.toNat)).length).bind fun _ =>
   some (.inl (x121.bytes,x121.next,x121.state,(nA (nA l100 x101.toNat (gd l100 x120.toNat)) x120.toNat (gd l100 x101.toNat)),w64 (x101 - 1)))
  else
   esc (some (l100,(⟨l95,x98,x99⟩:wAF)))) big (p0.bytes,p0.next,p0.state,y24,w64 ((↑y24.length:Int) - 1))
def wAa (p0:Int) (p1:Int):Option (wAO) :=
 some (⟨p0,p1⟩:wAO)
def wBQ (p0:wAF) (p1:wAD):Option (wAO × wAF) :=
 (wAM p0 (↑p1.Starts.length:Int)).bind fun (x56,x57) =>
 (wAM x57 (w64 ((↑p1.Splits.length:Int) + 1))).bind fun (x71,x72) =>
 (wAa x56 x71).bind fun x85 =>
 some (x85,x72)
def wAz (p0:Int) (p1:Int) (p2:Int):Option (Bool) :=
 if p1 <= p0 then
  some (decide (p0 <= p2))
 else
  some false
def wCE (p0:List Int) (p1:(Int->Option Bool)):Option (Bool) :=
 jn (wEh 0 (↑p0.length:Int) (fun k2 _ =>
  (idx p0 (↑k2:Int)).bind fun x22 =>
  (p1 x22).bind fun x30 =>
  if x30=true then
   some (.inl ())
  else
   esc (some false)) ()) fun _ =>
 some true
def wCM (p0:Int):Option (Bool) :=
 (wAz p0 0 360000).bind fun x1 =>
 some x1
def wBR (p0:List wAG) (p1:(wAG->Option Bool)):Option (Bool) :=
 jn (wEh 0 (↑p0.length:Int) (fun k2 _ =>
  (idx p0 (↑k2:Int)).bind fun x22 =>
  (p1 x22).bind fun x37 =>
  if x37=true then
   some (.inl ())
  else
   esc (some false)) ()) fun _ =>
 some true
def wCN (p0:wAG) (p1:Int) (p2:Int):Option (Bool) :=
 if p0.Lo <= p0.Hi then
  if p1 <= p0.Lo then
   some (decide (p0.Hi <= p2))
  else
   some false
 else
  some false
def wCO (p0:wAG):Option (Bool) :=
 (wCN p0 0 360000).bind fun x5 =>
 some x5
def wBE (p0:List wAK) (p1:(wAK->Option Bool)):Option (Bool) :=
 jn (wEh 0 (↑p0.length:Int) (fun k2 _ =>
  (idx p0 (↑k2:Int)).bind fun x22 =>
  (p1 x22).bind fun x37 =>
  if x37=true then
   some (.inl ())
  else
   esc (some false)) ()) fun _ =>
 some true
def wCP (p0:wAK):Option (Bool) :=
 (wCN p0.Offset (-36000) 36000).bind fun x5 =>
 if x5=true then
  (wAz p0.Error 0 600).bind fun x17 =>
  some x17
 else
  some false
def wAl (p0:List wAI) (p1:(wAI->Option Bool)):Option (Bool) :=
 jn (wEh 0 (↑p0.length:Int) (fun k2 _ =>
  (idx p0 (↑k2:Int)).bind fun x22 =>
  (p1 x22).bind fun x37 =>
  if x37=true then
   some (.inl ())
  else
   esc (some false)) ()) fun _ =>
 some true
def wCQ (p0:wAI):Option (Bool) :=
 (wAz p0.Time 0 360000).bind fun x5 =>
 some x5
def wAd (p0:wAD) (p1:wAO):Option (Bool) :=
 (wAz p1.Skier 0 (w64 ((↑p0.Starts.length:Int) - 1))).bind fun x9 =>
 if x9=true then
  (wAz p1.Mat 0 (↑p0.Splits.length:Int)).bind fun x21 =>
  some x21
 else
  some false
def wCR (p0:wAI) (p1:wAD):Option (Bool) :=
 (wAd p1 (⟨p0.Skier,p0.Mat⟩:wAO)).bind fun x5 =>
 if x5=true then
  (wAz p0.Clock 0 (w64 ((↑p1.Clocks.length:Int) - 1))).bind fun x18 =>
  some x18
 else
  some false
def wCG (p0:wAD):Option (Int) :=
 (wAz (↑p0.Starts.length:Int) 1 8).bind fun x10 =>
 if x10=true then
  if 7 < (↑p0.Splits.length:Int) then
   some 2
  else
   if 4 < (↑p0.Clocks.length:Int) then
    some 2
   else
    if 40 < (↑p0.Readings.length:Int) then
     some 2
    else
     (wCE p0.Starts wCM).bind fun x35 =>
     if x35=true then
      (wBR p0.Splits wCO).bind fun x52 =>
      if x52=true then
       (wBE p0.Clocks wCP).bind fun x70 =>
       if x70=true then
        (wAl p0.Readings wCQ).bind fun x92 =>
        if x92=true then
         (wAl p0.Readings (fun x=>wCR x p0)).bind fun x116 =>
         if x116=true then
          some 0
         else
          some 1
        else
         some 3
       else
        some 3
      else
       some 3
     else
      some 3
 else
  some 2
def wBu :Option (wAL) :=
 some (⟨-1,0⟩:wAL)
def wBk {S E:Type} (f:S->wAJ->Option (S ⊕ E)) (s0:S) (p1:wAD):Option (S ⊕ E) :=
 jn (wEh 0 4 (fun k12 s10 =>
  (idx ([1,(↑p1.Splits.length:Int),(↑p1.Clocks.length:Int),(↑p1.Readings.length:Int)]:List Int) (↑k12:Int)).bind fun x33 =>
  (if (↑k12:Int)=2 then
   some (true,s10)
  else
   some (decide ((↑k12:Int)=3),s10)).bind fun (b37,s38) =>
  if b37=true then
   jn (wEh 0 1 (fun k78 s76 =>
    jn (wEh 0 x33 (fun k113 s111 =>
     (f s111 (⟨(↑k12:Int),(↑k78:Int),(↑k113:Int),true⟩:wAJ)).bind fun yr141 =>
     match yr141 with
     | .inl s151 =>
      (f s151 (⟨(↑k12:Int),(↑k78:Int),(↑k113:Int),false⟩:wAJ)).bind fun yr154 =>
      match yr154 with
      | .inl s164 =>
       some (.inl s164)
      | .inr s164 =>
       esc (esc (esc (some (.inr s164))))
     | .inr s151 =>
      esc (esc (esc (some (.inr s151))))) s76) fun y195 =>
    some (.inl y195)) s38) fun y219 =>
   some (.inl y219)
  else
   jn (wEh 0 (↑p1.Starts.length:Int) (fun k247 s245 =>
    jn (wEh 0 x33 (fun k282 s280 =>
     (f s280 (⟨(↑k12:Int),(↑k247:Int),(↑k282:Int),true⟩:wAJ)).bind fun yr310 =>
     match yr310 with
     | .inl s320 =>
      (f s320 (⟨(↑k12:Int),(↑k247:Int),(↑k282:Int),false⟩:wAJ)).bind fun yr323 =>
      match yr323 with
      | .inl s333 =>
       some (.inl s333)
      | .inr s333 =>
       esc (esc (esc (some (.inr s333))))
     | .inr s320 =>
      esc (esc (esc (some (.inr s320))))) s245) fun y364 =>
    some (.inl y364)) s38) fun y388 =>
   some (.inl y388)) s0) fun y409 =>
 some (.inl y409)
def wCe (p0:wAD):Option (Unit) :=
 some ()
def wDv (p0:wAD) (p1:wAJ):Option (Bool) :=
 (wAz p1.Skier 0 (w64 ((↑p0.Starts.length:Int) - 1))).bind fun x9 =>
 if x9=true then
  some (decide (p1.Index=0))
 else
  some false
def wDM (p0:wAD) (p1:wAJ):Option (wAL × wAL) :=
 ((wBu).bind fun x22 =>
 some (x22.skier,x22.mat)).bind fun (x17,x18) =>
 some ((⟨x17,x18⟩:wAL),(⟨p1.Skier,0⟩:wAL))
def wDN (p0:wAD) (p1:wAJ):Option (Int × Int) :=
 (idx p0.Starts p1.Skier).bind fun x11 =>
 some (x11,w64 (-x11))
def wDw (p0:wAD) (p1:wAJ):Option (Bool) :=
 (wAz p1.Skier 0 (w64 ((↑p0.Starts.length:Int) - 1))).bind fun x9 =>
 if x9=true then
  (wAz p1.Index 0 (w64 ((↑p0.Splits.length:Int) - 1))).bind fun x21 =>
  some x21
 else
  some false
def wDO (p0:wAD) (p1:wAJ):Option (wAL × wAL) :=
 (some ()).bind fun _ =>
 some ((⟨p1.Skier,p1.Index⟩:wAL),(⟨p1.Skier,w64 (p1.Index + 1)⟩:wAL))
def wDP (p0:wAD) (p1:wAJ):Option (Int × Int) :=
 (idx p0.Splits p1.Index).bind fun x11 =>
 some (x11.Hi,w64 (-x11.Lo))
def wDx (p0:wAD) (p1:wAJ):Option (Bool) :=
 if p1.Skier=0 then
  (wAz p1.Index 0 (w64 ((↑p0.Clocks.length:Int) - 1))).bind fun x11 =>
  some x11
 else
  some false
def wCS (p0:Int):Option (wAL) :=
 some (⟨-1,w64 (1 + p0)⟩:wAL)
def wDQ (p0:wAD) (p1:wAJ):Option (wAL × wAL) :=
 (wBu).bind fun x19 =>
 (wCS p1.Index).bind fun x29 =>
 some (x19,x29)
def wDR (p0:wAD) (p1:wAJ):Option (Int × Int) :=
 (idx p0.Clocks p1.Index).bind fun x11 =>
 some (w64 (-x11.Offset.Lo),x11.Offset.Hi)
def wDg (p0:wAD) (p1:wAJ):Option (Bool) :=
 if p1.Skier=0 then
  (wAz p1.Index 0 (w64 ((↑p0.Readings.length:Int) - 1))).bind fun x11 =>
  some x11
 else
  some false
def wDA (p0:wAD) (p1:wAJ):Option (wAL × wAL) :=
 (idx p0.Readings p1.Index).bind fun x17 =>
 ((wCS x17.Clock).bind fun x36 =>
 some (x36.skier,x36.mat)).bind fun (x31,x32) =>
 some ((⟨x31,x32⟩:wAL),(⟨x17.Skier,x17.Mat⟩:wAL))
def wDB (p0:wAD) (p1:wAJ):Option (Int × Int) :=
 (idx p0.Readings p1.Index).bind fun x9 =>
 (idx p0.Clocks x9.Clock).bind fun x25 =>
 some (w64 (x9.Time + x25.Error),w64 (x25.Error - x9.Time))
def wBF :Option (Unit) :=
 some ()
def wBG (p0:wAD) (p1:wAJ):Option (wAL × wAL × Int) :=
 if p1.Kind=0 then
  ((wBF).bind fun _ =>
  some ()).bind fun _ =>
  (wDM p0 p1).bind fun (x92,x93) =>
  (wDN p0 p1).bind fun (x113,x114) =>
  if p1.Up=true then
   (some ()).bind fun _ =>
   some (x92,x93,x113)
  else
   some (x93,x92,x114)
 else
  if p1.Kind=1 then
   ((wBF).bind fun _ =>
   some ()).bind fun _ =>
   (wDO p0 p1).bind fun (x251,x252) =>
   (wDP p0 p1).bind fun (x272,x273) =>
   if p1.Up=true then
    (some ()).bind fun _ =>
    some (x251,x252,x272)
   else
    some (x252,x251,x273)
  else
   if p1.Kind=2 then
    ((wBF).bind fun _ =>
    some ()).bind fun _ =>
    (wDQ p0 p1).bind fun (x410,x411) =>
    (wDR p0 p1).bind fun (x431,x432) =>
    if p1.Up=true then
     (some ()).bind fun _ =>
     some (x410,x411,x431)
    else
     some (x411,x410,x432)
   else
    if p1.Kind=3 then
     ((wBF).bind fun _ =>
     some ()).bind fun _ =>
     (wDA p0 p1).bind fun (x569,x570) =>
     (wDB p0 p1).bind fun (x590,x591) =>
     if p1.Up=true then
      (some ()).bind fun _ =>
      some (x569,x570,x590)
     else
      some (x570,x569,x591)
    else
     (wBF).bind fun _ =>
     none
def wCf (p0:wAD):Option (wAY) :=
 ((wBu).bind fun x22 =>
 some (wFU ([]:List (wAL × Int)) x22 0)).bind fun l13 =>
 (wCe p0).bind fun _ =>
 (wBk (S:=(List wAX) × (List (wAL × Int))) (E:=Empty) (fun (l1591,l1595) x1616 =>
  (wBG p0 x1616).bind fun (x1652,x1653,x1654) =>
  (wBc 0 2 (fun k1692 l1689 =>
   (idx ([x1652,x1653]:List wAL) (↑k1692:Int)).bind fun x1718 =>
   if (wJD l1689 x1718)=true then
    some l1689
   else
    some (wFU l1689 x1718 (↑(l1689.length):Int))) l1595).bind fun y1697 =>
  (app 56 l1591 [(⟨x1616,(wAw y1697 x1652 0),(wAw y1697 x1653 0),x1654⟩:wAX)]).bind fun x1773 =>
  some (.inl (x1773,y1697))) ([],l13) p0).bind fun rr1606 =>
 match rr1606 with
 | .inl (y1845,y1846) =>
  some (⟨p0,y1846,y1845⟩:wAY)
 | .inr e1851 =>
  e1851.elim
def wBp (p0:wAD):Option ((Option wAY) × Int) :=
 (wCG p0).bind fun x5 =>
 if x5=0 then
  (wCf p0).bind fun x21 =>
  some ((some x21),0)
 else
  some (none,x5)
def wAu (p0:List wAO) (p1:(wAO->Option Bool)):Option (Bool) :=
 jn (wEh 0 (↑p0.length:Int) (fun k2 _ =>
  (idx p0 (↑k2:Int)).bind fun x22 =>
  (p1 x22).bind fun x37 =>
  if x37=true then
   some (.inl ())
  else
   esc (some false)) ()) fun _ =>
 some true
def wDC (p0 p1:Int):Option (Int × Int):=if 0 <= p0/\p0 < 18446744073709551616/\0 <= p1/\p1 < 18446744073709551616 then some (p0 * p1 / 18446744073709551616,p0 * p1 % 18446744073709551616) else none
def wAv (p0:List Int) (p1:Int):Option ((List Int)) :=
 if p1 < 0 then
  none
 else
  (wDC (wKE (↑p0.length:Int)) (wKE p1)).bind fun (x4,x5) =>
  (if 0 < x4 then
   some true
  else
   some (decide (9223372036854775807 < x5))).bind fun b15 =>
  if b15=true then
   none
  else
   (mkz 8 (w64 x5) (0:Int)).bind fun x35 =>
   (wKF x35 0 p0).bind fun x45 =>
   iter (fun (l58,x59) =>
    if x59 < (↑l58.length:Int) then
     (cut l58 x59 (↑(l58.length):Int)).bind fun x77 =>
     (cut l58 0 x59).bind fun x86 =>
     (wKF l58 x59 x86).bind fun x95 =>
     some (.inl (x95,w64 (x59 + (↑(min x86.length (x77.length)):Int))))
    else
     esc (some l58)) big (x45,(↑(min p0.length (x35.length)):Int))
def wAb (p0:wAY) (p1:Int) (p2:Bool):Option (wCy × Int × Bool) :=
 ((wAv [1125899906842624] (↑(p0.number.length):Int)).bind fun x28 =>
 (wAv [-1] (↑(p0.number.length):Int)).bind fun x51 =>
 some (x28,x51)).bind fun (l9,l12) =>
 (wBc 0 (↑l9.length:Int) (fun k1254 l1253 =>
  if p1 < 0 then
   (chk (↑k1254:Int) l1253.length).bind fun _ =>
   some (nA l1253 k1254 0)
  else
   if (↑k1254:Int)=p1 then
    (chk (↑k1254:Int) l1253.length).bind fun _ =>
    some (nA l1253 k1254 0)
   else
    some l1253) l9).bind fun y1259 =>
 jn (wEh 0 (w64 ((↑(p0.number.length):Int) + 1)) (fun k1336 (l1333,l1334,x1335) =>
  (wBc 0 (↑p0.edges.length:Int) (fun k1375 (l1372,l1373,x1374) =>
   ((idx p0.edges (↑k1375:Int)).bind fun x1412 =>
   if p2=true then
    (chk x1412.to_ l1372.length).bind fun _ =>
    if (gd l1372 x1412.to_.toNat) < 1125899906842624 then
     (chk x1412.from_ l1372.length).bind fun _ =>
     if (w64 ((gd l1372 x1412.to_.toNat) + x1412.count)) < (gd l1372 x1412.from_.toNat) then
      ((chk x1412.from_ l1373.length).bind fun _ =>
      some ()).bind fun _ =>
      some ((nA l1372 x1412.from_.toNat (w64 ((gd l1372 x1412.to_.toNat) + x1412.count))),(nA l1373 x1412.from_.toNat (↑k1375:Int)),x1412.from_)
     else
      some (l1372,l1373,x1374)
    else
     some (l1372,l1373,x1374)
   else
    (chk x1412.from_ l1372.length).bind fun _ =>
    if (gd l1372 x1412.from_.toNat) < 1125899906842624 then
     (chk x1412.to_ l1372.length).bind fun _ =>
     if (w64 ((gd l1372 x1412.from_.toNat) + x1412.count)) < (gd l1372 x1412.to_.toNat) then
      ((chk x1412.to_ l1373.length).bind fun _ =>
      some ()).bind fun _ =>
      some ((nA l1372 x1412.to_.toNat (w64 ((gd l1372 x1412.from_.toNat) + x1412.count))),(nA l1373 x1412.to_.toNat (↑k1375:Int)),x1412.to_)
     else
      some (l1372,l1373,x1374)
    else
     some (l1372,l1373,x1374)).bind fun (l1406,l1407,x1408) =>
   some (l1406,l1407,x1408)) (l1333,l1334,-1)).bind fun (y1380,y1381,y1382) =>
  if y1382 < 0 then
   esc (some ((⟨y1380,y1381⟩:wCy),0,true))
  else
   some (.inl (y1380,y1381,y1382))) (y1259,l12,-1)) fun (y1697,y1698,y1699) =>
 some ((⟨y1697,y1698⟩:wCy),y1699,false)
def wAn (p0:wAY):Option (Bool) :=
 (wAb p0 (-1) false).bind fun (x3,x4,x5) =>
 some x5
def wCa (p0:wAD) (p1:List wAO):Option ((Option wAY) × Int) :=
 (wBp p0).bind fun (x5,x6) =>
 match x5 with
 | none =>
  if x6=0 then
   (wAu p1 (fun x=>wAd p0 x)).bind fun x40 =>
   if x40=true then
    none
   else
    some (none,1)
  else
   some (none,x6)
 | some x30 =>
  if x6=0 then
   (wAu p1 (fun x=>wAd p0 x)).bind fun x71 =>
   if x71=true then
    (wAn x30).bind fun x96 =>
    if x96=true then
     some ((some x30),0)
    else
     some (none,7)
   else
    some (none,1)
  else
   some (none,x6)
def wCb (p0:wAO):Option (wAL) :=
 some (⟨p0.Skier,p0.Mat⟩:wAL)
def wBD (p0:wAY) (p1:wAL) (p2:wAL):Option (wAG) :=
 ((wAb p0 (wAw p0.number p1 0) false).bind fun (x26,x27,x28) =>
 some (x26.far,x26.by_)).bind fun (l17,l20) =>
 ((wAb p0 (wAw p0.number p2 0) false).bind fun (x145,x146,x147) =>
 some (x145.far,x145.by_)).bind fun (l131,l134) =>
 (chk (wAw p0.number p1 0) l131.length).bind fun _ =>
 (chk (wAw p0.number p2 0) l17.length).bind fun _ =>
 some (⟨w64 (-(gd l131 (wAw p0.number p1 0).toNat)),(gd l17 (wAw p0.number p2 0).toNat)⟩:wAG)
def wBH (p0:wAD) (p1:wAO):Option (wAG × Int) :=
 (wCa p0 [p1]).bind fun (x27,x28) =>
 match x27 with
 | none =>
  if x28=0 then
   (wBu).bind fun x58 =>
   (wCb p1).bind fun x68 =>
   none
  else
   some ((⟨0,0⟩:wAG),x28)
 | some x52 =>
  if x28=0 then
   (wBu).bind fun x95 =>
   (wCb p1).bind fun x105 =>
   (wBD x52 x95 x105).bind fun x125 =>
   some (x125,0)
  else
   some ((⟨0,0⟩:wAG),x28)
def wDD (p0:wAD) (p1:Int):Option ((Option wAY) × Int) :=
 (wCa p0 [(⟨0,p1⟩:wAO)]).bind fun (x19,x20) =>
 match x19 with
 | none =>
  some (none,x20)
 | some x44 =>
  some ((some x44),x20)
def wBe (p0:wAY) (p1:Int):Option ((Arr Int 64)) :=
 (wBc 0 (↑p0.Race.Starts.length:Int) (fun k19 a18 =>
  (wAb p0 (wAw p0.number (⟨(↑k19:Int),p1⟩:wAL) 0) false).bind fun (x47,x48,x49) =>
  (wBc 0 (↑p0.Race.Starts.length:Int) (fun k79 a78 =>
   (chk (wAw p0.number (⟨(↑k79:Int),p1⟩:wAL) 0) x47.far.length).bind fun _ =>
   (chk (↑k19:Int) 8).bind fun _ =>
   (chk (↑k79:Int) 8).bind fun _ =>
   some (a78.set (k19 * 8 + k79) (gd x47.far (wAw p0.number (⟨(↑k79:Int),p1⟩:wAL) 0).toNat))) a18).bind fun y84 =>
  some y84) (Arr.fill 64 0)).bind fun y24 =>
 some y24
def wBU (p0:wAD) (p1:Int):Option ((List wAG) × Int) :=
 (wDD p0 p1).bind fun (x5,x6) =>
 match x5 with
 | none =>
  if x6=0 then
   none
  else
   some ([],x6)
 | some x30 =>
  if x6=0 then
   (wBe x30 p1).bind fun x48 =>
   (wBc 0 (↑p0.Starts.length:Int) (fun k83 l79 =>
    (wBc 0 (↑p0.Starts.length:Int) (fun k124 (x122,x123) =>
     (chk (↑k83:Int) 8).bind fun _ =>
     (chk (↑k124:Int) 8).bind fun _ =>
     if (x48.get (k83 * 8 + k124)) < 0 then
      if 0 < (x48.get (k124 * 8 + k83)) then
       some (w64 (x122 + 1),w64 (x123 + 1))
      else
       some (w64 (x122 + 1),x123)
     else
      if 0 < (x48.get (k124 * 8 + k83)) then
       some (x122,w64 (x123 + 1))
      else
       some (x122,x123)) (1,1)).bind fun (y129,y130) =>
    (app 16 l79 [(⟨y129,y130⟩:wAG)]).bind fun x207 =>
    some x207) []).bind fun y88 =>
   some (y88,0)
  else
   some ([],x6)
def wAi (p0:List wAG) (p1:List wAG):Option (Bool) :=
 if (↑p0.length:Int)=(↑p1.length:Int) then
  jn (wEh 0 (↑p0.length:Int) (fun k4 _ =>
   (idx p0 (↑k4:Int)).bind fun x26 =>
   (idx p1 (↑k4:Int)).bind fun x34 =>
   if x26=x34 then
    some (.inl ())
   else
    esc (some false)) ()) fun _ =>
  some true
 else
  some false
def wAp :Option (wAD) :=
 some (⟨[0,300],[(⟨1000,1200⟩:wAG),(⟨900,1500⟩:wAG)],[(⟨(⟨-5,5⟩:wAG),1⟩:wAK)],[(⟨0,2,0,2250⟩:wAI),(⟨1,1,0,1400⟩:wAI),(⟨1,2,0,2499⟩:wAI)]⟩:wAD)
def wFZ (p0:wAD) (p1:wAO) (p2:wAO):Option (wAG × Int) :=
 (wCa p0 [p1,p2]).bind fun (x31,x32) =>
 match x31 with
 | none =>
  if x32=0 then
   (wCb p1).bind fun x62 =>
   (wCb p2).bind fun x72 =>
   none
  else
   some ((⟨0,0⟩:wAG),x32)
 | some x56 =>
  if x32=0 then
   (wCb p1).bind fun x99 =>
   (wCb p2).bind fun x109 =>
   (wBD x56 x99 x109).bind fun x129 =>
   some (x129,0)
  else
   some ((⟨0,0⟩:wAG),x32)
def wBq (p0:wAD) (p1:wAJ):Option (Bool) :=
 if p1.Kind=0 then
  (wAz p1.Kind 0 3).bind fun x16 =>
  if x16=true then
   (wBF).bind fun _ =>
   (wDv p0 p1).bind fun x45 =>
   some x45
  else
   some false
 else
  if p1.Kind=1 then
   (wAz p1.Kind 0 3).bind fun x67 =>
   if x67=true then
    (wBF).bind fun _ =>
    (wDw p0 p1).bind fun x96 =>
    some x96
   else
    some false
  else
   if p1.Kind=2 then
    (wAz p1.Kind 0 3).bind fun x118 =>
    if x118=true then
     (wBF).bind fun _ =>
     (wDx p0 p1).bind fun x147 =>
     some x147
    else
     some false
   else
    if p1.Kind=3 then
     (wAz p1.Kind 0 3).bind fun x169 =>
     if x169=true then
      (wBF).bind fun _ =>
      (wDg p0 p1).bind fun x198 =>
      some x198
     else
      some false
    else
     (wAz p1.Kind 0 3).bind fun x220 =>
     if x220=true then
      (wBF).bind fun _ =>
      none
     else
      some false
def wCI (p0:List wAJ) (p1:(wAJ->Option Bool)):Option (Bool) :=
 jn (wEh 0 (↑p0.length:Int) (fun k2 _ =>
  (idx p0 (↑k2:Int)).bind fun x22 =>
  (p1 x22).bind fun x37 =>
  if x37=true then
   some (.inl ())
  else
   esc (some false)) ()) fun _ =>
 some true
def wCJ (p0:wAD) (p1:List wAJ):Option (Int) :=
 if 80 < (↑p1.length:Int) then
  some 2
 else
  (wCI p1 (fun x=>wBq p0 x)).bind fun x9 =>
  if x9=true then
   some 0
  else
   some 1
def wCX (p0:wAD) (p1:wAL) (p2:List wAJ):Option (wAL × Int × Bool) :=
 jn (wEh 0 (↑p2.length:Int) (fun k27 (x24,x25,x26) =>
  (idx p2 (↑k27:Int)).bind fun x50 =>
  (wBG p0 x50).bind fun (x69,x70,x71) =>
  if x69=(⟨x24,x25⟩:wAL) then
   some (.inl (x70.skier,x70.mat,w64 (x26 + x71)))
  else
   esc (some ((⟨x24,x25⟩:wAL),0,false))) (p1.skier,p1.mat,0)) fun (y114,y115,y116) =>
 some ((⟨y114,y115⟩:wAL),y116,true)
def wEH (p0:wAD) (p1:wAO) (p2:wAO) (p3:List wAJ):Option (Int × Int) :=
 (wCG p0).bind fun x13 =>
 if x13=0 then
  (wAd p0 p1).bind fun x29 =>
  if x29=true then
   (wAd p0 p2).bind fun x45 =>
   if x45=true then
    (wCJ p0 p3).bind fun x64 =>
    if x64=0 then
     ((wCb p1).bind fun x85 =>
     (wCX p0 x85 p3).bind fun (x105,x106,x107) =>
     some (x105.skier,x105.mat,x106,x107)).bind fun (x78,x79,x80,b81) =>
     if b81=true then
      (wCb p2).bind fun x256 =>
      if (⟨x78,x79⟩:wAL)=x256 then
       some (x80,0)
      else
       some (0,8)
     else
      some (0,8)
    else
     some (0,x64)
   else
    some (0,1)
  else
   some (0,1)
 else
  some (0,x13)
def wCK (p0:wAI) (p1:Int) (p2:Int):Option (Bool) :=
 some (decide ((⟨p0.Skier,p0.Mat⟩:wAO)=(⟨p1,p2⟩:wAO)))
def wAk (p0:List wAI) (p1:(wAI->Option Bool)):Option (Int) :=
 jn (wEh 0 (↑p0.length:Int) (fun k2 _ =>
  (idx p0 (↑k2:Int)).bind fun x22 =>
  (p1 x22).bind fun x30 =>
  if x30=true then
   esc (some (↑k2:Int))
  else
   some (.inl ())) ()) fun _ =>
 some (-1)
def wAf (p0:List wAI) (p1:(wAI->Option Bool)):Option (Bool) :=
 (wAk p0 p1).bind fun x1 =>
 some (decide (0 <= x1))
def wDy (p0:wAD):Option ((List wAO) × Int) :=
 (wCG p0).bind fun x5 =>
 if x5=0 then
  (wBc 0 (↑p0.Starts.length:Int) (fun k34 l30 =>
   iter (fun (l91,x95) =>
    if x95 <= (↑p0.Splits.length:Int) then
     (wAf p0.Readings (fun x=>wCK x (↑k34:Int) x95)).bind fun x127 =>
     if x127=true then
      some (.inl (l91,w64 (x95 + 1)))
     else
      (app 16 l91 [(⟨(↑k34:Int),x95⟩:wAO)]).bind fun x163 =>
      some (.inl (x163,w64 (x95 + 1)))
    else
     esc (some l91)) big (l30,1)) []).bind fun y39 =>
  some (y39,0)
 else
  some ([],x5)
def wBf (p0:List wAO) (p1:List wAO):Option (Bool) :=
 if (↑p0.length:Int)=(↑p1.length:Int) then
  jn (wEh 0 (↑p0.length:Int) (fun k4 _ =>
   (idx p0 (↑k4:Int)).bind fun x26 =>
   (idx p1 (↑k4:Int)).bind fun x34 =>
   if x26=x34 then
    some (.inl ())
   else
    esc (some false)) ()) fun _ =>
  some true
 else
  some false
def wBI :Option (wAD) :=
 (wAp).bind fun x5 =>
 (chk 1 x5.Readings.length).bind fun _ =>
 some (⟨x5.Starts,x5.Splits,x5.Clocks,(nA x5.Readings 1 (⟨(gd x5.Readings 1).Skier,(gd x5.Readings 1).Mat,(gd x5.Readings 1).Clock,1700⟩:wAI))⟩:wAD)
def wDX (p0:wAY) (p1:List Int):Option ((List (List Int)) × (List Int)) :=
 (idx p1 0).bind fun x3 =>
 (wBc 0 (↑p0.Race.Starts.length:Int) (fun k31 l26 =>
  (wBc 0 (w64 ((↑p0.Race.Splits.length:Int) + 1)) (fun k74 l70 =>
   (idx p1 (wAw p0.number (⟨(↑k31:Int),(↑k74:Int)⟩:wAL) 0)).bind fun x103 =>
   (app 8 l70 [w64 (x103 - x3)]).bind fun x117 =>
   some x117) []).bind fun y79 =>
  (app 24 l26 [y79]).bind fun x161 =>
  some x161) []).bind fun y36 =>
 (wBc 0 (↑p0.Race.Clocks.length:Int) (fun k215 l211 =>
  (wCS (↑k215:Int)).bind fun x243 =>
  (idx p1 (wAw p0.number x243 0)).bind fun x253 =>
  (app 8 l211 [w64 (x3 - x253)]).bind fun x268 =>
  some x268) []).bind fun y220 =>
 some (y36,y220)
def wEV (p0:wAD):Option ((List (List Int)) × (List Int) × Int) :=
 (wBp p0).bind fun (x5,x6) =>
 match x5 with
 | none =>
  if x6=0 then
   none
  else
   some ([],[],x6)
 | some x30 =>
  if x6=0 then
   (wAb x30 (-1) false).bind fun (x59,x60,x61) =>
   if x61=true then
    (wDX x30 x59.far).bind fun (x101,x102) =>
    some (x101,x102,0)
   else
    some ([],[],7)
  else
   some ([],[],x6)
def wDz (p0:wAD) (p1:List wAJ):Option (Int × Int) :=
 (wCG p0).bind fun x5 =>
 if x5=0 then
  (wCJ p0 p1).bind fun x22 =>
  if x22=0 then
   if (↑p1.length:Int)=0 then
    some (0,8)
   else
    ((idx p1 0).bind fun x44 =>
    (wBG p0 x44).bind fun (x56,x57,x58) =>
    some (x56.skier,x56.mat)).bind fun (x39,x40) =>
    (wCX p0 (⟨x39,x40⟩:wAL) p1).bind fun (x279,x280,x281) =>
    if x281=true then
     if x279=(⟨x39,x40⟩:wAL) then
      if 0 <= x280 then
       some (0,8)
      else
       some (x280,0)
     else
      some (0,8)
    else
     some (0,8)
  else
   some (0,x22)
 else
  some (0,x5)
def wCl (p0:Int) (p1:wAI) (p2:Int):Option (Bool) :=
 some (decide (p0=p2))
def wBl (p0:wAD) (p1:((Int × wAI)->Option Bool)):Option (wAY) :=
 (mkz 32 (↑p0.Readings.length:Int) (⟨0,0,0,0⟩:wAI)).bind fun x5 =>
 (wKF x5 0 p0.Readings).bind fun x13 =>
 (wBc 0 (↑x13.length:Int) (fun k34 (l32,k33) =>
  (chk (↑k34:Int) l32.length).bind fun _ =>
  (p1 ((↑k34:Int),(gd l32 k34))).bind fun x68 =>
  if x68=true then
   some (l32,k33)
  else
   (chk (((k33):Nat):Int) l32.length).bind fun _ =>
   some ((nA l32 k33 (gd l32 k34)),(k33 + 1))) (x13,0)).bind fun (y39,y40) =>
 (cut y39 0 ((y40:Nat):Int)).bind fun x114 =>
 (wCf (⟨p0.Starts,p0.Splits,p0.Clocks,x114⟩:wAD)).bind fun x130 =>
 some x130
def wCm (p0:Int) (p1:wAI) (p2:Int) (p3:Int):Option (Bool) :=
 if p0=p2 then
  some true
 else
  some (decide (p0=p3))
def wEW (p0:wAD):Option ((List Int) × Int) :=
 (wBp p0).bind fun (x5,x6) =>
 match x5 with
 | none =>
  if x6=0 then
   none
  else
   some ([],x6)
 | some x30 =>
  if x6=0 then
   (wAn x30).bind fun x57 =>
   if x57=true then
    some ([],0)
   else
    jn (wEh 0 (↑p0.Readings.length:Int) (fun k73 _ =>
     (wBl p0 (fun x=>wCl x.1 x.2 (↑k73:Int))).bind fun x126 =>
     (wAn x126).bind fun x167 =>
     if x167=true then
      esc (some ([(↑k73:Int)],0))
     else
      some (.inl ())) ()) fun _ =>
    jn (wEh 0 (↑p0.Readings.length:Int) (fun k204 _ =>
     iter (fun x250 =>
      if x250 < (↑p0.Readings.length:Int) then
       (wBl p0 (fun x=>wCm x.1 x.2 (↑k204:Int) x250)).bind fun x309 =>
       (wAn x309).bind fun x350 =>
       if x350=true then
        esc (esc (some ([(↑k204:Int),x250],0)))
       else
        some (.inl (w64 (x250 + 1)))
      else
       esc (some (.inl ()))) big (↑(k204 + 1):Int)) ()) fun _ =>
    some ([],10)
  else
   some ([],x6)
def wCn (p0:Int) (p1:wAI) (p2:Int):Option (Bool) :=
 some (decide (p1.Skier=p2))
def wEX (p0:wAD):Option ((List Int) × Int) :=
 (wBp p0).bind fun (x5,x6) =>
 match x5 with
 | none =>
  if x6=0 then
   none
  else
   some ([],x6)
 | some x30 =>
  if x6=0 then
   (wAn x30).bind fun x57 =>
   if x57=true then
    some ([],6)
   else
    (wBc 0 (↑p0.Starts.length:Int) (fun k89 l85 =>
     (wBl p0 (fun x=>wCn x.1 x.2 (↑k89:Int))).bind fun x145 =>
     (wAn x145).bind fun x186 =>
     if x186=true then
      (app 8 l85 [(↑k89:Int)]).bind fun x206 =>
      some x206
     else
      some l85) []).bind fun y94 =>
    some (y94,0)
  else
   some ([],x6)
def wBn (p0:List Int) (p1:List Int):Option (Bool) :=
 if (↑p0.length:Int)=(↑p1.length:Int) then
  jn (wEh 0 (↑p0.length:Int) (fun k4 _ =>
   (idx p0 (↑k4:Int)).bind fun x26 =>
   (idx p1 (↑k4:Int)).bind fun x34 =>
   if x26=x34 then
    some (.inl ())
   else
    esc (some false)) ()) fun _ =>
  some true
 else
  some false
def wBx :Option (Bool) :=
 (wAp).bind fun x1 =>
 (wAa 0 2).bind fun x23 =>
 (wBH x1 x23).bind fun (x59,x60) =>
 (wAp).bind fun x77 =>
 (wAa 0 1).bind fun x99 =>
 (wBH x77 x99).bind fun (x135,x136) =>
 (wAp).bind fun x153 =>
 (wAa 0 2).bind fun x175 =>
 (wAa 1 2).bind fun x185 =>
 (wFZ x153 x175 x185).bind fun (x221,x222) =>
 (wAp).bind fun x239 =>
 (wAa 0 2).bind fun x261 =>
 (wAa 1 2).bind fun x271 =>
 (wEH x239 x261 x271 [(⟨3,0,0,false⟩:wAJ),(⟨3,0,2,true⟩:wAJ)]).bind fun (x321,x322) =>
 (wAp).bind fun x342 =>
 (wBU x342 2).bind fun (x390,x391) =>
 (wAp).bind fun x404 =>
 (wDy x404).bind fun (x452,x453) =>
 (if x60=0 then
  if x136=0 then
   if x222=0 then
    if x322=0 then
     if x391=0 then
      if x453=0 then
       if x59=(⟨2244,2256⟩:wAG) then
        if x135=(⟨1000,1200⟩:wAG) then
         if x221=(⟨247,251⟩:wAG) then
          if x321=251 then
           (wAi x390 [(⟨1,1⟩:wAG),(⟨2,2⟩:wAG)]).bind fun x506 =>
           if x506=true then
            (wAa 0 1).bind fun x518 =>
            (wBf x452 [x518]).bind fun x544 =>
            some (!x544)
           else
            some true
          else
           some true
         else
          some true
        else
         some true
       else
        some true
      else
       some true
     else
      some true
    else
     some true
   else
    some true
  else
   some true
 else
  some true).bind fun b466 =>
 if b466=true then
  some false
 else
  (wBI).bind fun x586 =>
  (wEV x586).bind fun (x634,x635,x636) =>
  (wBI).bind fun x654 =>
  (wDz x654 [(⟨0,1,0,true⟩:wAJ),(⟨1,1,0,true⟩:wAJ),(⟨3,0,1,false⟩:wAJ),(⟨2,0,0,false⟩:wAJ)]).bind fun (x716,x717) =>
  (wBI).bind fun x727 =>
  (wEW x727).bind fun (x775,x776) =>
  (wBI).bind fun x789 =>
  (wEX x789).bind fun (x837,x838) =>
  if x636=7 then
   if x717=0 then
    if x776=0 then
     if x838=0 then
      if x716=(-194) then
       (wBn x775 [1]).bind fun x886 =>
       if x886=true then
        (wBn x837 [1]).bind fun x914 =>
        some x914
       else
        some false
      else
       some false
     else
      some false
    else
     some false
   else
    some false
  else
   some false
def wBb (p0:List Int) (p1:List Int) (p2:List Int) (p3:Int):Option (Bool) :=
 (wBW p0).bind fun x1 =>
 (wBj x1 5 4 8).bind fun (x16,x17,x18,x19) =>
 ((wBW p1).bind fun x88 =>
 (wBd x88 x16).bind fun (x133,x134) =>
 some (x16.Starts,x16.Splits,x16.Clocks,x16.Readings,x133.Starts,x133.Splits,x133.Clocks,x133.Readings)).bind fun (l57,l60,l63,l66,l71,l74,l77,l80) =>
 (wBW p2).bind fun x489 =>
 (wCD p3 5000).bind fun x504 =>
 (wAm x489 (↑l71.length:Int)).bind fun (x515,x516) =>
 ((wAo (⟨l71,l74,l77,l80⟩:wAD)).bind fun x736 =>
 (wAo (⟨l71,l74,l77,l80⟩:wAD)).bind fun x762 =>
 (wAo (⟨l71,l74,l77,l80⟩:wAD)).bind fun x788 =>
 some (l71,l74,l77,l80,x788.Starts,x788.Splits,x788.Clocks,x788.Readings,x788.Starts,x788.Splits,x788.Clocks,x788.Readings,x788.Starts,x788.Splits,x788.Clocks,x788.Readings)).bind fun (l532,l535,l538,l541,l546,l549,l552,l555,l560,l563,l566,l569,l574,l577,l580,l583) =>
 (wBc 0 (↑x515.length:Int) (fun k1288 l1287 =>
  (chk (↑k1288:Int) x515.length).bind fun _ =>
  (idx l532 (↑k1288:Int)).bind fun x1323 =>
  (chk (gd x515 k1288) l1287.length).bind fun _ =>
  some (nA l1287 (gd x515 k1288).toNat x1323)) l546).bind fun y1293 =>
 (wAm x516 (↑l541.length:Int)).bind fun (x1362,x1363) =>
 (wBc 0 (↑x1362.length:Int) (fun k1396 l1392 =>
  (chk (↑k1396:Int) x1362.length).bind fun _ =>
  (idx l541 (gd x1362 k1396)).bind fun x1430 =>
  (chk x1430.Skier x515.length).bind fun _ =>
  (app 32 l1392 [(⟨(gd x515 x1430.Skier.toNat),x1430.Mat,x1430.Clock,x1430.Time⟩:wAI)]).bind fun x1460 =>
  some x1460) []).bind fun y1401 =>
 (wBc 0 (↑l560.length:Int) (fun k1502 l1501 =>
  (chk (↑k1502:Int) l1501.length).bind fun _ =>
  some (nA l1501 k1502 (w64 ((gd l1501 k1502) + x504)))) l560).bind fun y1507 =>
 (wBc 0 (↑l569.length:Int) (fun k1568 (l1566,l1567) =>
  (chk (↑k1568:Int) l1566.length).bind fun _ =>
  (chk (↑k1568:Int) l1567.length).bind fun _ =>
  some ((nA l1566 k1568 (⟨(gd l1566 k1568).Skier,(gd l1566 k1568).Mat,(gd l1566 k1568).Clock,w64 (((gd l1566 k1568).Time) + x504)⟩:wAI)),(nA l1567 k1568 (⟨(gd l1567 k1568).Skier,(gd l1567 k1568).Mat,(gd l1567 k1568).Clock,w64 (((gd l1567 k1568).Time) + x504)⟩:wAI)))) (l569,l583)).bind fun (y1573,y1574) =>
 (wBc 0 (↑l580.length:Int) (fun k1645 l1644 =>
  (chk (↑k1645:Int) l1644.length).bind fun _ =>
  (chk (↑k1645:Int) (nA l1644 k1645 (⟨(⟨w64 ((((gd l1644 k1645).Offset).Lo) + x504),((gd l1644 k1645).Offset).Hi⟩:wAG),(gd l1644 k1645).Error⟩:wAK)).length).bind fun _ =>
  some (nA (nA l1644 k1645 (⟨(⟨w64 ((((gd l1644 k1645).Offset).Lo) + x504),((gd l1644 k1645).Offset).Hi⟩:wAG),(gd l1644 k1645).Error⟩:wAK)) k1645 (⟨(⟨((gd (nA l1644 k1645 (⟨(⟨w64 ((((gd l1644 k1645).Offset).Lo) + x504),((gd l1644 k1645).Offset).Hi⟩:wAG),(gd l1644 k1645).Error⟩:wAK)) k1645).Offset).Lo,w64 ((((gd (nA l1644 k1645 (⟨(⟨w64 ((((gd l1644 k1645).Offset).Lo) + x504),((gd l1644 k1645).Offset).Hi⟩:wAG),(gd l1644 k1645).Error⟩:wAK)) k1645).Offset).Hi) + x504)⟩:wAG),(gd (nA l1644 k1645 (⟨(⟨w64 ((((gd l1644 k1645).Offset).Lo) + x504),((gd l1644 k1645).Offset).Hi⟩:wAG),(gd l1644 k1645).Error⟩:wAK)) k1645).Error⟩:wAK))) l580).bind fun y1650 =>
 (wBQ x1363 (⟨l532,l535,l538,l541⟩:wAD)).bind fun (x1737,x1738) =>
 (wBH (⟨l532,l535,l538,l541⟩:wAD) x1737).bind fun (x1762,x1763) =>
 ((chk x1737.Skier x515.length).bind fun _ =>
 (wAa (gd x515 x1737.Skier.toNat) x1737.Mat).bind fun x1805 =>
 (wBH (⟨y1293,l549,l552,y1401⟩:wAD) x1805).bind fun (x1841,x1842) =>
 some (y1293,l549,l552,y1401,x1841.Lo,x1841.Hi,x1842)).bind fun (l1780,l1783,l1786,l1789,x1794,x1795,x1796) =>
 (wBH (⟨y1507,l563,l566,y1573⟩:wAD) x1737).bind fun (x2118,x2119) =>
 (wBH (⟨l574,l577,y1650,y1574⟩:wAD) x1737).bind fun (x2162,x2163) =>
 (if x1763=x1796 then
  if x1763=x2119 then
   if x1763=x2163 then
    if x1763=0 then
     if x1762=(⟨x1794,x1795⟩:wAG) then
      if x1762=x2162 then
       if (w64 (x2118.Lo - x504))=x1762.Lo then
        some (decide (¬ ((w64 (x2118.Hi - x504))=x1762.Hi)))
       else
        some true
      else
       some true
     else
      some true
    else
     if x1763=7 then
      if x1762=(⟨x1794,x1795⟩:wAG) then
       if x1762=x2162 then
        some false
       else
        some true
      else
       some true
     else
      some true
   else
    some true
  else
   some true
 else
  some true).bind fun b2180 =>
 if b2180=true then
  some false
 else
  (wBU (⟨l532,l535,l538,l541⟩:wAD) x1737.Mat).bind fun (x2291,x2292) =>
  (wBU (⟨l1780,l1783,l1786,l1789⟩:wAD) x1737.Mat).bind fun (x2353,x2354) =>
  (wBU (⟨y1507,l563,l566,y1573⟩:wAD) x1737.Mat).bind fun (x2403,x2404) =>
  if x2292=x2354 then
   if x2292=x2404 then
    if (↑x2291.length:Int)=(↑x2353.length:Int) then
     (wAi x2291 x2403).bind fun x2443 =>
     if x2443=true then
      jn (wEh 0 (↑x2291.length:Int) (fun k2457 _ =>
       (idx x2291 (↑k2457:Int)).bind fun x2478 =>
       if (↑x515.length:Int) <= (↑k2457:Int) then
        esc (some false)
       else
        (chk (↑k2457:Int) x515.length).bind fun _ =>
        (chk (gd x515 k2457) x2353.length).bind fun _ =>
        if (gd x2353 (gd x515 k2457).toNat)=x2478 then
         some (.inl ())
        else
         esc (some false)) ()) fun _ =>
      (wBx).bind fun x2531 =>
      some x2531
     else
      some false
    else
     some false
   else
    some false
  else
   some false
end Go.Proofs.Ytlnfbjphfoipaaa
namespace Go.KL
open Go.RowKit
section
variable {B:Base} {U:PHeap} {L:List Res} {w:World}
theorem St.cutRowM {α:Type} {enc:α->List Value} {m:List α} {k c T sz b:Nat} {A:Option Addr} (h:St B U L w) (hk:L[k]?=some (.row A c T sz (nZ enc m))):St B U (L.set k (.row A c T sz (nZ enc (m.take b)))) w :=
 h.cutRow (a:=nZ enc (m.take b)) (d:=nZ enc (m.drop b)) (by rw [<- List.flatMap_append,List.take_append_drop];exact hk)
end
section
variable {P:Program} {N:Nat} {l:List Oper} {Q:wDa} {D:List Deferred} {ks:List Nat} {s:Sch} {σ:Env} {w:World} {B:Base} {U:PHeap} {L:List Res} {i d:Nat} {o:Oper}
theorem slc0 {A:Option Addr} {c sz:Nat}:Value.slice (if c=(0:Int).toNat then A else A.map (·.add ((0:Int).toNat * sz))) ((0:Int).toNat - (0:Int).toNat) (c - (0:Int).toNat)=.slice A 0 c:=by
 have:A.map (·.add ((0:Int).toNat * sz))=A:=by
  cases A with
  | none=>rfl
  | some a=>simp [Addr.add]
 rw [this]
 simp
end
theorem St.cutRowC {α:Type} {enc:α->List Value} {m xs:List α} {k c T sz:Nat} {b:Int} {A:Option Addr} {B:Base} {U:PHeap} {L:List Res} {w:World} (h:St B U L w) (hk:L[k]?=some (.row A c T sz (nZ enc m))) (hc:cut m 0 b=some xs):St B U (L.set k (.row A c T sz (nZ enc xs))) w:=by
 obtain ⟨h0,h1,h2,rfl,hn⟩:=wHV hc
 have:=h.cutRowM (b:=b.toNat) hk
 simpa using this
end Go.KL
namespace Go.KL
open Go.RowKit
section
variable {P:Program} {N:Nat} {l:List Oper} {Q:wDa} {D:List Deferred} {ks:List Nat} {s:Sch} {σ:Env} {w:World} {B:Base} {U:PHeap} {L:List Res} {i d:Nat} {o:Oper}
theorem OKS.appendP {α:Type} {t e sz j c c2 k:Nat} {A A2:Option Addr} {inf:TypeInfo} {x y:Operand} {enc:α->List Value} {m:List α} {v:α}
  (ho:l[i]?=some o) (hd:o.dst=some d) (hN:Nat.blt d N=true) (hw:wanted l σ o=true) (hop:o.op=.call { callee:=.builtin .append,args:=#[x,y],argTypes:=#[t,t] })
  (ht:P.underlying t=some (.slice e)) (hi:P.info? e=some inf) (hsize:inf.size=sz) (hsz:Nat.blt 0 sz=true)
  (hS:St B U L w) (hk:L[j]?=some (.row A c e sz (m.flatMap enc))) (hx:ev σ x=.slice A k c) (hy:ev σ y=.slice A2 1 c2)
  (hsrc:([v]:List α).length=0 \/ ∃ a,A2=some a/\∀ j u,(([v]:List α).flatMap enc)[j]?=some u->w.cell? (a.add j)=some u) (hel:∀ x,(enc x).length=sz) (h1:∀ x,(enc x).all (·.oneCell')=true)
  (hm:chk (k:Int) m.length=some ()) (hne:wFG (kOf ks i)=false)
  (kk:∀ w',St B U (L.set j (.row A c e sz ((m.set k v).flatMap enc))) w'->OKS N P l Q D ks s (upd σ d (.slice A (k + 1) c)) w'):OKS N P l Q D ks (.fx i s .stop) σ w:=by
 have hkm:k < m.length:=by have:=wAT hm;omega
 have hsz':0 < sz:=by simpa [Nat.blt_eq] using hsz
 have hlen:(m.flatMap enc).length=m.length * sz:=wAE hel m
 obtain ⟨b0,hA⟩:=hS.rowSome hk (by rw [hlen];exact Nat.mul_pos (by omega) hsz')
 subst hA hsize
 obtain ⟨cur,g1,g2,g3,g4,g5⟩:=RowAt.cells (hS.at_ _ (kQ hk))
 have hmc:m.length <= c:=by rw [hlen] at g2;exact Nat.le_of_mul_le_mul_right g2 hsz'
 obtain ⟨a,rfl,hc⟩:=hsrc.resolve_left (by simp)
 have e1:([v]:List α).flatMap enc=enc v:=by simp
 rw [e1] at hc
 have hle:(k + 1) * inf.size <= c * inf.size:=np _ (by omega)
 rw [kZ,kK] at hle
 have hr:=run_append_room (P:=P) w t o.type e inf ht hi b0 k c cur g1 a 1 c2 (enc v) (by rw [hel,kK]) hc (fun u hu=>nW.1 (h1 v) u hu) (by omega) (by rw [hel,g4];exact hle)
 have hset:cur.toList.take (k * inf.size) ++ enc v ++ cur.toList.drop (k * inf.size + (enc v).length)=wEL cur.toList (k * inf.size) (enc v):=(wHr _ _ _ (by rw [hel];simp only [Array.length_toList];omega)).symm
 rw [hset] at hr
 refine OKS.v (v:=.slice (some ⟨b0,0,none⟩) (k + 1) c) (w':=w.setRow b0 (wEL cur.toList (k * inf.size) (enc v)).toArray) ho hd hN hw ⟨by rw [hop];rfl,?_⟩ (.inl hne) (kk _ (hS.set hk ⟨rfl,⟨rfl,nX _⟩,rfl,by simp [World.setRow],fun q _ hq=>setRow_other w b0 q _ fun e=>hq (by rw [e];rfl)⟩ (.inr ⟨b0,_,rfl,setRow_heap w b0 cur _ e _ g1,?_,g3,?_,?_⟩) fun b hb=>.inl hb))
 ·simp [execOp,hop,resolve,invoke,builtin,hx,hy,hr,Result.andThen]
 ·rw [wAE hel,nV]
  exact np _ hmc
 ·simp [wCp,g4]
 ·have h2:(m.flatMap enc).length=((m.set k v).flatMap enc).length:=by rw [wAE hel,wAE hel,nV]
  have h3:k * inf.size + (enc v).length <= (m.flatMap enc).length:=by
   have:(k + 1) * inf.size <= m.length * inf.size:=np _ (by omega)
   rw [kZ,kK] at this
   rw [hel,hlen];exact this
  show (wEL cur.toList (k * inf.size) (enc v)).take _=_
  rw [<- h2,wFw _ _ _ _ h3,g5]
  have hx:m[k]?=some m[k]:=nL hkm
  have:=wEU (f:=enc) hel (vs:=enc v) (off:=0) m k _ v hx (by rw [hel];omega) (by
   have hv:(enc m[k]).length=(enc v).length:=by rw [hel,hel]
   rw [wHr _ _ _ (by omega),List.take_zero,List.nil_append,na,<- hv,List.drop_length,nq])
  simpa using this
end
theorem wLu {α:Type} {m xs:List α} {k:Nat} (h:Go.KL.cut m 0 (k:Int)=some xs):xs.length=k:=by
 obtain ⟨_,_,_,_,hn⟩:=wHV h
 rw [hn];simp
end Go.KL
namespace Go.KL
open Go.RowKit
section
variable {B:Base} {U U':PHeap} {L:List Res} {w w':World}
def DjL (rs:List Res):Prop:=∀ (i j:Nat) (r s:Res) (b:Nat),rs[i]?=some r->rs[j]?=some s->r.has b->s.has b->i=j
theorem wKk (L:List Res):DjL L ↔ L.Pairwise (fun r s=>∀ b,r.has b->¬ s.has b):=by
 rw [List.pairwise_iff_getElem]
 constructor
 ·intro h i j hi hj hij b h1 h2
  have:=h i j _ _ b (nL hi) (nL hj) h1 h2
  omega
 ·intro h i j r s b hi hj h1 h2
  obtain ⟨hi',rfl⟩:=kC.1 hi
  obtain ⟨hj',rfl⟩:=kC.1 hj
  rcases Nat.lt_trichotomy i j with q | q | q
  ·exact absurd h2 (h i j hi' hj' q b h1)
  ·exact q
  ·exact absurd h1 (h j i hj' hi' q b h2)
theorem St.perm {L':List Res} (h:St B U L w) (p:L.Perm L'):St B U L' w :=
 ⟨h.os,h.tape,h.output,h.size,h.old,h.fro,h.le,h.src,fun r hr=>h.at_ r (p.mem_iff.2 hr),fun r hr=>h.own r (p.mem_iff.2 hr),
  (wKk L').2 ((p.pairwise_iff fun hab b h1 h2=>hab b h2 h1).1 ((wKk L).1 h.dj))⟩
end
section
variable {N:Nat} {P:Program} {l:List Oper} {Q:wDa} {D:List Deferred} {ks:List Nat} {σ:Env} {w:World} {i d:Nat} {s:Sch} {o:Oper} {B:Base} {U:PHeap} {L:List Res}
end
end Go.KL
namespace Go.KL
open Go.RowKit
structure Ad where
 i:Nat
 d:Nat
 post:Value->List Res->Prop
def Kn:List (Nat × Value)->Env->Prop
 | [],_=>True
 | p :: l,σ=>σ p.1=p.2/\Kn l σ
theorem Kn.upd {d:Nat} {v:Value} {σ:Env}:∀ {kn:List (Nat × Value)},Kn kn σ->kn.all (fun p=>!Nat.beq p.1 d)=true->Kn kn (upd σ d v)
 | [],_,_=>trivial
 | p :: l,⟨h1,h2⟩,h=>by
  rw [nu,nD] at h
  refine ⟨?_,h2.upd h.2⟩
  have hne:p.1 ≠ d:=fun e=>by rw [e] at h;simp at h
  have hb:kD p.1 d=false:=by
   cases hq:kD p.1 d with
   | false=>rfl
   | true=>exact absurd (kO hq) hne
  show (bif kD p.1 d then v else σ p.1)=p.2
  rw [hb]
  exact h1
theorem wLv (σ:Env) (d:Nat) (v:Value):upd σ d v d=v:=by
 show (bif kD d d then v else σ d)=v
 rw [Nat.beq_refl];rfl
theorem wLE {σ:Env} {d t:Nat} {v:Value} (h:t ≠ d):upd σ d v t=σ t:=by
 have hb:kD t d=false:=by
  cases hq:kD t d with
  | false=>rfl
  | true=>exact absurd (kO hq) h
 show (bif kD t d then v else σ t)=σ t
 rw [hb];rfl
def adT (pr:List (Nat × List Nat)) (t:Sch):Nat->List Nat->List Nat->Sch
 | 0,_,_=>.stop
 | _ + 1,[],_=>t
 | n + 1,i :: td,dn=>((i :: td).filter fun j=>(pr.all fun q=>!Nat.beq q.1 j || q.2.all fun x=>dn.contains x)).foldr (fun j a=>.fx j (adT pr t n ((i :: td).erase j) (j :: dn)) a) .stop
def wLw (ads:List Ad) (kn:List (Nat × Value)):Bool:=decide ((ads.map (·.i)).Nodup) && decide ((ads.map (·.d)).Nodup) && ads.all fun a=>kn.all fun p=>!Nat.beq p.1 a.d
theorem wIM {α β:Type} {f:α->β}:∀ {ys:List β} {xs:List α},(xs.map f).Perm ys->∃ zs:List α,zs.Perm xs/\zs.map f=ys
 | [],xs,h=>⟨[],by
  have:=h.length_eq
  simp at this
  subst this;exact .refl _,rfl⟩
 | y :: ys,xs,h=>by
  obtain ⟨x,hx,e⟩:=hH.1 (h.mem_iff.2 (List.mem_cons_self (a:=y) (l:=ys)))
  obtain ⟨s,t,rfl⟩:=kU hx
  have h2:((s ++ t).map f).Perm ys:=by
   rw [nP,nw,e] at h
   rw [nP]
   exact (List.Perm.cons_inv ((kE (a:=y)).symm.trans h))
  obtain ⟨zs,p,q⟩:=wIM h2
  exact ⟨x :: zs,(p.cons x).trans kE.symm,by rw [nw,e,q]⟩
theorem wJT {α β:Type} (g:α->List β) {xs ys:List α} (h:xs.Perm ys):(xs.flatMap g).Perm (ys.flatMap g):=by
 induction h with
 | nil=>exact .refl _
 | cons x _ ih=>rw [nO,nO];exact ih.append_left _
 | swap x y l =>
  rw [nO,nO,nO,nO,<- nU,<- nU]
  exact (List.perm_append_comm).append_right _
 | trans _ _ a b=>exact a.trans b
def AdE (G:List (Nat × Value)->List Res->Prop):List Ad->List (Nat × Value)->List Res->Prop
 | [],vs,L=>G vs L
 | a :: l,vs,L=>∀ v R,a.post v R->AdE G l (vs ++ [(a.d,v)]) (L ++ R)
section
variable {N:Nat} {P:Program} {Q:wDa} {D:List Deferred} {l:List Oper} {ks:List Nat} {B:Base} {U0:PHeap} {L0:List Res}
def AdOK (N:Nat) (P:Program) (l:List Oper) (Q:wDa) (D:List Deferred) (ks:List Nat) (B:Base) (U0:PHeap) (L0:List Res) (kn:List (Nat × Value)) (a:Ad):Prop :=
 ∀ (s:Sch) (σ:Env) (w:World) (U:PHeap) (L:List Res),Kn kn σ->PHeap.Le U0 U->St B U (L ++ L0) w ->
  (∀ v w' U' R,PHeap.Le U U'->St B U' (R ++ (L ++ L0)) w'->a.post v R->OKS N P l Q D ks s (upd σ a.d v) w')->OKS N P l Q D ks (.fx a.i s .stop) σ w
theorem wKl {G:List (Nat × Value)->List Res->Prop}:∀ (xs:List (Ad × Value × List Res)) (vs:List (Nat × Value)) (L:List Res),AdE G (xs.map (·.1)) vs L->(∀ x ∈ xs,x.1.post x.2.1 x.2.2)->G (vs ++ xs.map fun x=>(x.1.d,x.2.1)) (L ++ xs.flatMap (·.2.2))
 | [],vs,L,h,_=>by
  have h:G vs L:=h
  simpa using h
 | x :: xs,vs,L,h,hp=>by
  have:=wKl xs _ _ (h x.2.1 x.2.2 (hp x (.head _))) fun y hy=>hp y (.tail _ hy)
  simpa [nU] using this
theorem wLx {σ:Env}:∀ (xs:List (Ad × Value × List Res)),(∀ x ∈ xs,σ x.1.d=x.2.1)->Kn (xs.map fun x=>(x.1.d,x.2.1)) σ
 | [],_=>trivial
 | x :: xs,h=>⟨h x (.head _),wLx xs fun y hy=>h y (.tail _ hy)⟩
theorem OKS.adders {t:Sch} (pr:List (Nat × List Nat)) (ads:List Ad) (kn:List (Nat × Value)) (F:List Nat) (hc:wLw ads kn=true) (H:∀ a ∈ ads,AdOK N P l Q D ks B U0 L0 kn a)
  (E:AdE (fun vs L=>∀ (σ:Env) (w:World) (U:PHeap),Kn kn σ->Kn vs σ->PHeap.Le U0 U->St B U (L ++ L0) w->OKS N P l Q D ks t σ w) ads [] []) {σ:Env} {w:World} (hk:Kn kn σ) (hS:St B U0 L0 w) :
  OKS N P l Q D ks (adT pr t (ads.length + 1) (ads.map (·.i)) F) σ w:=by
 unfold wLw at hc
 simp only [nD,decide_eq_true_eq] at hc
 obtain ⟨⟨hi,hd⟩,hkn⟩:=hc
 have hkn:=nW.1 hkn
 have main:∀ (n:Nat) (td:List Ad) (dn:List (Ad × Value × List Res)) (F:List Nat) (σ:Env) (w:World) (U:PHeap),td.length < n->(dn.map (·.1) ++ td).Perm ads->Kn kn σ->PHeap.Le U0 U->(∀ x ∈ dn,σ x.1.d=x.2.1/\x.1.post x.2.1 x.2.2)->St B U (dn.flatMap (·.2.2) ++ L0) w->OKS N P l Q D ks (adT pr t n (td.map (·.i)) F) σ w:=by
  intro n
  induction n with
  | zero=>intro td dn F σ w U h;omega
  | succ n ih =>
   intro td dn F σ w U hn hp hk hle hx hS
   cases td with
   | nil =>
    rw [nq] at hp
    obtain ⟨zs,p,q⟩:=wIM hp
    have hz:∀ x ∈ zs,σ x.1.d=x.2.1/\x.1.post x.2.1 x.2.2:=fun x h=>hx x (p.mem_iff.1 h)
    have:=wKl zs [] [] (by rw [q];exact E) fun x h=>(hz x h).2
    exact this σ w U hk (wLx zs fun x h=>(hz x h).1) hle (hS.perm ((wJT _ p.symm).append_right _))
   | cons b td =>
    have hids:(((b :: td).map (·.i))).Nodup:=by
     have h1:=(hp.map (·.i)).nodup_iff.2 hi
     rw [nP] at h1
     exact (ni.1 h1).2.1
    have each:∀ sub:List Nat,(∀ j ∈ sub,j ∈ (b :: td).map (·.i))->OKS N P l Q D ks (sub.foldr (fun j a=>.fx j (adT pr t n (((b :: td).map (·.i)).erase j) (j :: F)) a) .stop) σ w:=by
     intro sub
     induction sub with
     | nil=>exact fun _=>trivial
     | cons j sub ih2 =>
      intro hsub
      refine OKS.both ?_ (ih2 fun x h=>hsub x (.tail _ h))
      obtain ⟨a,ha,e⟩:=hH.1 (hsub j (.head _))
      subst e
      obtain ⟨s1,s2,es⟩:=kU ha
      rw [es] at hids hp hn ⊢
      have her:(((s1 ++ a :: s2).map (·.i)).erase a.i)=(s1 ++ s2).map (·.i):=by
       rw [nP,nw] at hids ⊢
       have hno:a.i ∉ s1.map (·.i):=fun h=>(ni.1 hids).2.2 _ h _ (.head _) rfl
       rw [List.erase_append_right _ hno,List.erase_cons_head,nP]
      rw [her]
      have ham:a ∈ ads:=hp.mem_iff.1 (nQ.2 (.inr (nQ.2 (.inr (.head _)))))
      refine H a ham _ σ w U _ hk hle hS fun v w' U' R h1 h2 h3=>?_
      refine ih (s1 ++ s2) ((a,v,R) :: dn) (a.i :: F) (upd σ a.d v) w' U' (by simp only [nN,nH] at hn ⊢;omega) ?_ (hk.upd (hkn a ham)) (hle.trans h1) (fun x hxm=>?_) (by rw [nO,nU];exact h2)
      ·rw [nw,nl,<- nU]
       refine List.Perm.trans ?_ hp
       rw [<- nU]
       exact kE.symm
      ·rcases ny.1 hxm with rfl | hxm
       ·exact ⟨wLv σ a.d v,h3⟩
       ·have hne:x.1.d ≠ a.d:=fun e=>by
         have h1:=(hp.map (·.d)).nodup_iff.2 hd
         rw [nP] at h1
         exact (ni.1 h1).2.2 x.1.d (hH.2 ⟨x.1,hH.2 ⟨x,hxm,rfl⟩,rfl⟩) a.d (hH.2 ⟨a,nQ.2 (.inr (.head _)),rfl⟩) e
        refine ⟨?_,(hx x hxm).2⟩
        rw [wLE hne]
        exact (hx x hxm).1
    exact each _ fun j hj=>(List.mem_filter.1 hj).1
 exact main _ ads [] F σ w U0 (Nat.lt_succ_self _) (by simpa using .refl _) hk (PHeap.Le.refl _) (fun (x:Ad × Value × List Res) (h:x ∈ [])=>by cases h) (by simpa using hS)
end
end Go.KL
namespace Go.KL
open Go.RowKit
section
variable {N:Nat} {P:Program} {l:List Oper} {Q:wDa} {D:List Deferred} {ks:List Nat} {s:Sch} {σ:Env} {w:World} {B:Base} {U:PHeap} {L:List Res} {i d:Nat} {o:Oper}
theorem wIk (v:Value) (k n:Nat) (hk:0 < k):madeCells (nr k v) n=(nI n v).toArray:=by
 apply Array.ext'
 simp only [madeCells]
 apply kF
 ·simp
 ·intro i h1 h2
  simp at h1 ⊢
  have hm:i % k < (nr k v).size:=by simpa using Nat.mod_lt i hk
  rw [getElem!_pos (nr k v) (i % k) hm]
  simp
theorem wFJ {α:Type} {enc:α->List Value} {z:α} {v:Value} {k:Nat} (h:enc z=nI k v) (n:Nat):nZ enc (nI n z)=nI (n * k) v:=by
 induction n with
 | zero=>simp
 | succ n ih=>rw [List.replicate_succ,nO,ih,h,List.replicate_append_replicate,kZ,kK,Nat.add_comm]
theorem OKS.makeSliceZ {α:Type} {t e:TypeId} {inf:TypeInfo} {x y:Operand} {n:Int} {v u:Value} {enc:α->List Value} {z:α} {xs:List α} {sz:Nat} (ho:l[i]?=some o) (hd:o.dst=some d) (hN:Nat.blt d N=true) (hw:wanted l σ o=true) (hop:o.op=.makeSlice t x y)
  (ht:P.underlying t=some (.slice e)) (hi:P.info? e=some inf) (hz:inf.zero=some u) (hc:u.cells=nr sz v) (hs:inf.size=sz) (henc:enc z=nI sz v) (hsz:0 < sz) (hb:sz <= 16) (hx:ev σ x=.int .i64 n) (hy:ev σ y=.int .i64 n) (hm:mkz inf.bytes n z=some xs) (hS:St B U L w)
  (k:∀ w' b,St B U (.row (some ⟨b,0,none⟩) xs.length e sz (nZ enc xs) :: L) w'->OKS N P l Q D ks s (upd σ d (.slice (some ⟨b,0,none⟩) xs.length xs.length)) w'):OKS N P l Q D ks (.fx i s .stop) σ w:=by
 unfold mkz at hm
 split at hm
 ·rename_i h
  obtain ⟨h0,h1,h2⟩:=h
  cases hm
  obtain ⟨m,rfl⟩:=kI h0
  have hr:=run_make (P:=P) w t e inf _ ht hi hz .i64 .i64 (m:Int) (m:Int) (by omega) (by omega) h2 (by omega)
  simp only [hs,hJ,hc,wIk v sz (m * sz) hsz] at hr
  simp only [hJ,List.length_replicate,wFJ henc] at k
  have hmax:m <= maxLen:=by
   have h16:(16777216:Nat) <= maxLen:=by decide
   omega
  refine OKS.v (v:=.slice (some ⟨w.heap.size,0,none⟩) m m) (w':=w.alloc (.cells (nI (m * sz) v).toArray e)) ho hd hN hw ⟨by rw [hop];rfl,?_⟩ (.inr (wBZ w _))
   (k _ _ (hS.new (wBZ w _) (.inr ⟨_,(nI (m * sz) v).toArray,rfl,wES w _ e,by simp,hmax,by simp,by simp⟩) rfl (nX _)))
  simp [execOp,hop,hx,hy,hr,Result.andThen]
 ·cases hm
end
end Go.KL
namespace Go.KL.Net
structure Ed where
 a:Nat
 b:Nat
 c:Int
def wGI (es:List Ed) (x:Nat->Int):Prop:=∀ e ∈ es,x e.b <= x e.a + e.c
theorem wLH {P:Int->Prop} {B:Int} (h:∃ m,P m) (hB:∀ m,P m->m <= B):∃ m,P m/\∀ k,P k->k <= m:=by
 have key:∀ (d:Nat) (m:Int),P m->(B - m).toNat <= d->∃ m,P m/\∀ k,P k->k <= m:=by
  intro d
  induction d with
  | zero =>
   intro m hm hd
   exact ⟨m,hm,fun k hk=>by have:=hB k hk;omega⟩
  | succ d ih =>
   intro m hm hd
   rcases kc (∃ k,P k/\m < k) with ⟨k,hk,hlt⟩ | h
   ·exact ih k hk (by have:=hB k hk;omega)
   ·exact ⟨m,hm,fun k hk=>by
     rcases kV m k with c | c
     ·exact absurd ⟨k,hk,c⟩ h
     ·exact c⟩
 obtain ⟨m,hm⟩:=h
 exact key _ m hm (nX _)
structure Con (n:Nat) (R:Int) (es:List Ed):Prop where
 ends:∀ e ∈ es,e.a < n/\e.b < n
 near:∀ x,wGI es x->∀ a b,a < n->b < n->x b - x a <= R
 all:∀ (S:Nat->Prop) (i:Nat),i < n->S i->(∀ e ∈ es,S e.a->S e.b)->∀ v,v < n->S v
structure Most (n:Nat) (es:List Ed) (top:Nat->Int) (δ:Nat->Int):Prop where
 ok:wGI es δ
 le:∀ v,v < n->δ v <= top v
 gr:∀ x,wGI es x->(∀ v,v < n->x v <= top v)->∀ v,v < n->x v <= δ v
theorem wMH {es:List Ed} {x:Nat->Int} (h:wGI es x) (k:Int):wGI es fun v=>x v + k:=fun e he=>by have:=h e he;simp only;omega
theorem wJY {n:Nat} {R:Int} {es:List Ed} (C:Con n R es) {x:Nat->Int} (hx:wGI es x) {top:Nat->Int} {i:Nat} (hi:i < n) (h0:top i=0) (hp:∀ v,v < n->0 <= top v):∃ δ,Most n es top δ:=by
  have ex:∀ v,∃ m:Int,(v < n->(∃ y,wGI es y/\(∀ u,u < n->y u <= top u)/\y v=m)/\∀ y,wGI es y->(∀ u,u < n->y u <= top u)->y v <= m):=by
    intro v
    by_cases hv:v < n
    · obtain ⟨m,hm,hm2⟩:=wLH (P:=fun m=>∃ y,wGI es y/\(∀ u,u < n->y u <= top u)/\y v=m) (B:=R) ⟨_,fun u=>x u + (-(x i + R)),wMH hx _,fun u hu=>by
          have:=C.near x hx i u hi hu
          have:=hp u hu
          simp only
          omega,rfl⟩ (by
          rintro m ⟨y,hy,hy2,rfl⟩
          have:=C.near y hy i v hi hv
          have:=hy2 i hi
          omega)
      exact ⟨m,fun _=>⟨hm,fun y hy hy2=>hm2 _ ⟨y,hy,hy2,rfl⟩⟩⟩
    · exact ⟨0,fun h=>absurd h hv⟩
  obtain ⟨δ,sp⟩:=Classical.axiomOfChoice ex
  refine ⟨δ,fun e he=>?_,fun v hv=>?_,fun y hy hy2 v hv=>(sp v hv).2 y hy hy2⟩
  · obtain ⟨h1,h2⟩:=C.ends e he
    obtain ⟨⟨y,hy,hy2,hy3⟩,_⟩:=sp e.b h2
    have:=(sp e.a h1).2 y hy hy2
    have:=hy e he
    omega
  · obtain ⟨⟨y,hy,hy2,hy3⟩,_⟩:=sp v hv
    have:=hy2 v hv
    omega
theorem Most.hi {n:Nat} {R:Int} {es:List Ed} (C:Con n R es) {top δ:Nat->Int} (M:Most n es top δ) {i:Nat} (hi:i < n) (h0:top i=0):∀ v,v < n->δ v <= R:=fun v hv=>by
 have:=C.near δ M.ok i v hi hv
 have:=M.le i hi
 omega
theorem Most.tight {n:Nat} {es:List Ed} {top δ:Nat->Int} (M:Most n es top δ) (hes:∀ e ∈ es,e.a < n/\e.b < n) (low:Nat->Int) (h0:∀ v,v < n->low v <= top v) (hT:∃ v,v < n/\δ v < low v) (hge:∀ v,v < n->δ v <= low v) :
  ∃ e ∈ es,low e.a=δ e.a/\δ e.b < low e.b/\δ e.b=δ e.a + e.c:=by
 rcases kc (∃ e ∈ es,low e.a=δ e.a/\δ e.b < low e.b/\δ e.b=δ e.a + e.c) with h | h
 ·exact h
 ·exfalso
  obtain ⟨v,hv,hlt⟩:=hT
  have hx:wGI es (fun u=>if δ u < low u then δ u + 1 else δ u):=by
   intro e he
   obtain ⟨h1,h2⟩:=hes e he
   have a:=M.ok e he
   have b:=hge e.a h1
   have c:=hge e.b h2
   simp only
   by_cases e1:δ e.b < low e.b
   ·by_cases e2:δ e.a < low e.a
    ·rw [if_pos e1,if_pos e2];omega
    ·rw [if_pos e1,if_neg e2]
     by_cases e3:δ e.b=δ e.a + e.c
     ·exact absurd ⟨e,he,by omega,e1,e3⟩ h
     ·omega
   ·rw [if_neg e1]
    split <;> omega
  have:=M.gr _ hx (fun u hu=>by
   have:=M.le u hu
   have:=h0 u hu
   show (if δ u < low u then δ u + 1 else δ u) <= top u
   split <;> omega) v hv
  have this:(if δ v < low v then δ v + 1 else δ v) <= δ v:=this
  rw [if_pos hlt] at this
  omega
theorem wIP (p q:Nat->Bool) (hpq:∀ v,p v=true->q v=true):∀ (l:List Nat),(∃ v ∈ l,p v=false/\q v=true)->l.countP p < l.countP q
 | [],⟨v,h,_⟩=>by cases h
 | a :: l,⟨v,h,hp,hq⟩=>by
  have mono:∀ l:List Nat,l.countP p <= l.countP q:=fun l=>List.countP_mono_left fun v _ h=>hpq v h
  rw [List.countP_cons,List.countP_cons]
  rcases ny.1 h with rfl | h
  ·have:=mono l
   simp only [hp,hq,if_true,nS,if_false]
   omega
  ·have:=wIP p q hpq l ⟨v,h,hp,hq⟩
   have:(if p a=true then 1 else 0) <= (if q a=true then 1 else 0):=by
    cases e:p a with
    | true=>rw [hpq a e];simp
    | false=>simp
   omega
def wLh (n:Nat) (δ low:Nat->Int):Nat:=(nB n).countP fun v=>decide (low v=δ v)
theorem wLI (n:Nat) (δ low:Nat->Int):wLh n δ low <= n:=by
 have:=List.countP_le_length (p:=fun v=>decide (low v=δ v)) (l:=nB n)
 rw [List.length_range] at this
 exact this
theorem wLJ {n:Nat} {δ low low':Nat->Int} (h1:∀ v,v < n->δ v <= low' v) (h2:∀ v,v < n->low' v <= low v) {v:Nat} (hv:v < n) (a:δ v < low v) (b:low' v=δ v):wLh n δ low < wLh n δ low':=by
 have:=wIP (fun v=>decide (low v=δ v)) (fun v=>decide (low' v=δ v) || !decide (v < n)) (fun u hu=>by
  have hu':=of_decide_eq_true hu
  by_cases hun:u < n
  ·have:=h1 u hun
   have:=h2 u hun
   simp only [Bool.or_eq_true,decide_eq_true_eq]
   exact .inl (by omega)
  ·simp [hun]) (nB n) ⟨v,nJ.2 hv,decide_eq_false (by omega),by simp [b]⟩
 have e:(nB n).countP (fun v=>decide (low' v=δ v) || !decide (v < n))=(nB n).countP (fun v=>decide (low' v=δ v)):=by
  apply nj
  intro u hu
  have:u < n:=nJ.1 hu
  simp [this]
 unfold wLh
 omega
structure IsD (n:Nat) (es:List Ed) (i:Nat) (f:Nat->Int):Prop where
 ok:wGI es f
 zero:f i=0
 gr:∀ x,wGI es x->∀ v,v < n->x v - x i <= f v
end Go.KL.Net
namespace Go.KL
variable {S S' B B' α:Type}
theorem wIQ {body:Nat->S->Option (S ⊕ B)} (I:Nat->S->Prop) (Z:B->Prop):∀ (m k:Nat) (s:S),I k s ->
  (∀ i s,k <= i->i < k + m->I i s->(∃ s',body i s=some (.inl s')/\I (i + 1) s') \/ ∃ b,body i s=some (.inr b)/\Z b) ->
  (∃ s',forN body m k s=some (.inl s')/\I (k + m) s') \/ ∃ b,forN body m k s=some (.inr b)/\Z b
 | 0,k,s,h,_=>.inl ⟨s,rfl,h⟩
 | m + 1,k,s,h,hb=>by
  simp only [forN]
  rcases hb k s (nX _) (by omega) h with ⟨s',h1,h2⟩ | ⟨b,h1,h2⟩
  ·rw [h1]
   have:=wIQ I Z m (k + 1) s' h2 fun i s h2 h3 h4=>hb i s (by omega) (by omega) h4
   rwa [show k + 1 + m=k + (m + 1) from by omega] at this
  ·rw [h1];exact .inr ⟨b,rfl,h2⟩
theorem wEE {body:Nat->S->Option S} (I:Nat->S->Prop):∀ (m k:Nat) (s:S),I k s ->
  (∀ i s,k <= i->i < k + m->I i s->∃ s',body i s=some s'/\I (i + 1) s')->∃ s',forN' body m k s=some s'/\I (k + m) s'
 | 0,k,s,h,_=>⟨s,rfl,h⟩
 | m + 1,k,s,h,hb=>by
  simp only [forN']
  obtain ⟨s',h1,h2⟩:=hb k s (nX _) (by omega) h
  rw [h1]
  have:=wEE I m (k + 1) s' h2 fun i s h2 h3 h4=>hb i s (by omega) (by omega) h4
  rwa [show k + 1 + m=k + (m + 1) from by omega] at this
theorem wEF {body:Nat->S->Option (S ⊕ B)} {n:Nat} {s:S} (hn:n <= 9223372036854775807):wEh 0 (n:Int) body s=forN body n 0 s:=by
 unfold wEh
 rw [if_pos (by omega),show ((n:Int) - 0).toNat=n from by omega]
theorem wDe {body:Nat->S->Option S} {n:Nat} {s:S} (hn:n <= 9223372036854775807):wBc 0 (n:Int) body s=forN' body n 0 s:=by
 unfold wBc
 rw [if_pos (by omega),show ((n:Int) - 0).toNat=n from by omega]
theorem wIo [DecidableEq α] {l m:List α} (hn:l.length <= 9223372036854775807) :
  (if (↑l.length:Int)=(↑m.length:Int) then jn (wEh 0 (↑l.length:Int) (fun k4 (_:Unit)=>(idx l (↑k4:Int)).bind fun x26=>(idx m (↑k4:Int)).bind fun x34=>if x26=x34 then some (.inl ()) else esc (some false)) ()) fun _=>some true else some false)=some (decide (l=m)):=by
 by_cases hl:l.length=m.length
 ·rw [if_pos (by omega),wEF hn]
  have key:∀ (n k:Nat),k + n=l.length->(jn (forN (fun k4 (_:Unit)=>(idx l (↑k4:Int)).bind fun x26=>(idx m (↑k4:Int)).bind fun x34=>if x26=x34 then some (.inl ()) else esc (some false)) n k ()) fun _=>some true)=some (decide (l.drop k=m.drop k)):=by
   intro n
   induction n with
   | zero=>intro k hk;rw [nk (by omega),nk (by omega)];simp [forN]
   | succ n ih =>
    intro k hk
    have h1:k < l.length:=by omega
    have h2:k < m.length:=by omega
    rw [ng h1,ng h2,forN,wGt,wGt,nL h1,nL h2]
    simp only [hD]
    by_cases h:l[k]=m[k]
    ·rw [if_pos h]
     simp only
     rw [ih (k + 1) (by omega)]
     congr 1
     exact decide_eq_decide.2 ⟨fun e=>by rw [e,h],fun e=>(kb e).2⟩
    ·rw [if_neg h]
     have:¬ l[k] :: l.drop (k + 1)=m[k] :: m.drop (k + 1):=fun e=>h (kb e).1
     simp only [wIK,wFt,this,decide_false]
  have:=key l.length 0 (by omega)
  simpa using this
 ·rw [if_neg (by omega)]
  have:l ≠ m:=fun e=>hl (by rw [e])
  simp [this]
theorem wFO {R:Type} {l:List α} {g:α->Option (Unit ⊕ R)} {p:α->Bool} {z:R} {K:Unit->Option R} (hg:∀ a ∈ l,g a=if p a=true then some (.inl ()) else some (.inr z)) (hn:l.length <= 9223372036854775807) :
  jn (wEh 0 (↑l.length:Int) (fun k (_:Unit)=>(idx l (↑k:Int)).bind g) ()) K=if l.all p=true then K () else some z:=by
 rw [wEF hn]
 have key:∀ (m k:Nat),k + m=l.length->jn (forN (fun k (_:Unit)=>(idx l (↑k:Int)).bind g) m k ()) K=if (l.drop k).all p=true then K () else some z:=by
  intro m
  induction m with
  | zero=>intro k hk;rw [nk (by omega)];rfl
  | succ m ih =>
   intro k hk
   have hlt:k < l.length:=by omega
   have e:l.drop k=l[k] :: l.drop (k + 1):=ng hlt
   rw [e,nu,forN,wGt,nL hlt]
   simp only [hD,hg _ (List.getElem_mem hlt)]
   by_cases h:p l[k]=true
   ·rw [h]
    simp only [if_true,Bool.true_and]
    exact ih (k + 1) (by omega)
   ·rw [if_neg h]
    have:p l[k]=false:=by simpa using h
    simp only [this,Bool.false_and,wFt,nS,if_false]
 exact key l.length 0 (by omega)
theorem wDs {bytes:Nat} {l m:List α} (h:(l.length + m.length) * bytes <= 140737488355328):app bytes l m=some (l ++ m):=if_pos h
end Go.KL
namespace Go.KL
variable {S B R α β:Type}
theorem wIR {body:Nat->S->Option (S ⊕ B)} (s:Nat->S):∀ (m k:Nat),(∀ i,k <= i->i < k + m->body i (s i)=some (.inl (s (i + 1))))->forN body m k (s k)=some (.inl (s (k + m)))
 | 0,_,_=>rfl
 | m + 1,k,h=>by
  rw [forN,h k (nX _) (by omega)]
  have:=wIR s m (k + 1) fun i h1 h2=>h i (by omega) (by omega)
  rw [show k + 1 + m=k + (m + 1) by omega] at this
  exact this
theorem wHc {body:Nat->S->Option S} (s:Nat->S):∀ (m k:Nat),(∀ i,k <= i->i < k + m->body i (s i)=some (s (i + 1)))->forN' body m k (s k)=some (s (k + m))
 | 0,_,_=>rfl
 | m + 1,k,h=>by
  rw [forN',h k (nX _) (by omega)]
  have:=wHc s m (k + 1) fun i h1 h2=>h i (by omega) (by omega)
  rw [show k + 1 + m=k + (m + 1) by omega] at this
  exact this
theorem wGD {body:Nat->S->Option S} {n:Nat} {s0:S} (s:Nat->S) (h0:s 0=s0) (hn:n <= 9223372036854775807) (h:∀ i,i < n->body i (s i)=some (s (i + 1))):wBc 0 (n:Int) body s0=some (s n):=by
 rw [wDe hn,<- h0]
 have:=wHc s n 0 fun i _ hi=>h i (by omega)
 rwa [na] at this
theorem wKN {body:Nat->S->Option (S ⊕ B)} {n:Nat} {s0:S} (s:Nat->S) (h0:s 0=s0) (hn:n <= 9223372036854775807) (h:∀ i,i < n->body i (s i)=some (.inl (s (i + 1)))):wEh 0 (n:Int) body s0=some (.inl (s n)):=by
 rw [wEF hn,<- h0]
 have:=wIR s n 0 fun i _ hi=>h i (by omega)
 rwa [na] at this
theorem wHd {body:Nat->Unit->Option (Unit ⊕ B)} {n:Nat} (hn:n <= 9223372036854775807) (h:∀ i,i < n->body i ()=some (.inl ())):wEh 0 (n:Int) body ()=some (.inl ()):=wKN (fun _=>()) rfl hn h
theorem wHC [Inhabited α] {l:List α} {k:Nat} (h:k < l.length):idx l (k:Int)=some (gd l k):=by
 rw [wGt]
 exact wBA h
theorem wBg [Inhabited α] {l:List α} {k:Nat} (h:k < l.length):gd l k ∈ l:=kQ (wBA h)
theorem wGE [Inhabited α] {l:List α} {k:Nat} (h:k < l.length):l.take (k + 1)=l.take k ++ [gd l k]:=by
 rw [List.take_add_one,wBA h]
 rfl
theorem wDT [Inhabited α] {l m:List α} {k:Nat} (h:k < l.length):gd (l ++ m) k=gd l k:=by
 have h1:=wBA (xs:=l ++ m) (k:=k) (by rw [nN];omega)
 rw [nh h,wBA h] at h1
 exact (nb h1).symm
theorem wFl [Inhabited α] (l m:List α) (x:α):gd (l ++ x :: m) l.length=x:=by
 have h1:=wBA (xs:=l ++ x :: m) (k:=l.length) (by simp)
 rw [nf (nX _),Nat.sub_self] at h1
 exact (nb h1).symm
theorem wHD [Inhabited α] [Inhabited β] (f:α->β) {l:List α} {k:Nat} (h:k < l.length):gd (l.map f) k=f (gd l k):=by
 have h1:=wBA (xs:=l.map f) (k:=k) (by simpa using h)
 rw [List.getElem?_map,wBA h] at h1
 exact (nb h1).symm
theorem wJZ [Inhabited α] {l m:List α} (h:l.length=m.length) (hk:∀ k,k < l.length->gd l k=gd m k):l=m:=by
 apply List.ext_getElem?
 intro k
 rcases Nat.lt_or_ge k l.length with h1 | h1
 ·rw [wBA h1,wBA (by omega),hk k h1]
 ·rw [kP h1,kP (by omega)]
end Go.KL
namespace Go.KL
variable {S B α:Type}
theorem wIS {body:S->Option (S ⊕ B)} (I:Nat->S->Prop) (Z:B->Prop) (m:Nat) (step:∀ i s,i <= m->I i s->(i < m/\∃ s',body s=some (.inl s')/\I (i + 1) s') \/ ∃ b,body s=some (.inr b)/\Z b) {s0:S} (h0:I 0 s0) (hm:m < 1000000):∃ b,iter body big s0=some b/\Z b:=by
 have key:∀ (d i:Nat) (s:S),i + d=m->I i s->∀ F,d < F->∃ b,iter body F s=some b/\Z b:=by
  intro d
  induction d with
  | zero =>
   intro i s hi hI F hF
   obtain ⟨F,rfl⟩:∃ G,F=G + 1:=⟨F - 1,by omega⟩
   rcases step i s (by omega) hI with ⟨h,_⟩ | ⟨b,h1,h2⟩
   ·omega
   ·exact ⟨b,by rw [iter,h1],h2⟩
  | succ d ih =>
   intro i s hi hI F hF
   obtain ⟨F,rfl⟩:∃ G,F=G + 1:=⟨F - 1,by omega⟩
   rcases step i s (by omega) hI with ⟨_,s',h1,h2⟩ | ⟨b,h1,h2⟩
   ·obtain ⟨b,h3,h4⟩:=ih (i + 1) s' (by omega) h2 F (by omega)
    exact ⟨b,by rw [iter,h1];exact h3,h4⟩
   ·exact ⟨b,by rw [iter,h1],h2⟩
 exact key m 0 s0 (by omega) h0 big (by unfold big;omega)
theorem wHu {body:S->Option (S ⊕ B)} (I:Nat->S->Prop) {b:B} (m:Nat) {s0:S} (h0:I 0 s0) (hm:m < 1000000) (step:∀ i s,i <= m->I i s->(i < m/\∃ s',body s=some (.inl s')/\I (i + 1) s') \/ body s=some (.inr b)):iter body big s0=some b:=by
 obtain ⟨c,h1,h2⟩:=wIS (body:=body) I (fun c=>c=b) m (fun i s hi hI=>by
  rcases step i s hi hI with h | h
  ·exact .inl h
  ·exact .inr ⟨b,h,rfl⟩) h0 hm
 rw [h1,h2]
theorem wFe [Inhabited α] {l:List α} {i k:Nat} {x:α} (hi:i < l.length) (hk:k < l.length):gd (l.set i x) k=if k=i then x else gd l k:=by
 have h1:=wBA (xs:=l.set i x) (k:=k) (by rw [nV];exact hk)
 rw [List.getElem?_set] at h1
 by_cases e:i=k
 ·subst e
  rw [if_pos rfl,if_pos hi] at h1
  rw [if_pos rfl]
  exact (nb h1).symm
 ·rw [if_neg e,wBA hk] at h1
  rw [if_neg (fun h=>e h.symm)]
  exact (nb h1).symm
theorem wHe [Inhabited α] {l:List α} {k:Nat} (h:k < l.length):gd l k=l[k]:=by
 have:=wBA h
 rw [nL h] at this
 exact (nb this).symm
theorem wIp [DecidableEq α] {l:List α} (hn:l.length <= 9223372036854775807) :
  (if (↑l.length:Int)=(↑l.length:Int) then jn (wEh 0 (↑l.length:Int) (fun k4 (_:Unit)=>(idx l (↑k4:Int)).bind fun x26=>(idx l (↑k4:Int)).bind fun x34=>if x26=x34 then some (.inl ()) else esc (some false)) ()) fun _=>some true else some false)=some true:=by
 rw [wIo hn]
 simp
end Go.KL
namespace Go.Proofs.Ytlnfbjphfoipaaa
open Go.KL Go.KL.Net
structure EdOK (n:Nat) (e:wAX):Prop where
 f0:0 <= e.from_
 f1:e.from_ < n
 t0:0 <= e.to_
 t1:e.to_ < n
 c0:-400000 <= e.count
 c1:e.count <= 400000
def ed (p:Bool) (e:wAX):Ed:=if p then ⟨e.to_.toNat,e.from_.toNat,e.count⟩ else ⟨e.from_.toNat,e.to_.toNat,e.count⟩
abbrev SS:=List Int × List Int × Int
def spB (es:List wAX) (p2:Bool):Nat->SS->Option SS:=fun k1375 (l1372,l1373,x1374) =>
      ((idx es (↑k1375:Int)).bind fun x1412 =>
      if p2=true then
        (chk x1412.to_ l1372.length).bind fun _ =>
        if (gd l1372 x1412.to_.toNat) < 1125899906842624 then
          (chk x1412.from_ l1372.length).bind fun _ =>
          if (w64 ((gd l1372 x1412.to_.toNat) + x1412.count)) < (gd l1372 x1412.from_.toNat) then
            ((chk x1412.from_ l1373.length).bind fun _ =>
            some ()).bind fun _ =>
            some ((nA l1372 x1412.from_.toNat (w64 ((gd l1372 x1412.to_.toNat) + x1412.count))),(nA l1373 x1412.from_.toNat (↑k1375:Int)),x1412.from_)
          else
            some (l1372,l1373,x1374)
        else
          some (l1372,l1373,x1374)
      else
        (chk x1412.from_ l1372.length).bind fun _ =>
        if (gd l1372 x1412.from_.toNat) < 1125899906842624 then
          (chk x1412.to_ l1372.length).bind fun _ =>
          if (w64 ((gd l1372 x1412.from_.toNat) + x1412.count)) < (gd l1372 x1412.to_.toNat) then
            ((chk x1412.to_ l1373.length).bind fun _ =>
            some ()).bind fun _ =>
            some ((nA l1372 x1412.to_.toNat (w64 ((gd l1372 x1412.from_.toNat) + x1412.count))),(nA l1373 x1412.to_.toNat (↑k1375:Int)),x1412.to_)
          else
            some (l1372,l1373,x1374)
        else
          some (l1372,l1373,x1374)).bind fun (l1406,l1407,x1408) =>
      some (l1406,l1407,x1408)
theorem wMI {n:Nat} {es:List wAX} (hes:∀ e ∈ es,EdOK n e) {p:Bool} {k:Nat} (hk:k < es.length) {far by_:List Int} {last:Int} (hf:far.length=n) (hb:by_.length=n) {M:Int} (hM:M <= 1000000000000000) (h0:0 <= M) (hr:∀ v,v < n->gd far v=1125899906842624 \/ (-M <= gd far v/\gd far v <= M)) :
  (ed p (gd es k)).a < n/\(ed p (gd es k)).b < n /\
  spB es p k (far,by_,last)=some (if gd far (ed p (gd es k)).a < 1125899906842624/\gd far (ed p (gd es k)).a + (ed p (gd es k)).c < gd far (ed p (gd es k)).b then
   (far.set (ed p (gd es k)).b (gd far (ed p (gd es k)).a + (ed p (gd es k)).c),by_.set (ed p (gd es k)).b (k:Int),((ed p (gd es k)).b:Int)) else (far,by_,last)):=by
 obtain ⟨f0,f1,t0,t1,c0,c1⟩:=hes _ (wBg hk)
 have hw:∀ a:Int,0 <= a->a < n->gd far a.toNat < 1125899906842624->w64 (gd far a.toNat + (gd es k).count)=gd far a.toNat + (gd es k).count:=fun a h1 h2 h3=>by
  rcases hr a.toNat (by omega) with c | c
  ·omega
  ·exact wAW (by omega) (by omega)
 unfold spB ed
 rw [wHC hk]
 cases p with
 | true =>
  refine ⟨by simp only [if_true];omega,by simp only [if_true];omega,?_⟩
  simp only [hD,if_true]
  rw [wBa t0 (by omega),hD]
  by_cases a:gd far (gd es k).to_.toNat < 1125899906842624
  ·rw [if_pos a,wBa f0 (by omega),hD,hw _ t0 t1 a]
   by_cases b:gd far (gd es k).to_.toNat + (gd es k).count < gd far (gd es k).from_.toNat
   ·rw [if_pos b,wBa f0 (by omega),if_pos ⟨a,b⟩]
    simp only [hD]
    rw [show (((gd es k).from_.toNat:Nat):Int)=(gd es k).from_ by omega]
   ·rw [if_neg b,if_neg (fun h=>b h.2)];rfl
  ·rw [if_neg a,if_neg (fun h=>a h.1)];rfl
 | false =>
  refine ⟨by simp only [nS,if_false];omega,by simp only [nS,if_false];omega,?_⟩
  simp only [hD,nS,if_false]
  rw [wBa f0 (by omega),hD]
  by_cases a:gd far (gd es k).from_.toNat < 1125899906842624
  ·rw [if_pos a,wBa t0 (by omega),hD,hw _ f0 f1 a]
   by_cases b:gd far (gd es k).from_.toNat + (gd es k).count < gd far (gd es k).to_.toNat
   ·rw [if_pos b,wBa t0 (by omega),if_pos ⟨a,b⟩]
    simp only [hD]
    rw [show (((gd es k).to_.toNat:Nat):Int)=(gd es k).to_ by omega]
   ·rw [if_neg b,if_neg (fun h=>b h.2)];rfl
  ·rw [if_neg a,if_neg (fun h=>a h.1)];rfl
structure Ps (n:Nat) (es:List wAX) (p:Bool) (far:List Int) (M:Int) (i:Nat) (s:SS):Prop where
 fl:s.1.length=n
 bl:s.2.1.length=n
 rg:∀ v,v < n->gd s.1 v=1125899906842624 \/ (-(M + 400000 * (i:Int)) <= gd s.1 v/\gd s.1 v <= M + 400000 * (i:Int))
 le:∀ v,v < n->gd s.1 v <= gd far v
 ch:(s.2.2=-1/\s.1=far/\∀ e ∈ es.take i,gd far (ed p e).a < 1125899906842624->gd far (ed p e).b <= gd far (ed p e).a + (ed p e).c) \/ (0 <= s.2.2/\s.2.2 < n/\∃ v,v < n/\gd s.1 v < gd far v)
 fe:∀ x,wGI (es.map (ed p)) x->(∀ v,v < n->x v <= gd far v)->∀ v,v < n->x v <= gd s.1 v
 st:∀ δ,wGI (es.map (ed p)) δ->(∀ v,v < n->δ v <= gd far v)->(∀ v,v < n->δ v < 1125899906842624)->∀ e ∈ es.take i,gd far (ed p e).a=δ (ed p e).a->δ (ed p e).b=δ (ed p e).a + (ed p e).c->gd s.1 (ed p e).b=δ (ed p e).b
theorem wLK {n:Nat} {es:List wAX} (hes:∀ e ∈ es,EdOK n e) (hl:es.length <= 1000) (p:Bool) {far by_:List Int} (hf:far.length=n) (hb:by_.length=n) {M:Int} (hM:M <= 900000000000000) (h0:0 <= M) (hr:∀ v,v < n->gd far v=1125899906842624 \/ (-M <= gd far v/\gd far v <= M)) :
  ∃ s,wBc 0 (↑es.length:Int) (spB es p) (far,by_,-1)=some s/\Ps n es p far M es.length s:=by
 rw [wDe (by omega)]
 obtain ⟨s,e,P⟩:=wEE (body:=spB es p) (fun i s=>Ps n es p far M i s) es.length 0 (far,by_,-1)
  ⟨hf,hb,fun v hv=>by have:=hr v hv;simp only;omega,fun _ _=>Int.le_refl _,.inl ⟨rfl,rfl,fun e he=>by simp at he⟩,fun _ _ h=>h,fun _ _ _ _ e he=>by simp at he⟩ (by
  rintro i ⟨f,b,last⟩ _ hi P
  have hi':i < es.length:=by omega
  obtain ⟨fl,bl,rg,le,ch,fe,st⟩:=P
  simp only at fl bl rg le ch fe st
  obtain ⟨ha,hbb,e⟩:=wMI hes (p:=p) hi' (last:=last) fl bl (M:=M + 400000 * (i:Int)) (by omega) (by omega) rg
  have hm:=wBg hi'
  have hok:=hes _ hm
  have hc:-400000 <= (ed p (gd es i)).c/\(ed p (gd es i)).c <= 400000:=by
   have:=hok.c0;have:=hok.c1
   unfold ed
   split <;> exact ⟨by assumption,by assumption⟩
  have hfe:∀ x,wGI (es.map (ed p)) x->x (ed p (gd es i)).b <= x (ed p (gd es i)).a + (ed p (gd es i)).c:=fun x hx=>hx _ (hH.2 ⟨_,hm,rfl⟩)
  have hends:∀ e ∈ es.take i,(ed p e).a < n/\(ed p e).b < n:=fun e he=>by
   obtain ⟨a1,a2,a3,a4,_,_⟩:=hes e (List.mem_of_mem_take he)
   unfold ed
   split <;> (simp only;omega)
  generalize hE:ed p (gd es i)=E at ha hbb e hc hfe
  rw [e]
  by_cases c:gd f E.a < 1125899906842624/\gd f E.a + E.c < gd f E.b
  ·rw [if_pos c]
   obtain ⟨c1,c2⟩:=c
   have rga:-(M + 400000 * (i:Int)) <= gd f E.a/\gd f E.a <= M + 400000 * (i:Int):=by
    rcases rg E.a ha with q | q
    ·omega
    ·exact q
   have hg:∀ v,v < n->gd (f.set E.b (gd f E.a + E.c)) v=if v=E.b then gd f E.a + E.c else gd f v:=fun v hv=>wFe (by omega) (by omega)
   refine ⟨_,rfl,by simp [fl],by simp [bl],fun v hv=>?_,fun v hv=>?_,.inr ⟨by simp only;omega,by simp only;omega,E.b,hbb,?_⟩,fun x hx hxt v hv=>?_,fun δ hδ h1 h2 e' he' g1 g2=>?_⟩
   ·simp only
    rw [hg v hv]
    split
    ·right;omega
    ·rcases rg v hv with q | q
     ·exact .inl q
     ·right;omega
   ·simp only
    rw [hg v hv]
    split
    ·rename_i h;have:=le E.b hbb;rw [h];omega
    ·exact le v hv
   ·simp only
    rw [hg _ hbb,if_pos rfl]
    have:=le E.b hbb
    omega
   ·simp only
    rw [hg v hv]
    have:=fe x hx hxt
    split
    ·rename_i h
     have a1:=this E.a ha
     have a2:=hfe x hx
     rw [h];omega
    ·exact this v hv
   ·have lo:=fe δ hδ h1
    simp only
    rw [wGE hi'] at he'
    rcases nQ.1 he' with he' | he'
    ·have old:=st δ hδ h1 h2 e' he' g1 g2
     rw [hg _ (hends e' he').2]
     split
     ·rename_i h
      have a1:=lo E.a ha
      have a2:=hfe δ hδ
      rw [h] at old ⊢
      omega
     ·exact old
    ·have:=nT.1 he'
     subst this
     rw [hE] at g1 g2 ⊢
     rw [hg _ hbb,if_pos rfl]
     have a1:=lo E.a ha
     have a2:=le E.a ha
     omega
  ·rw [if_neg c]
   refine ⟨_,rfl,fl,bl,fun v hv=>?_,le,?_,fe,fun δ hδ h1 h2 e' he' g1 g2=>?_⟩
   ·rcases rg v hv with q | q
    ·exact .inl q
    ·right;simp only;omega
   ·simp only
    rcases ch with ⟨q1,q2,q3⟩ | q
    ·refine .inl ⟨q1,q2,fun e' he' g=>?_⟩
     rw [wGE hi'] at he'
     rcases nQ.1 he' with he' | he'
     ·exact q3 e' he' g
     ·have:=nT.1 he'
      subst this
      rw [hE] at g ⊢
      rw [q2] at c
      rcases kV (gd far E.a + E.c) (gd far E.b) with d | d
      ·exact absurd ⟨g,d⟩ c
      ·exact d
    ·exact .inr q
   ·have lo:=fe δ hδ h1
    rw [wGE hi'] at he'
    rcases nQ.1 he' with he' | he'
    ·exact st δ hδ h1 h2 e' he' g1 g2
    ·have:=nT.1 he'
     subst this
     rw [hE] at g1 g2 ⊢
     simp only
     have a1:=lo E.a ha
     have a2:=le E.a ha
     have a3:=lo E.b hbb
     have a4:=h2 E.a ha
     have fa:gd f E.a=δ E.a:=by omega
     rw [fa] at c
     rcases kV (δ E.a + E.c) (gd f E.b) with d | d
     ·exact absurd ⟨a4,d⟩ c
     ·omega)
 rw [na] at P
 exact ⟨s,e,P⟩
end Go.Proofs.Ytlnfbjphfoipaaa
namespace Go.Proofs.Ytlnfbjphfoipaaa
open Go.KL Go.KL.Net
theorem wEg {α:Type} [Inhabited α] (l:List α) (k:Nat):gd l k=(l[k]?).getD default:=by unfold gd;rw [nz]
theorem wJa {α:Type} {m ys:List α} {a:Nat} (h:a <= m.length):(cpy m a ys).length=m.length:=by
 unfold cpy
 simp only [nN,nM,List.length_drop]
 omega
theorem wKn {α:Type} [Inhabited α] {m ys:List α} {a j:Nat} (h:a <= m.length) (hj:j < m.length):gd (cpy m a ys) j=if j < a then gd m j else if j < a + ys.length then gd ys (j - a) else gd m j:=by
 rw [wEg,wEg,wEg]
 unfold cpy
 rw [nU]
 by_cases c:j < a
 ·rw [if_pos c,nh (by rw [nM];omega),nt,if_pos c]
 ·rw [if_neg c,nf (by rw [nM];omega),nM,Nat.min_eq_left h]
  by_cases d:j < a + ys.length
  ·rw [if_pos d,nh (by rw [nM];omega),nt,if_pos (by omega)]
  ·rw [if_neg d,nf (by rw [nM];omega),nM,List.getElem?_drop,Nat.min_eq_right (by omega)]
   congr 2
   omega
theorem wHf (x:Int) {n:Nat} (h1:1 <= n) (h2:n <= 1000):wAv [x] (n:Int)=some (nI n x):=by
 unfold wAv wDC
 have e1:wKE (([x]:List Int).length:Int)=1:=rfl
 have e2:wKE (n:Int)=n:=by unfold wKE;omega
 rw [if_neg (by omega),e1,e2,if_pos (by omega),hD]
 simp only
 rw [show (1:Int) * (n:Int) / 18446744073709551616=0 by omega,show (1:Int) * (n:Int) % 18446744073709551616=n by omega,if_neg (by omega),hD,decide_eq_false (by omega),if_neg (by simp),wAW (by omega) (by omega),mkz,if_pos (by omega),hD,wKF,if_pos (by simp),hD]
 have hlen:(nI (n:Int).toNat (0:Int)).length=n:=by simp
 generalize nI (n:Int).toNat (0:Int)=z at hlen
 have e3:((min ([x]:List Int).length z.length:Nat):Int)=1:=by simp only [nR];omega
 refine wHu (I:=fun i (s:List Int × Int)=>s.1.length=n/\(i:Int) + 1 <= s.2/\s.2 <= n/\∀ j,j < s.2.toNat->gd s.1 j=x) n ⟨by rw [wJa (by simp)];exact hlen,by simp only;omega,by simp only;omega,fun j hj=>?_⟩ (by omega) ?_
 ·simp only at hj ⊢
  rw [wKn (by simp) (by omega),if_neg (by simp),if_pos (by simp only [nR];omega)]
  have:j=0:=by omega
  subst this
  rfl
 ·rintro i ⟨l,k⟩ hi ⟨q1,q2,q3,q4⟩
  simp only at q1 q2 q3 q4 ⊢
  by_cases c:k < (l.length:Int)
  ·left
   refine ⟨by omega,?_⟩
   have hd:(List.take ((l.length:Int).toNat - k.toNat) (List.drop k.toNat l)).length=l.length - k.toNat:=by
    rw [nM,List.length_drop];omega
   have ht:(List.take (k.toNat - (0:Int).toNat) (List.drop (0:Int).toNat l))=l.take k.toNat:=by simp
   rw [if_pos c,cut,if_pos (by omega),hD,cut,if_pos (by omega),hD,wKF,if_pos (by omega),hD,ht,hd,nM]
   rw [wAW (by omega) (by omega)]
   refine ⟨_,rfl,by simp only;rw [wJa (by omega)];exact q1,by simp only;omega,by simp only;omega,fun j hj=>?_⟩
   simp only at hj ⊢
   rw [wKn (by omega) (by omega),nM]
   by_cases d:j < k.toNat
   ·rw [if_pos d];exact q4 j d
   ·rw [if_neg d,if_pos (by omega)]
    have:=q4 (j - k.toNat) (by omega)
    rw [wEg] at this ⊢
    rw [nt,if_pos (by omega)]
    exact this
  ·right
   rw [if_neg c,wIK]
   have:l=nI n x:=wJZ (by simp [q1]) fun j hj=>by
    rw [q4 j (by omega),wHe (by simpa [q1] using hj)];simp
   rw [this]
def wGF (i:Int) (v:Nat):Int:=if i < 0 \/ (v:Int)=i then 0 else 1125899906842624
theorem wKo (i:Int) (v:Nat):0 <= wGF i v/\wGF i v <= 1125899906842624:=by unfold wGF;split <;> omega
theorem wLL {n:Nat} (i:Int) {l:List Int} (hl:l.length=n) (hn:n <= 1000) (h0:∀ v,v < n->gd l v=1125899906842624):∃ y,(wBc 0 (↑l.length:Int) (fun k1254 l1253 =>
  if i < 0 then
   (chk (↑k1254:Int) l1253.length).bind fun _ =>
   some (nA l1253 k1254 0)
  else
   if (↑k1254:Int)=i then
    (chk (↑k1254:Int) l1253.length).bind fun _ =>
    some (nA l1253 k1254 0)
   else
    some l1253) l)=some y/\y.length=n/\∀ v,v < n->gd y v=wGF i v:=by
 rw [wDe (by omega)]
 obtain ⟨y,e,y1,y2⟩:=wEE (body:=fun (k1254:Nat) (l1253:List Int) =>
  if i < 0 then
   (chk (↑k1254:Int) l1253.length).bind fun _ =>
   some (nA l1253 k1254 0)
  else
   if (↑k1254:Int)=i then
    (chk (↑k1254:Int) l1253.length).bind fun _ =>
    some (nA l1253 k1254 0)
   else
    some l1253) (fun k s=>s.length=n/\∀ v,v < n->gd s v=if v < k then wGF i v else 1125899906842624) l.length 0 l ⟨hl,fun v hv=>by rw [if_neg (by omega)];exact h0 v hv⟩ (by
  rintro k s _ hk ⟨s1,s2⟩
  have hk':k < n:=by omega
  have hset:∀ v,v < n->gd (s.set k 0) v=if v=k then 0 else gd s v:=fun v hv=>wFe (by omega) (by omega)
  by_cases c:i < 0 \/ (k:Int)=i
  ·have hb:(if i < 0 then (chk (↑k:Int) s.length).bind fun _=>some (nA s k 0) else if (↑k:Int)=i then (chk (↑k:Int) s.length).bind fun _=>some (nA s k 0) else some s)=some (s.set k 0):=by
    rw [wBa (by omega) (by omega)]
    rcases c with c | c
    ·rw [if_pos c];rfl
    ·rw [if_pos c]
     split <;> rfl
   refine ⟨_,hb,by simp [s1],fun v hv=>?_⟩
   rw [hset v hv]
   by_cases e:v=k
   ·subst e
    rw [if_pos rfl,if_pos (by omega),wGF,if_pos c]
   ·rw [if_neg e,s2 v hv]
    by_cases d:v < k
    ·rw [if_pos d,if_pos (by omega)]
    ·rw [if_neg d,if_neg (by omega)]
  ·refine ⟨s,by rw [if_neg (fun h=>c (.inl h)),if_neg (fun h=>c (.inr h))],s1,fun v hv=>?_⟩
   rw [s2 v hv]
   by_cases d:v < k
   ·rw [if_pos d,if_pos (by omega)]
   ·by_cases e:v=k
    ·subst e
     rw [if_neg (by omega),if_pos (by omega),wGF,if_neg c]
    ·rw [if_neg d,if_neg (by omega)])
 rw [na] at y2
 exact ⟨y,e,y1,fun v hv=>by rw [y2 v hv,if_pos (by omega)]⟩
structure SpT (n:Nat) (es:List Ed) (i:Int) (far:List Int):Prop where
 fl:far.length=n
 rl:∀ e ∈ es,gd far e.a < 1125899906842624->gd far e.b <= gd far e.a + e.c
 rg:∀ v,v < n->gd far v=1125899906842624 \/ (-400000000000 <= gd far v/\gd far v <= 400000000000)
 le:∀ v,v < n->gd far v <= wGF i v
 fe:∀ x,wGI es x->(∀ v,v < n->x v <= wGF i v)->∀ v,v < n->x v <= gd far v
structure SpI (n:Nat) (es:List Ed) (i:Int) (t:Nat) (s:SS):Prop where
 fl:s.1.length=n
 bl:s.2.1.length=n
 rg:∀ v,v < n->gd s.1 v=1125899906842624 \/ (-(400000000 * (t:Int)) <= gd s.1 v/\gd s.1 v <= 400000000 * (t:Int))
 le:∀ v,v < n->gd s.1 v <= wGF i v
 fe:∀ x,wGI es x->(∀ v,v < n->x v <= wGF i v)->∀ v,v < n->x v <= gd s.1 v
 st:∀ δ,Most n es (wGF i) δ->(∀ v,v < n->δ v < 1125899906842624)->t <= wLh n δ fun v=>gd s.1 v
 la:t=0 \/ (0 <= s.2.2/\s.2.2 < n)
theorem wHg {d:wAY} {n:Nat} (hn:d.number.length=n) (h1:1 <= n) (h2:n <= 500) (hes:∀ e ∈ d.edges,EdOK n e) (hl:d.edges.length <= 1000) (i:Int) (p:Bool) :
  ∃ f last ok,wAb d i p=some (f,last,ok)/\f.by_.length=n/\f.far.length=n/\(ok=true->SpT n (d.edges.map (ed p)) i f.far)/\(ok=false->0 <= last/\last < n/\∀ δ,Most n (d.edges.map (ed p)) (wGF i) δ->¬ ∀ v,v < n->δ v < 1125899906842624):=by
 unfold wAb
 rw [hn,wHf _ h1 (by omega),hD,wHf _ h1 (by omega),hD,hD]
 simp only
 obtain ⟨y,e1,y1,y2⟩:=wLL (n:=n) i (l:=nI n 1125899906842624) (by simp) (by omega) (fun v hv=>by rw [wHe (by simpa using hv)];simp)
 rw [e1,hD,wAW (by omega) (by omega)]
 have hn1:((n:Int) + 1)=((n + 1:Nat):Int):=by omega
 rw [hn1,wEF (by omega)]
 have hmap:∀ e ∈ d.edges.map (ed p),e.a < n/\e.b < n:=fun e he=>by
  obtain ⟨q,hq,rfl⟩:=hH.1 he
  obtain ⟨a1,a2,a3,a4,_,_⟩:=hes q hq
  unfold ed
  split <;> (simp only;omega)
 rcases wIQ (B:=wCy × Int × Bool) (body:=fun (k1336:Nat) ((l1333,l1334,x1335):SS) =>
  (wBc 0 (↑d.edges.length:Int) (spB d.edges p) (l1333,l1334,-1)).bind fun (y1380,y1381,y1382) =>
  if y1382 < 0 then
   esc (some ((⟨y1380,y1381⟩:wCy),0,true))
  else
   some (.inl (y1380,y1381,y1382))) (fun t s=>SpI n (d.edges.map (ed p)) i t s) (fun b=>b.2.2=true/\b.1.by_.length=n/\SpT n (d.edges.map (ed p)) i b.1.far) (n + 1) 0 (y,nI n (-1),-1)
  ⟨y1,by simp,fun v hv=>by simp only;rw [y2 v hv];unfold wGF;split <;> omega,fun v hv=>by simp only;rw [y2 v hv];exact Int.le_refl _,fun x _ hx v hv=>by simp only;rw [y2 v hv];exact hx v hv,fun _ _ _=>Nat.zero_le _,.inl rfl⟩ (by
   rintro t ⟨far,by_,last⟩ _ ht ⟨fl,bl,rg,le,fe,st,la⟩
   simp only at fl bl rg le fe st
   obtain ⟨⟨far',by',last'⟩,e,P⟩:=wLK hes hl p fl bl (M:=400000000 * (t:Int)) (by omega) (by omega) rg
   obtain ⟨gl,ql,qg,qle,ch,qfe,qst⟩:=P
   simp only at gl ql qg qle ch qfe qst
   simp only
   rw [e,hD]
   simp only
   rcases ch with ⟨c1,c2,c3⟩ | ⟨c1,c2,v,hv,c3⟩
   ·right
    subst c1
    rw [if_pos (by omega)]
    refine ⟨_,rfl,rfl,ql,gl,fun e' he' hlt=>?_,fun v hv=>?_,fun v hv=>Int.le_trans (qle v hv) (le v hv),fun x hx hxt v hv=>qfe x hx (fe x hx hxt) v hv⟩
    ·obtain ⟨q,hq,rfl⟩:=hH.1 he'
     simp only at hlt ⊢
     rw [c2] at hlt ⊢
     rw [kG] at c3
     exact c3 q hq hlt
    ·simp only
     rw [c2]
     rcases rg v hv with q | q
     ·exact .inl q
     ·right;omega
   ·left
    rw [if_neg (by omega)]
    refine ⟨_,rfl,gl,ql,fun v hv=>?_,fun v hv=>Int.le_trans (qle v hv) (le v hv),fun x hx hxt v hv=>qfe x hx (fe x hx hxt) v hv,fun δ M hδ=>?_,.inr ⟨c1,c2⟩⟩
    ·simp only
     rcases qg v hv with q | q
     ·exact .inl q
     ·right;omega
    ·have old:=st δ M hδ
     have lo:=fe δ M.ok M.le
     have lo':=qfe δ M.ok lo
     simp only
     obtain ⟨e',he',g1,g2,g3⟩:=M.tight hmap (fun u=>gd far u) (fun u hu=>le u hu) ⟨v,hv,by have:=lo' v hv;omega⟩ lo
     obtain ⟨q,hq,rfl⟩:=hH.1 he'
     rw [kG] at qst
     have h5:=qst δ M.ok lo hδ q hq g1 g3
     have:=wLJ (n:=n) (δ:=δ) (low:=fun u=>gd far u) (low':=fun u=>gd far' u) lo' (fun u hu=>qle u hu) (hmap _ he').2 g2 h5
     omega) with ⟨⟨far,by_,last⟩,e,I⟩ | ⟨⟨f,last,ok⟩,e,h3,h4,h5⟩
 ·refine ⟨⟨far,by_⟩,last,false,?_,I.bl,I.fl,(fun h=>by cases h),fun _=>?_⟩
  ·show jn (forN _ (n + 1) 0 (y,nI n (-1),-1)) _=_
   erw [e]
   rfl
  ·have hla:=I.la
   simp only at hla
   refine ⟨by omega,by omega,fun δ M hδ=>?_⟩
   have h6:0 + (n + 1) <= wLh n δ fun v=>gd far v:=I.st δ M hδ
   have:=wLI n δ fun v=>gd far v
   omega
 ·simp only at h3 h4 h5
  subst h3
  refine ⟨f,last,true,?_,h4,h5.fl,fun _=>h5,fun h=>by cases h⟩
  show jn (forN _ (n + 1) 0 (y,nI n (-1),-1)) _=_
  erw [e]
  rfl
theorem SpT.fin {n:Nat} {R:Int} {es:List Ed} (C:Con n R es) (hc:∀ e ∈ es,e.c <= 400000) {i:Int} {far:List Int} (S:SpT n es i far) {k:Nat} (hk:k < n) (h0:wGF i k=0):∀ v,v < n->gd far v < 1125899906842624 :=
 C.all (fun v=>v < n->gd far v < 1125899906842624) k hk (fun _=>by have:=S.le k hk;omega) (fun e he h _=>by
  obtain ⟨h1,h2⟩:=C.ends e he
  have a:=h h1
  have b:=S.rl e he a
  have c:=hc e he
  rcases S.rg e.a h1 with q | q <;> omega) |> fun h v hv=>h v hv hv
theorem SpT.feas {n:Nat} {R:Int} {es:List Ed} (C:Con n R es) (hc:∀ e ∈ es,e.c <= 400000) {i:Int} {far:List Int} (S:SpT n es i far) {k:Nat} (hk:k < n) (h0:wGF i k=0):wGI es fun v=>gd far v :=
 fun e he=>S.rl e he (S.fin C hc hk h0 e.a (C.ends e he).1)
theorem SpT.isD {n:Nat} {R:Int} (hR:R <= 1000000000000) {es:List Ed} (C:Con n R es) (hc:∀ e ∈ es,e.c <= 400000) {i:Nat} (hi:i < n) {far:List Int} (S:SpT n es i far):IsD n es i fun v=>gd far v:=by
 have t0:wGF i i=0:=by unfold wGF;rw [if_pos (.inr rfl)]
 have F:=S.feas C hc hi t0
 have gr:∀ x,wGI es x->∀ v,v < n->x v - x i <= gd far v:=fun x hx v hv=>by
  have:=S.fe (fun u=>x u + (-(x i))) (wMH hx _) (fun u hu=>by
   show x u + (-(x i)) <= _
   have:=C.near x hx i u hi hu
   unfold wGF
   split
   ·rename_i h
    rcases h with h | h
    ·omega
    ·have:u=i:=by omega
     subst this;omega
   ·omega) v hv
  have this:x v + (-(x i)) <= gd far v:=this
  omega
 have h1:=gr _ F i hi
 have h2:=S.le i hi
 exact ⟨F,by show gd far i=0;omega,gr⟩
end Go.Proofs.Ytlnfbjphfoipaaa
namespace Go.KL
def wLM (q:Nat->Bool):Nat->Nat->Bool
 | 0,_=>true
 | m + 1,k=>q k && wLM q m (k + 1)
theorem wDt (q:Nat->Bool):∀ m k,wLM q m k=true ↔ ∀ i,k <= i->i < k + m->q i=true
 | 0,k=>⟨fun _ i h1 h2=>by omega,fun _=>rfl⟩
 | m + 1,k=>by
  rw [wLM,nD,wDt q m (k + 1)]
  constructor
  ·rintro ⟨h1,h2⟩ i h3 h4
   by_cases e:i=k
   ·exact e ▸ h1
   ·exact h2 i (by omega) (by omega)
  ·exact fun h=>⟨h k (by omega) (by omega),fun i h1 h2=>h i (by omega) (by omega)⟩
end Go.KL
namespace Go.Proofs.Ytlnfbjphfoipaaa
open Go.KL Go.KL.Net
structure RC (r:wAD):Prop where
 n:1 <= r.Starts.length/\r.Starts.length <= 8
 m:r.Splits.length <= 7
 c:r.Clocks.length <= 4
 q:r.Readings.length <= 40
 st:∀ s ∈ r.Starts,0 <= s/\s <= 360000
 sp:∀ s ∈ r.Splits,s.Lo <= s.Hi/\0 <= s.Lo/\s.Hi <= 360000
 ck:∀ s ∈ r.Clocks,(s.Offset.Lo <= s.Offset.Hi/\-36000 <= s.Offset.Lo/\s.Offset.Hi <= 36000)/\0 <= s.Error/\s.Error <= 600
 rt:∀ x ∈ r.Readings,0 <= x.Time/\x.Time <= 360000
 ru:∀ x ∈ r.Readings,0 <= x.Skier/\x.Skier < r.Starts.length/\0 <= x.Mat/\x.Mat <= r.Splits.length/\0 <= x.Clock/\x.Clock < r.Clocks.length
def zp:wAL:=⟨-1,0⟩
def wEm (r:wAD) (p:wAL):Prop:=p=zp \/ (0 <= p.skier/\p.skier < r.Starts.length/\0 <= p.mat/\p.mat <= r.Splits.length) \/ (p.skier=-1/\1 <= p.mat/\p.mat <= r.Clocks.length)
def wDk (r:wAD) (x:wAJ):Prop :=
 (x.Kind=0/\0 <= x.Skier/\x.Skier < r.Starts.length/\x.Index=0) \/ (x.Kind=1/\0 <= x.Skier/\x.Skier < r.Starts.length/\0 <= x.Index/\x.Index < r.Splits.length) \/
 (x.Kind=2/\x.Skier=0/\0 <= x.Index/\x.Index < r.Clocks.length) \/ (x.Kind=3/\x.Skier=0/\0 <= x.Index/\x.Index < r.Readings.length)
abbrev Pt:=wAL
def wCs (r:wAD) (x:wAJ):Pt × Pt × Int × Int :=
 if x.Kind=0 then (zp,⟨x.Skier,0⟩,gd r.Starts x.Skier.toNat,-gd r.Starts x.Skier.toNat)
 else if x.Kind=1 then (⟨x.Skier,x.Index⟩,⟨x.Skier,x.Index + 1⟩,(gd r.Splits x.Index.toNat).Hi,-(gd r.Splits x.Index.toNat).Lo)
 else if x.Kind=2 then (zp,⟨-1,1 + x.Index⟩,-(gd r.Clocks x.Index.toNat).Offset.Lo,(gd r.Clocks x.Index.toNat).Offset.Hi)
 else (⟨-1,1 + (gd r.Readings x.Index.toNat).Clock⟩,⟨(gd r.Readings x.Index.toNat).Skier,(gd r.Readings x.Index.toNat).Mat⟩,(gd r.Readings x.Index.toNat).Time + (gd r.Clocks (gd r.Readings x.Index.toNat).Clock.toNat).Error,(gd r.Clocks (gd r.Readings x.Index.toNat).Clock.toNat).Error - (gd r.Readings x.Index.toNat).Time)
def wDH (r:wAD) (x:wAJ):Pt × Pt × Int:=if x.Up=true then ((wCs r x).1,(wCs r x).2.1,(wCs r x).2.2.1) else ((wCs r x).2.1,(wCs r x).1,(wCs r x).2.2.2)
theorem wEZ {α:Type} [Inhabited α] {l:List α} {i:Int} (h0:0 <= i) (h1:i < l.length):idx l i=some (gd l i.toNat):=by
 obtain ⟨k,rfl⟩:=kI h0
 rw [wHC (by omega)]
 rfl
theorem wCV {α:Type} [Inhabited α] {l:List α} {i:Int} (h0:0 <= i) (h1:i < l.length):gd l i.toNat ∈ l:=wBg (by omega)
theorem wKO {r:wAD} (C:RC r) {x:wAJ} (h:wDk r x):wBG r x=some (wDH r x):=by
 unfold wBG wBF wDM wDN wDO wDP wDQ wDR wDA wDB wBu wCS
 have hm:=C.m;have hc:=C.c;have hq:=C.q;have hn:=C.n
 rcases h with ⟨k,a,b,c⟩ | ⟨k,a,b,c,d⟩ | ⟨k,a,c,d⟩ | ⟨k,a,c,d⟩
 ·have g:=C.st _ (wCV a b)
  have e4:wCs r x=(zp,⟨x.Skier,0⟩,gd r.Starts x.Skier.toNat,-gd r.Starts x.Skier.toNat):=if_pos k
  have w:w64 (-gd r.Starts x.Skier.toNat)=-gd r.Starts x.Skier.toNat:=wAW (by omega) (by omega)
  rw [if_pos k,wEZ a b]
  simp only [hD]
  rw [w]
  unfold wDH
  rw [e4]
  split <;> rfl
 ·have g:=C.sp _ (wCV c d)
  have e4:wCs r x=(⟨x.Skier,x.Index⟩,⟨x.Skier,x.Index + 1⟩,(gd r.Splits x.Index.toNat).Hi,-(gd r.Splits x.Index.toNat).Lo):=(if_neg (by omega)).trans (if_pos k)
  have w:w64 (-(gd r.Splits x.Index.toNat).Lo)=-(gd r.Splits x.Index.toNat).Lo:=wAW (by omega) (by omega)
  have w2:w64 (x.Index + 1)=x.Index + 1:=wAW (by omega) (by omega)
  rw [if_neg (by omega),if_pos k,wEZ c d]
  simp only [hD]
  rw [w,w2]
  unfold wDH
  rw [e4]
  split <;> rfl
 ·have g:=C.ck _ (wCV c d)
  have e4:wCs r x=(zp,⟨-1,1 + x.Index⟩,-(gd r.Clocks x.Index.toNat).Offset.Lo,(gd r.Clocks x.Index.toNat).Offset.Hi):=(if_neg (by omega)).trans ((if_neg (by omega)).trans (if_pos k))
  have w:w64 (-(gd r.Clocks x.Index.toNat).Offset.Lo)=-(gd r.Clocks x.Index.toNat).Offset.Lo:=wAW (by omega) (by omega)
  have w2:w64 (1 + x.Index)=1 + x.Index:=wAW (by omega) (by omega)
  rw [if_neg (by omega),if_neg (by omega),if_pos k,wEZ c d]
  simp only [hD]
  rw [w,w2]
  unfold wDH
  rw [e4]
  split <;> rfl
 ·have g:=C.rt _ (wCV c d)
  have u:=C.ru _ (wCV c d)
  have gc:=C.ck _ (wCV u.2.2.2.2.1 u.2.2.2.2.2)
  have e4:wCs r x=(⟨-1,1 + (gd r.Readings x.Index.toNat).Clock⟩,⟨(gd r.Readings x.Index.toNat).Skier,(gd r.Readings x.Index.toNat).Mat⟩,(gd r.Readings x.Index.toNat).Time + (gd r.Clocks (gd r.Readings x.Index.toNat).Clock.toNat).Error,(gd r.Clocks (gd r.Readings x.Index.toNat).Clock.toNat).Error - (gd r.Readings x.Index.toNat).Time):=(if_neg (by omega)).trans ((if_neg (by omega)).trans (if_neg (by omega)))
  rw [if_neg (by omega),if_neg (by omega),if_neg (by omega),if_pos k,wEZ c d]
  simp only [hD]
  rw [wEZ u.2.2.2.2.1 u.2.2.2.2.2]
  simp only [hD]
  generalize gd r.Readings x.Index.toNat=X at *
  generalize gd r.Clocks X.Clock.toNat=Y at *
  have w:w64 (X.Time + Y.Error)=X.Time + Y.Error:=wAW (by omega) (by omega)
  have w2:w64 (1 + X.Clock)=1 + X.Clock:=wAW (by omega) (by omega)
  have w3:w64 (Y.Error - X.Time)=Y.Error - X.Time:=wAW (by omega) (by omega)
  rw [w,w2,w3]
  unfold wDH
  rw [e4]
  split <;> rfl
theorem wEw {r:wAD} (C:RC r) {x:wAJ} (h:wDk r x):wEm r (wDH r x).1/\wEm r (wDH r x).2.1/\-400000 <= (wDH r x).2.2/\(wDH r x).2.2 <= 400000:=by
 have key:wEm r (wCs r x).1/\wEm r (wCs r x).2.1/\(-400000 <= (wCs r x).2.2.1/\(wCs r x).2.2.1 <= 400000)/\(-400000 <= (wCs r x).2.2.2/\(wCs r x).2.2.2 <= 400000):=by
  have hn:=C.n
  unfold wCs
  rcases h with ⟨k,a,b,c⟩ | ⟨k,a,b,c,d⟩ | ⟨k,a,c,d⟩ | ⟨k,a,c,d⟩
  ·have g:=C.st _ (wCV a b)
   rw [if_pos k]
   exact ⟨.inl rfl,.inr (.inl ⟨a,b,by simp only;omega,by simp only;omega⟩),by simp only;omega,by simp only;omega⟩
  ·have g:=C.sp _ (wCV c d)
   rw [if_neg (by omega),if_pos k]
   exact ⟨.inr (.inl ⟨a,b,by simp only;omega,by simp only;omega⟩),.inr (.inl ⟨a,b,by simp only;omega,by simp only;omega⟩),by simp only;omega,by simp only;omega⟩
  ·have g:=C.ck _ (wCV c d)
   rw [if_neg (by omega),if_neg (by omega),if_pos k]
   exact ⟨.inl rfl,.inr (.inr ⟨rfl,by simp only;omega,by simp only;omega⟩),by simp only;omega,by simp only;omega⟩
  ·have g:=C.rt _ (wCV c d)
   have u:=C.ru _ (wCV c d)
   have gc:=C.ck _ (wCV u.2.2.2.2.1 u.2.2.2.2.2)
   rw [if_neg (by omega),if_neg (by omega),if_neg (by omega)]
   exact ⟨.inr (.inr ⟨rfl,by simp only;omega,by simp only;omega⟩),.inr (.inl ⟨u.1,u.2.1,u.2.2.1,u.2.2.2.1⟩),by simp only;omega,by simp only;omega⟩
 obtain ⟨h1,h2,h3,h4⟩:=key
 unfold wDH
 split
 ·exact ⟨h1,h2,h3⟩
 ·exact ⟨h2,h1,h4⟩
def two (kind skier i:Nat):List wAJ:=[⟨kind,skier,i,true⟩,⟨kind,skier,i,false⟩]
def wHh (kind skier m:Nat):List wAJ:=(nB m).flatMap (two kind skier)
def skL (kind ns m:Nat):List wAJ:=(nB ns).flatMap fun s=>wHh kind s m
def wHi (r:wAD):List wAJ:=skL 0 r.Starts.length 1 ++ (skL 1 r.Starts.length r.Splits.length ++ (skL 2 1 r.Clocks.length ++ skL 3 1 r.Readings.length))
theorem wLN {kind ns m:Nat} {x:wAJ}:x ∈ skL kind ns m ↔ x.Kind=kind/\0 <= x.Skier/\x.Skier < ns/\0 <= x.Index/\x.Index < m:=by
 unfold skL wHh two
 simp only [List.mem_flatMap,nJ,ny,List.not_mem_nil,or_false]
 constructor
 ·rintro ⟨s,hs,i,hi,rfl | rfl⟩ <;> exact ⟨rfl,by simp only;omega,by simp only;omega,by simp only;omega,by simp only;omega⟩
 ·rintro ⟨a,b,c,d,e⟩
  refine ⟨x.Skier.toNat,by omega,x.Index.toNat,by omega,?_⟩
  obtain ⟨k,s,i,u⟩:=x
  simp only at a b c d e
  subst a
  rw [nE b,nE d]
  cases u <;> simp
theorem wEa {r:wAD} {x:wAJ}:x ∈ wHi r ↔ wDk r x:=by
 unfold wHi wDk
 simp only [nQ,wLN]
 omega
theorem wLO (kind ns m:Nat):(skL kind ns m).length=2 * m * ns:=by
 unfold skL wHh
 rw [kS]
 have:∀ s:Nat,((nB m).flatMap (two kind s)).length=2 * m:=fun s=>by
  rw [kS]
  have e:(nB m).map (fun a=>(two kind s a).length)=nI m 2:=by
   apply kF (by simp)
   intro i h1 h2
   simp [two]
  rw [e,kL]
  omega
 have e:(nB ns).map (fun s=>((nB m).flatMap (two kind s)).length)=nI ns (2 * m):=by
  apply kF (by simp)
  intro i h1 h2
  simp [this]
 rw [e,kL,Nat.mul_comm]
theorem wHj {r:wAD} (C:RC r):(wHi r).length <= 216:=by
 unfold wHi
 simp only [nN,wLO]
 have hm:=C.m;have hc:=C.c;have hq:=C.q;have hn:=C.n
 have h1:2 * r.Splits.length * r.Starts.length <= 14 * 8:=Nat.mul_le_mul (by omega) hn.2
 omega
section
variable {S E:Type}
def wHL (f:S->wAJ->Option (S ⊕ E)):List wAJ->S->Option (S ⊕ E)
 | [],s=>some (.inl s)
 | x :: l,s=>(f s x).bind fun y=>match y with
  | .inl s'=>wHL f l s'
  | .inr e=>some (.inr e)
theorem wIT (f:S->wAJ->Option (S ⊕ E)):∀ (l m:List wAJ) (s:S),wHL f (l ++ m) s=(wHL f l s).bind fun y=>match y with
  | .inl s'=>wHL f m s'
  | .inr e=>some (.inr e)
 | [],_,_=>rfl
 | x :: l,m,s=>by
  rw [nl,wHL,wHL]
  cases f s x with
  | none=>rfl
  | some y=>cases y with
   | inl s'=>exact wIT f l m s'
   | inr e=>rfl
def lif {B:Type} (k:E->B) (x:Option (S ⊕ E)):Option (S ⊕ B):=x.bind fun y=>match y with
 | .inl s=>some (.inl s)
 | .inr e=>some (.inr (k e))
theorem wFm {B:Type} (k:E->B) {body:Nat->S->Option (S ⊕ B)} {f:S->wAJ->Option (S ⊕ E)} {L:Nat->List wAJ}:∀ (m i:Nat) (s:S),(∀ j s,i <= j->j < i + m->body j s=lif k (wHL f (L j) s))->forN body m i s=lif k (wHL f ((List.range' i m).flatMap L) s)
 | 0,_,_,_=>rfl
 | m + 1,i,s,h=>by
  rw [forN,h i s (nX _) (by omega),List.range'_succ,nO,wIT]
  cases wHL f (L i) s with
  | none=>rfl
  | some y=>cases y with
   | inl s'=>exact wFm k m (i + 1) s' fun j s h1 h2=>h j s (by omega) (by omega)
   | inr e=>rfl
theorem wKp {B:Type} (k:E->B) (x:Option (S ⊕ E)):jn (lif (fun e=>(.inr (k e):S ⊕ B)) x) (fun y=>some (.inl y))=lif k x:=by
 cases x with
 | none=>rfl
 | some y=>cases y <;> rfl
theorem wMJ (x:Option (S ⊕ E)):jn (lif (fun e=>(.inr e:S ⊕ E)) x) (fun y=>some (.inl y))=x:=by
 cases x with
 | none=>rfl
 | some y=>cases y <;> rfl
theorem wMK (f:S->wAJ->Option (S ⊕ E)) (kind skier i:Nat) (s:S):((f s (⟨(kind:Int),(skier:Int),(i:Int),true⟩:wAJ)).bind fun yr141 =>
          match yr141 with
          | .inl s151 =>
            (f s151 (⟨(kind:Int),(skier:Int),(i:Int),false⟩:wAJ)).bind fun yr154 =>
            match yr154 with
            | .inl s164 =>
              some (.inl s164)
            | .inr s164 =>
              esc (esc (esc (some (.inr s164))))
          | .inr s151 =>
            esc (esc (esc (some (.inr s151)))))=lif (fun e=>(.inr (.inr (.inr e)):S ⊕ (S ⊕ (S ⊕ E)))) (wHL f (two kind skier i) s):=by
  unfold two
  rw [wHL]
  cases f s (⟨(kind:Int),(skier:Int),(i:Int),true⟩:wAJ) with
  | none=>rfl
  | some y=>cases y with
    | inr e=>rfl
    | inl s' =>
      simp only [hD]
      rw [wHL]
      cases f s' (⟨(kind:Int),(skier:Int),(i:Int),false⟩:wAJ) with
      | none=>rfl
      | some y=>cases y <;> rfl
theorem wJb (f:S->wAJ->Option (S ⊕ E)) (s0:S) {r:wAD} (C:RC r):wBk f s0 r=wHL f (wHi r) s0:=by
  unfold wBk
  have hm:=C.m;have hc:=C.c;have hq:=C.q;have hn:=C.n
  have inner:∀ (kind skier m:Nat) (s:S),m <= 1000->(wEh 0 (m:Int) (fun k113 s111 =>
          (f s111 (⟨(kind:Int),(skier:Int),(↑k113:Int),true⟩:wAJ)).bind fun yr141 =>
          match yr141 with
          | .inl s151 =>
            (f s151 (⟨(kind:Int),(skier:Int),(↑k113:Int),false⟩:wAJ)).bind fun yr154 =>
            match yr154 with
            | .inl s164 =>
              some (.inl s164)
            | .inr s164 =>
              esc (esc (esc (some (.inr s164))))
          | .inr s151 =>
            esc (esc (esc (some (.inr s151))))) s)=lif (fun e=>(.inr (.inr (.inr e)):S ⊕ (S ⊕ (S ⊕ E)))) (wHL f (wHh kind skier m) s):=fun kind skier m s hm=>by
    rw [wEF (by omega),wFm (fun e=>(.inr (.inr (.inr e)):S ⊕ (S ⊕ (S ⊕ E)))) (f:=f) (L:=two kind skier) m 0 s fun j s _ _=>wMK f kind skier j s,<- kR]
    rfl
  have skier:∀ (kind ns m:Nat) (s:S),ns <= 1000->m <= 1000->(jn (wEh 0 (ns:Int) (fun k78 s76 =>
        jn (wEh 0 (m:Int) (fun k113 s111 =>
          (f s111 (⟨(kind:Int),(↑k78:Int),(↑k113:Int),true⟩:wAJ)).bind fun yr141 =>
          match yr141 with
          | .inl s151 =>
            (f s151 (⟨(kind:Int),(↑k78:Int),(↑k113:Int),false⟩:wAJ)).bind fun yr154 =>
            match yr154 with
            | .inl s164 =>
              some (.inl s164)
            | .inr s164 =>
              esc (esc (esc (some (.inr s164))))
          | .inr s151 =>
            esc (esc (esc (some (.inr s151))))) s76) fun y195 =>
        some (.inl y195)) s) fun y219 =>
      some (.inl y219))=lif (fun e=>(.inr e:S ⊕ E)) (wHL f (skL kind ns m) s):=fun kind ns m s hns hm=>by
    rw [wEF (by omega),wFm (fun e=>(.inr (.inr e):S ⊕ (S ⊕ E))) (f:=f) (L:=fun q=>wHh kind q m) ns 0 s fun j s _ _=>by rw [inner kind j m s hm,wKp],wKp,<- kR]
    rfl
  unfold wEh
  rw [if_pos (by omega)]
  show jn (forN _ 4 0 s0) _=_
  rw [wFm (fun e=>(.inr e:S ⊕ E)) (f:=f) (L:=fun k=>if k=0 then skL 0 r.Starts.length 1 else if k=1 then skL 1 r.Starts.length r.Splits.length else if k=2 then skL 2 1 r.Clocks.length else skL 3 1 r.Readings.length) 4 0 s0 fun j s _ hj=>?_,wMJ]
  · congr 1
    show nZ _ [0,1,2,3]=_
    simp only [nO,List.flatMap_nil,nq]
    rfl
  · have:j=0 \/ j=1 \/ j=2 \/ j=3:=by omega
    rcases this with rfl | rfl | rfl | rfl
    · exact skier 0 r.Starts.length 1 s (by omega) (by omega)
    · exact skier 1 r.Starts.length r.Splits.length s (by omega) (by omega)
    · exact skier 2 1 r.Clocks.length s (by omega) (by omega)
    · exact skier 3 1 r.Readings.length s (by omega) (by omega)
end
end Go.Proofs.Ytlnfbjphfoipaaa
namespace Go.Proofs.Ytlnfbjphfoipaaa
open Go.KL Go.KL.Net
def wEM:List Pt->Nat->List (Pt × Int)
 | [],_=>[]
 | p :: l,k=>(p,(k:Int)) :: wEM l (k + 1)
theorem wHE:∀ (l:List Pt) (k:Nat),(wEM l k).length=l.length
 | [],_=>rfl
 | _ :: l,k=>by rw [wEM,nH,nH,wHE l]
theorem wIU:∀ (l:List Pt) (p:Pt) (k:Nat),wEM (l ++ [p]) k=wEM l k ++ [(p,((k + l.length:Nat):Int))]
 | [],p,k=>by simp [wEM]
 | a :: l,p,k=>by
  rw [nl,wEM,wEM,wIU l p (k + 1),nl,nH]
  congr 4
  omega
theorem wIV:∀ {l:List Pt} {k:Nat} {p:Pt},p ∉ l->wKC (wEM l k) p=none/\∀ v,wFU (wEM l k) p v=wEM l k ++ [(p,v)]
 | [],_,_,_=>⟨rfl,fun _=>rfl⟩
 | a :: l,k,p,h=>by
  rw [ny,not_or] at h
  obtain ⟨h1,h2⟩:=wIV (l:=l) (k:=k + 1) h.2
  refine ⟨by rw [wEM,wKC,if_neg h.1];exact h1,fun v=>?_⟩
  rw [wEM,wFU,if_neg h.1,h2 v];rfl
theorem wJc:∀ {l:List Pt} {k i:Nat},l.Nodup->i < l.length->wKC (wEM l k) (gd l i)=some ((k + i:Nat):Int)
 | a :: l,k,0,_,_=>by
  rw [wEM,wKC]
  exact if_pos rfl
 | a :: l,k,i + 1,nd,hi=>by
  rw [List.nodup_cons] at nd
  have hi':i < l.length:=by simpa using hi
  have e:gd (a :: l) (i + 1)=gd l i:=rfl
  have hne:gd l i ≠ a:=fun h=>nd.1 (h ▸ wBg hi')
  rw [e,wEM,wKC,if_neg hne,wJc nd.2 hi']
  congr 2
  omega
def pos (pts:List Pt) (p:Pt):Nat:=(wAw (wEM pts 0) p 0).toNat
theorem wEn {α:Type} [Inhabited α] {l:List α} {a:α} (h:a ∈ l):∃ i,i < l.length/\gd l i=a:=by
 obtain ⟨i,hi,e⟩:=List.getElem_of_mem h
 exact ⟨i,hi,by rw [wHe hi,e]⟩
theorem wIW {pts:List Pt} (nd:pts.Nodup) {i:Nat} (hi:i < pts.length):pos pts (gd pts i)=i/\wAw (wEM pts 0) (gd pts i) 0=(i:Int)/\wJD (wEM pts 0) (gd pts i)=true:=by
 unfold pos wAw wJD
 rw [wJc nd hi]
 simp
theorem wGk {pts:List Pt} (nd:pts.Nodup) {p:Pt} (h:p ∈ pts):pos pts p < pts.length/\gd pts (pos pts p)=p/\wAw (wEM pts 0) p 0=(pos pts p:Int)/\wJD (wEM pts 0) p=true:=by
 obtain ⟨i,hi,rfl⟩:=wEn h
 obtain ⟨h1,h2,h3⟩:=wIW nd hi
 rw [h1]
 exact ⟨hi,rfl,h2,h3⟩
def wGJ (pts:List Pt) (p:Pt):List Pt:=if p ∈ pts then pts else pts ++ [p]
theorem wHv {pts:List Pt} (nd:pts.Nodup) (p:Pt):(wGJ pts p).Nodup:=by
 unfold wGJ
 split
 ·exact nd
 ·rename_i h
  rw [ni]
  exact ⟨nd,by simp,fun a ha b hb e=>h (by rw [nT.1 hb] at e;exact e ▸ ha)⟩
theorem wDU {pts:List Pt} {p q:Pt}:q ∈ wGJ pts p ↔ q ∈ pts \/ q=p:=by
 unfold wGJ
 split
 ·rename_i h
  exact ⟨.inl,fun e=>e.elim id fun e=>e ▸ h⟩
 ·rw [nQ,nT]
theorem wIX (pts:List Pt) (p:Pt):pts.length <= (wGJ pts p).length/\(wGJ pts p).length <= pts.length + 1:=by
 unfold wGJ
 split <;> simp
theorem wIY {pts:List Pt} (nd:pts.Nodup) {p q:Pt} (h:q ∈ pts):wAw (wEM (wGJ pts p) 0) q 0=wAw (wEM pts 0) q 0:=by
 unfold wGJ
 split
 ·rfl
 ·rename_i hp
  obtain ⟨i,hi,rfl⟩:=wEn h
  have e:gd (pts ++ [p]) i=gd pts i:=wDT hi
  have nd2:=wHv nd p
  unfold wGJ at nd2
  rw [if_neg hp] at nd2
  rw [(wIW nd hi).2.1,<- e,(wIW nd2 (by rw [nN];omega)).2.1]
theorem wIZ {pts:List Pt} (nd:pts.Nodup) (p:Pt):(if (wJD (wEM pts 0) p)=true then some (wEM pts 0) else some (wFU (wEM pts 0) p (↑((wEM pts 0).length):Int)))=some (wEM (wGJ pts p) 0):=by
 by_cases h:p ∈ pts
 ·rw [if_pos (wGk nd h).2.2.2,wGJ,if_pos h]
 ·have ho:=wIV (k:=0) h
  have hn:¬ wJD (wEM pts 0) p=true:=by unfold wJD;rw [ho.1];simp
  rw [if_neg hn,ho.2,wGJ,if_neg h,wIU,wHE,na]
theorem wJd {pts:List Pt} {p:Pt} {i:Nat} (h:i < pts.length):gd (wGJ pts p) i=gd pts i:=by
 unfold wGJ
 split
 ·rfl
 ·exact wDT h
def mkE (r:wAD) (pts:List Pt) (x:wAJ):wAX:=⟨x,wAw (wEM pts 0) (wDH r x).1 0,wAw (wEM pts 0) (wDH r x).2.1 0,(wDH r x).2.2⟩
structure Desk (r:wAD) (d:wAY) (pts:List Pt):Prop where
 c:RC r
 race:d.Race=r
 num:d.number=wEM pts 0
 nd:pts.Nodup
 len:1 <= pts.length/\pts.length <= 433
 zero:gd pts 0=zp
 all:∀ p,p ∈ pts ↔ wEm r p
 edges:d.edges=(wHi r).map (mkE r pts)
structure OpI (r:wAD) (pre:List wAJ) (s:List wAX × List (Pt × Int)) (pts:List Pt):Prop where
 num:s.2=wEM pts 0
 nd:pts.Nodup
 len:1 <= pts.length/\pts.length <= 1 + 2 * pre.length
 zero:gd pts 0=zp
 ok:∀ p ∈ pts,wEm r p
 has:∀ x ∈ pre,(wDH r x).1 ∈ pts/\(wDH r x).2.1 ∈ pts
 edges:s.1=pre.map (mkE r pts)
def opF (r:wAD):List wAX × List (Pt × Int)->wAJ->Option ((List wAX × List (Pt × Int)) ⊕ Empty):=fun (l1591,l1595) x1616 =>
  (wBG r x1616).bind fun (x1652,x1653,x1654) =>
  (wBc 0 2 (fun k1692 l1689 =>
   (idx ([x1652,x1653]:List wAL) (↑k1692:Int)).bind fun x1718 =>
   if (wJD l1689 x1718)=true then
    some l1689
   else
    some (wFU l1689 x1718 (↑(l1689.length):Int))) l1595).bind fun y1697 =>
  (app 56 l1591 [(⟨x1616,(wAw y1697 x1652 0),(wAw y1697 x1653 0),x1654⟩:wAX)]).bind fun x1773 =>
  some (.inl (x1773,y1697))
theorem wML {r:wAD} (C:RC r) {pre:List wAJ} (hp:pre.length <= 216) {x:wAJ} (hx:wDk r x) {s:List wAX × List (Pt × Int)} {pts:List Pt} (I:OpI r pre s pts):∃ s' pts',opF r s x=some (.inl s')/\OpI r (pre ++ [x]) s' pts':=by
 obtain ⟨es,num⟩:=s
 obtain ⟨hn,nd,hl,hz,ok,has,he⟩:=I
 simp only at hn he
 subst hn he
 obtain ⟨o1,o2,_,_⟩:=wEw C hx
 unfold opF
 simp only
 rw [wKO C hx,hD]
 have nd1:=wHv nd (wDH r x).1
 have nd2:=wHv nd1 (wDH r x).2.1
 have loop:(wBc 0 2 (fun k1692 l1689 =>
   (idx ([(wDH r x).1,(wDH r x).2.1]:List wAL) (↑k1692:Int)).bind fun x1718 =>
   if (wJD l1689 x1718)=true then
    some l1689
   else
    some (wFU l1689 x1718 (↑(l1689.length):Int))) (wEM pts 0))=some (wEM (wGJ (wGJ pts (wDH r x).1) (wDH r x).2.1) 0):=by
  unfold wBc
  rw [if_pos (by omega)]
  show forN' _ 2 0 (wEM pts 0)=_
  have i0:idx ([(wDH r x).1,(wDH r x).2.1]:List wAL) ((0:Nat):Int)=some (wDH r x).1:=rfl
  have i1:idx ([(wDH r x).1,(wDH r x).2.1]:List wAL) ((0 + 1:Nat):Int)=some (wDH r x).2.1:=rfl
  simp only [forN',i0,i1,hD]
  rw [wIZ nd]
  simp only
  rw [wIZ nd1]
 rw [loop,hD,wDs (by rw [nY];simp only [nH,nK];omega),hD]
 have l1:=wIX pts (wDH r x).1
 have l2:=wIX (wGJ pts (wDH r x).1) (wDH r x).2.1
 have same:∀ q ∈ pts,wAw (wEM (wGJ (wGJ pts (wDH r x).1) (wDH r x).2.1) 0) q 0=wAw (wEM pts 0) q 0:=fun q hq=>by
  rw [wIY nd1 (wDU.2 (.inl hq)),wIY nd hq]
 refine ⟨_,wGJ (wGJ pts (wDH r x).1) (wDH r x).2.1,rfl,rfl,nd2,⟨by omega,by rw [nN,nR];omega⟩,?_,fun p hp=>?_,fun y hy=>?_,?_⟩
 ·rw [wJd (by omega),wJd (by omega),hz]
 ·rcases wDU.1 hp with hp | rfl
  ·rcases wDU.1 hp with hp | rfl
   ·exact ok p hp
   ·exact o1
  ·exact o2
 ·rcases nQ.1 hy with hy | hy
  ·obtain ⟨a,b⟩:=has y hy
   exact ⟨wDU.2 (.inl (wDU.2 (.inl a))),wDU.2 (.inl (wDU.2 (.inl b)))⟩
  ·have:=nT.1 hy
   subst this
   exact ⟨wDU.2 (.inl (wDU.2 (.inr rfl))),wDU.2 (.inr rfl)⟩
 ·simp only
  rw [nP]
  congr 1
  refine kT fun y hy=>?_
  obtain ⟨a,b⟩:=has y hy
  unfold mkE
  rw [same _ a,same _ b]
theorem skip (r:wAD) (p:Pt) (h:wEm r p) (C:RC r):p=zp \/ ∃ x,wDk r x/\(wDH r x).2.1=p:=by
 rcases h with h | ⟨a,b,c,d⟩ | ⟨a,b,c⟩
 ·exact .inl h
 ·right
  by_cases e:p.mat=0
  ·refine ⟨⟨0,p.skier,0,true⟩,.inl ⟨rfl,a,b,rfl⟩,?_⟩
   show (⟨p.skier,0⟩:Pt)=p
   rw [<- e]
  ·refine ⟨⟨1,p.skier,p.mat - 1,true⟩,.inr (.inl ⟨rfl,a,b,by simp only;omega,by simp only;omega⟩),?_⟩
   show (⟨p.skier,p.mat - 1 + 1⟩:Pt)=p
   rw [nc]
 ·right
  refine ⟨⟨2,0,p.mat - 1,true⟩,.inr (.inr (.inl ⟨rfl,rfl,by simp only;omega,by simp only;omega⟩)),?_⟩
  show (⟨-1,1 + (p.mat - 1)⟩:Pt)=p
  rw [<- a,kH,nc]
theorem wJe {r:wAD} (C:RC r):∃ d pts,wCf r=some d/\Desk r d pts:=by
 unfold wCf wBu wCe
 simp only [hD]
 rw [wJb _ _ C]
 have hlen:=wHj C
 have key:∀ (l pre:List wAJ) (s:List wAX × List (Pt × Int)) (pts:List Pt),OpI r pre s pts->pre.length + l.length <= 216->(∀ x ∈ l,wDk r x)->∃ s' pts',wHL (opF r) l s=some (.inl s')/\OpI r (pre ++ l) s' pts':=by
  intro l
  induction l with
  | nil=>intro pre s pts I _ _;exact ⟨s,pts,rfl,by rw [nq];exact I⟩
  | cons x l ih =>
   intro pre s pts I hl hx
   simp only [nH] at hl
   obtain ⟨s1,p1,e,I1⟩:=wML C (by omega) (hx x (by simp)) I
   obtain ⟨s2,p2,e2,I2⟩:=ih (pre ++ [x]) s1 p1 I1 (by rw [nN,nR];omega) fun y hy=>hx y (by simp [hy])
   refine ⟨s2,p2,by rw [wHL,e];exact e2,?_⟩
   rw [nU] at I2
   exact I2
 obtain ⟨⟨es,num⟩,pts,e,I⟩:=key (wHi r) [] ([],wFU ([]:List (Pt × Int)) (⟨-1,0⟩:wAL) 0) [zp] ⟨rfl,by simp,⟨by simp,by simp⟩,rfl,fun p hp=>.inl (nT.1 hp),(fun x hx=>by cases hx),rfl⟩ (by simpa using hlen) fun x hx=>wEa.1 hx
 rw [List.nil_append] at I
 have hz:zp ∈ pts:=I.zero ▸ wBg I.len.1
 refine ⟨⟨r,num,es⟩,pts,?_,C,rfl,I.num,I.nd,⟨I.len.1,by have:=I.len.2;omega⟩,I.zero,fun p=>⟨I.ok p,fun h=>?_⟩,I.edges⟩
 ·show (wHL (opF r) (wHi r) _).bind _=_
  rw [e]
  rfl
 ·rcases skip r p h C with rfl | ⟨x,hx,rfl⟩
  ·exact hz
  ·exact (I.has x (wEa.2 hx)).2
end Go.Proofs.Ytlnfbjphfoipaaa
namespace Go.Proofs.Ytlnfbjphfoipaaa
open Go.KL Go.KL.Net
def wCW (r:wAD) (y:Pt->Int):Prop:=∀ x,wDk r x->y (wDH r x).2.1 <= y (wDH r x).1 + (wDH r x).2.2
section
variable {r:wAD} {y:Pt->Int}
theorem fp0 (F:wCW r y) {s:Int} (h0:0 <= s) (h1:s < r.Starts.length):y ⟨s,0⟩=y zp + gd r.Starts s.toNat:=by
 have a:y ⟨s,0⟩ <= y zp + gd r.Starts s.toNat:=F ⟨0,s,0,true⟩ (.inl ⟨rfl,h0,h1,rfl⟩)
 have b:y zp <= y ⟨s,0⟩ + -gd r.Starts s.toNat:=F ⟨0,s,0,false⟩ (.inl ⟨rfl,h0,h1,rfl⟩)
 omega
theorem fp1 (F:wCW r y) {s k:Int} (h0:0 <= s) (h1:s < r.Starts.length) (k0:0 <= k) (k1:k < r.Splits.length):y ⟨s,k⟩ + (gd r.Splits k.toNat).Lo <= y ⟨s,k + 1⟩/\y ⟨s,k + 1⟩ <= y ⟨s,k⟩ + (gd r.Splits k.toNat).Hi:=by
 have a:y ⟨s,k + 1⟩ <= y ⟨s,k⟩ + (gd r.Splits k.toNat).Hi:=F ⟨1,s,k,true⟩ (.inr (.inl ⟨rfl,h0,h1,k0,k1⟩))
 have b:y ⟨s,k⟩ <= y ⟨s,k + 1⟩ + -(gd r.Splits k.toNat).Lo:=F ⟨1,s,k,false⟩ (.inr (.inl ⟨rfl,h0,h1,k0,k1⟩))
 omega
theorem fp2 (F:wCW r y) {k:Int} (k0:0 <= k) (k1:k < r.Clocks.length):y ⟨-1,1 + k⟩ <= y zp - (gd r.Clocks k.toNat).Offset.Lo/\y zp <= y ⟨-1,1 + k⟩ + (gd r.Clocks k.toNat).Offset.Hi:=by
 have a:y ⟨-1,1 + k⟩ <= y zp + -(gd r.Clocks k.toNat).Offset.Lo:=F ⟨2,0,k,true⟩ (.inr (.inr (.inl ⟨rfl,rfl,k0,k1⟩)))
 have b:y zp <= y ⟨-1,1 + k⟩ + (gd r.Clocks k.toNat).Offset.Hi:=F ⟨2,0,k,false⟩ (.inr (.inr (.inl ⟨rfl,rfl,k0,k1⟩)))
 omega
theorem wIq (C:RC r) (F:wCW r y) {p:Pt} (hp:wEm r p):-3300000 <= y p - y zp/\y p - y zp <= 3300000:=by
 rcases hp with rfl | ⟨a,b,c,d⟩ | ⟨a,b,c⟩
 ·omega
 ·have key:∀ k:Nat,(k:Int) <= r.Splits.length->0 <= y ⟨p.skier,k⟩ - y zp/\y ⟨p.skier,k⟩ - y zp <= 360000 * ((k:Int) + 1):=by
   intro k
   induction k with
   | zero =>
    intro _
    have:=fp0 F a b
    have:=C.st _ (wCV a b)
    show 0 <= y ⟨p.skier,0⟩ - y zp/\y ⟨p.skier,0⟩ - y zp <= _
    omega
   | succ k ih =>
    intro hk
    have h:=ih (by omega)
    have f:=fp1 F a b (k:=(k:Int)) (by omega) (by omega)
    have g:=C.sp _ (wCV (l:=r.Splits) (i:=(k:Int)) (by omega) (by omega))
    have e:((k + 1:Nat):Int)=(k:Int) + 1:=by omega
    rw [e]
    omega
  have:=key p.mat.toNat (by omega)
  rw [nE c] at this
  have hm:=C.m
  have e:(⟨p.skier,p.mat⟩:Pt)=p:=rfl
  rw [e] at this
  omega
 ·have f:=fp2 F (k:=p.mat - 1) (by omega) (by omega)
  have g:=(C.ck _ (wCV (l:=r.Clocks) (i:=p.mat - 1) (by omega) (by omega))).1
  have e:(⟨-1,1 + (p.mat - 1)⟩:Pt)=p:=by rw [<- a,kH,nc]
  rw [e] at f
  omega
theorem to_zp {S:Pt->Prop} (hS:∀ x,wDk r x->S (wDH r x).1->S (wDH r x).2.1) {p:Pt} (hp:wEm r p) (h:S p):S zp:=by
 rcases hp with rfl | ⟨a,b,c,d⟩ | ⟨a,b,c⟩
 ·exact h
 ·have key:∀ k:Nat,(k:Int) <= r.Splits.length->S ⟨p.skier,k⟩->S zp:=by
   intro k
   induction k with
   | zero=>intro _ hk;exact hS ⟨0,p.skier,0,false⟩ (.inl ⟨rfl,a,b,rfl⟩) hk
   | succ k ih =>
    intro hk h
    refine ih (by omega) ?_
    have e:((k + 1:Nat):Int)=(k:Int) + 1:=by omega
    rw [e] at h
    exact hS ⟨1,p.skier,k,false⟩ (.inr (.inl ⟨rfl,a,b,by simp only;omega,by simp only;omega⟩)) h
  refine key p.mat.toNat (by omega) ?_
  rw [nE c];exact h
 ·have e:(⟨-1,1 + (p.mat - 1)⟩:Pt)=p:=by rw [<- a,kH,nc]
  refine hS ⟨2,0,p.mat - 1,false⟩ (.inr (.inr (.inl ⟨rfl,rfl,by simp only;omega,by simp only;omega⟩))) ?_
  show S ⟨-1,1 + (p.mat - 1)⟩
  rw [e];exact h
theorem of_zp {S:Pt->Prop} (hS:∀ x,wDk r x->S (wDH r x).1->S (wDH r x).2.1) (h:S zp) {p:Pt} (hp:wEm r p):S p:=by
 rcases hp with rfl | ⟨a,b,c,d⟩ | ⟨a,b,c⟩
 ·exact h
 ·have key:∀ k:Nat,(k:Int) <= r.Splits.length->S ⟨p.skier,k⟩:=by
   intro k
   induction k with
   | zero=>intro _;exact hS ⟨0,p.skier,0,true⟩ (.inl ⟨rfl,a,b,rfl⟩) h
   | succ k ih =>
    intro hk
    have e:((k + 1:Nat):Int)=(k:Int) + 1:=by omega
    rw [e]
    exact hS ⟨1,p.skier,k,true⟩ (.inr (.inl ⟨rfl,a,b,by simp only;omega,by simp only;omega⟩)) (ih (by omega))
  have:=key p.mat.toNat (by omega)
  rw [nE c] at this
  exact this
 ·have e:(⟨-1,1 + (p.mat - 1)⟩:Pt)=p:=by rw [<- a,kH,nc]
  have:=hS ⟨2,0,p.mat - 1,true⟩ (.inr (.inr (.inl ⟨rfl,rfl,by simp only;omega,by simp only;omega⟩))) h
  rw [<- e];exact this
def turn (x:wAJ):wAJ:=⟨x.Kind,x.Skier,x.Index,!x.Up⟩
theorem wLP {x:wAJ} (h:wDk r x):wDk r (turn x)/\(wDH r (turn x)).1=(wDH r x).2.1/\(wDH r (turn x)).2.1=(wDH r x).1:=by
 refine ⟨h,?_⟩
 obtain ⟨k,s,i,u⟩:=x
 unfold wDH turn
 cases u <;> exact ⟨rfl,rfl⟩
structure IsDP (r:wAD) (a:Pt) (f:Pt->Int):Prop where
 ok:wCW r f
 zero:f a=0
 gr:∀ y,wCW r y->∀ p,wEm r p->y p - y a <= f p
theorem IsDP.one {a:Pt} {f g:Pt->Int} (F:IsDP r a f) (G:IsDP r a g) {p:Pt} (hp:wEm r p):f p=g p:=by
 have h1:=F.gr g G.ok p hp
 have h2:=G.gr f F.ok p hp
 have:=F.zero;have:=G.zero
 omega
theorem IsDP.near {a:Pt} {f:Pt->Int} (C:RC r) (F:IsDP r a f) (ha:wEm r a) {p:Pt} (hp:wEm r p):-6600000 <= f p/\f p <= 6600000:=by
 have h1:=wIq C F.ok ha
 have h2:=wIq C F.ok hp
 have:=F.zero
 omega
end
section
variable {r:wAD} {d:wAY} {pts:List Pt} (D:Desk r d pts)
include D
theorem Desk.pos_ok {p:Pt} (hp:wEm r p):pos pts p < pts.length/\gd pts (pos pts p)=p/\wAw d.number p 0=(pos pts p:Int):=by
 obtain ⟨h1,h2,h3,_⟩:=wGk D.nd ((D.all p).2 hp)
 exact ⟨h1,h2,by rw [D.num];exact h3⟩
theorem Desk.gd_ok {v:Nat} (hv:v < pts.length):wEm r (gd pts v)/\pos pts (gd pts v)=v:=⟨(D.all _).1 (wBg hv),(wIW D.nd hv).1⟩
theorem Desk.ed_is {x:wAJ} (h:wDk r x) (p:Bool):ed p (mkE r pts x)=if p then ⟨pos pts (wDH r x).2.1,pos pts (wDH r x).1,(wDH r x).2.2⟩ else ⟨pos pts (wDH r x).1,pos pts (wDH r x).2.1,(wDH r x).2.2⟩:=by
 obtain ⟨o1,o2,_,_⟩:=wEw D.c h
 have h1:=(wGk D.nd ((D.all _).2 o1)).2.2.1
 have h2:=(wGk D.nd ((D.all _).2 o2)).2.2.1
 unfold ed mkE
 simp only [h1,h2,hJ]
theorem Desk.mem {p:Bool} {e:Ed}:e ∈ d.edges.map (ed p) ↔ ∃ x,wDk r x/\e=ed p (mkE r pts x):=by
 rw [D.edges,List.map_map]
 constructor
 ·intro h
  obtain ⟨x,hx,rfl⟩:=hH.1 h
  exact ⟨x,wEa.1 hx,rfl⟩
 ·rintro ⟨x,hx,rfl⟩
  exact hH.2 ⟨x,wEa.2 hx,rfl⟩
theorem Desk.edOK:∀ e ∈ d.edges,EdOK pts.length e:=by
 intro e he
 rw [D.edges] at he
 obtain ⟨x,hx,rfl⟩:=hH.1 he
 have h:=wEa.1 hx
 obtain ⟨o1,o2,c1,c2⟩:=wEw D.c h
 obtain ⟨h1,_,h2,_⟩:=wGk D.nd ((D.all _).2 o1)
 obtain ⟨g1,_,g2,_⟩:=wGk D.nd ((D.all _).2 o2)
 unfold mkE
 rw [h2,g2]
 exact ⟨by simp only;omega,by simp only;omega,by simp only;omega,by simp only;omega,c1,c2⟩
theorem Desk.elen:d.edges.length <= 1000:=by
 have:=wHj D.c
 rw [D.edges,nY]
 omega
theorem Desk.feas {y:Pt->Int} (F:wCW r y):wGI (d.edges.map (ed false)) fun v=>y (gd pts v):=by
 intro e he
 obtain ⟨x,hx,rfl⟩:=D.mem.1 he
 obtain ⟨o1,o2,_,_⟩:=wEw D.c hx
 rw [D.ed_is hx]
 simp only [nS,if_false]
 rw [(D.pos_ok o1).2.1,(D.pos_ok o2).2.1]
 exact F x hx
theorem Desk.back {z:Nat->Int} (F:wGI (d.edges.map (ed false)) z):wCW r fun p=>z (pos pts p):=by
 intro x hx
 have:=F _ (D.mem.2 ⟨x,hx,rfl⟩)
 rw [D.ed_is hx] at this
 simp only [nS,if_false] at this
 exact this
theorem Desk.backT {z:Nat->Int} (F:wGI (d.edges.map (ed true)) z):wCW r fun p=>-z (pos pts p):=by
 intro x hx
 have:=F _ (D.mem.2 ⟨x,hx,rfl⟩)
 rw [D.ed_is hx] at this
 simp only [if_true] at this
 simp only
 omega
theorem Desk.con (p:Bool):Con pts.length 6600000 (d.edges.map (ed p)):=by
 refine ⟨fun e he=>?_,fun z hz a b ha hb=>?_,fun S i hi hSi hS v hv=>?_⟩
 ·obtain ⟨x,hx,rfl⟩:=D.mem.1 he
  obtain ⟨o1,o2,_,_⟩:=wEw D.c hx
  have h1:=(D.pos_ok o1).1
  have h2:=(D.pos_ok o2).1
  rw [D.ed_is hx]
  split
  ·exact ⟨h2,h1⟩
  ·exact ⟨h1,h2⟩
 ·obtain ⟨pa,ea⟩:=D.gd_ok ha
  obtain ⟨pb,eb⟩:=D.gd_ok hb
  cases p with
  | false =>
   have h1:=wIq D.c (D.back hz) pa
   have h2:=wIq D.c (D.back hz) pb
   simp only [ea,eb] at h1 h2
   omega
  | true =>
   have h1:=wIq D.c (D.backT hz) pa
   have h2:=wIq D.c (D.backT hz) pb
   simp only [ea,eb] at h1 h2
   omega
 ·have hcl:∀ x,wDk r x->S (pos pts (wDH r x).1)->S (pos pts (wDH r x).2.1):=fun x hx h=>by
   cases p with
   | false =>
    have:=hS _ (D.mem.2 ⟨x,hx,rfl⟩)
    rw [D.ed_is hx] at this
    simp only [nS,if_false] at this
    exact this h
   | true =>
    obtain ⟨t1,t2,t3⟩:=wLP hx
    have:=hS _ (D.mem.2 ⟨_,t1,rfl⟩)
    rw [D.ed_is t1] at this
    simp only [if_true] at this
    rw [t2,t3] at this
    exact this h
  obtain ⟨pi,ei⟩:=D.gd_ok hi
  obtain ⟨pv,ev⟩:=D.gd_ok hv
  have:=of_zp (S:=fun q=>S (pos pts q)) hcl (to_zp (S:=fun q=>S (pos pts q)) hcl pi (by show S (pos pts (gd pts i));rw [ei];exact hSi)) pv
  have this:S (pos pts (gd pts v)):=this
  rwa [ev] at this
theorem Desk.cost (p:Bool):∀ e ∈ d.edges.map (ed p),e.c <= 400000:=by
 intro e he
 obtain ⟨x,hx,rfl⟩:=D.mem.1 he
 obtain ⟨_,_,_,c⟩:=wEw D.c hx
 rw [D.ed_is hx]
 split <;> exact c
theorem Desk.nlen:d.number.length=pts.length:=by rw [D.num,wHE]
theorem Desk.any:∃ f last ok,wAb d (-1) false=some (f,last,ok)/\f.far.length=pts.length/\f.by_.length=pts.length/\(ok=true ↔ ∃ y,wCW r y)/\(ok=true->wCW r fun p=>gd f.far (pos pts p))/\(ok=false->0 <= last/\last < pts.length):=by
 obtain ⟨f,last,ok,e,bl,fl,h1,h2⟩:=wHg D.nlen D.len.1 (by have:=D.len.2;omega) D.edOK D.elen (-1) false
 have hp:0 < pts.length:=D.len.1
 have t0:wGF (-1) 0=0:=by unfold wGF;rw [if_pos (.inl (by omega))]
 have feas:ok=true->wCW r fun p=>gd f.far (pos pts p):=fun h=>D.back ((h1 h).feas (D.con false) (D.cost false) hp t0)
 refine ⟨f,last,ok,e,fl,bl,⟨fun h=>⟨_,feas h⟩,fun ⟨y,hy⟩=>?_⟩,feas,fun h=>⟨(h2 h).1,(h2 h).2.1⟩⟩
 cases ok with
 | true=>rfl
 | false =>
  exfalso
  obtain ⟨δ,M⟩:=wJY (D.con false) (D.feas hy) hp t0 (fun v _=>(wKo (-1) v).1)
  exact (h2 rfl).2.2 δ M fun v hv=>by have:=M.hi (D.con false) hp t0 v hv;omega
theorem Desk.from_ (hy:∃ y,wCW r y) {a:Pt} (ha:wEm r a):∃ f last,wAb d (pos pts a:Int) false=some (f,last,true)/\f.far.length=pts.length/\IsDP r a fun p=>gd f.far (pos pts p):=by
 obtain ⟨f,last,ok,e,bl,fl,h1,h2⟩:=wHg D.nlen D.len.1 (by have:=D.len.2;omega) D.edOK D.elen (pos pts a:Int) false
 obtain ⟨hp,hg,_⟩:=D.pos_ok ha
 have t0:wGF (pos pts a:Int) (pos pts a)=0:=by unfold wGF;rw [if_pos (.inr rfl)]
 obtain ⟨y,hy⟩:=hy
 have hok:ok=true:=by
  cases ok with
  | true=>rfl
  | false =>
   exfalso
   obtain ⟨δ,M⟩:=wJY (D.con false) (D.feas hy) hp t0 (fun v _=>(wKo _ v).1)
   exact (h2 rfl).2.2 δ M fun v hv=>by have:=M.hi (D.con false) hp t0 v hv;omega
 subst hok
 have I:=(h1 rfl).isD (by omega) (D.con false) (D.cost false) hp
 refine ⟨f,last,e,fl,D.back I.ok,I.zero,fun z hz p hpt=>?_⟩
 have:=I.gr _ (D.feas hz) (pos pts p) (D.pos_ok hpt).1
 simp only [hg,(D.pos_ok hpt).2.1] at this
 exact this
end
end Go.Proofs.Ytlnfbjphfoipaaa
namespace Go.Proofs.Ytlnfbjphfoipaaa
open Go.KL Go.KL.Net
def inB (n lo hi:Int):Bool:=decide (lo <= n/\n <= hi)
theorem wHw (n lo hi:Int):wAz n lo hi=some (inB n lo hi):=by
 unfold wAz inB
 by_cases h:lo <= n
 ·rw [if_pos h];simp [h]
 ·rw [if_neg h];simp [h]
def wKP (s:wAG) (lo hi:Int):Bool:=decide (s.Lo <= s.Hi/\lo <= s.Lo/\s.Hi <= hi)
theorem wGl (s:wAG) (lo hi:Int):wCN s lo hi=some (wKP s lo hi):=by
 unfold wCN wKP
 by_cases h:s.Lo <= s.Hi
 ·by_cases h2:lo <= s.Lo
  ·rw [if_pos h,if_pos h2];simp [h,h2]
  ·rw [if_pos h,if_neg h2];simp [h2]
 ·rw [if_neg h];simp [h]
theorem wJf {l:List Int} {f:Int->Option Bool} {p:Int->Bool} (hf:∀ a ∈ l,f a=some (p a)) (hn:l.length <= 1000):wCE l f=some (l.all p):=by
 unfold wCE
 refine (wFO (R:=Bool) (p:=p) (z:=false) (K:=fun _=>some true) (fun a ha=>?_) (by omega)).trans ?_
 ·rw [hf a ha,hD];split <;> rfl
 ·split <;> simp_all
theorem wIr {l:List wAG} {f:wAG->Option Bool} {p:wAG->Bool} (hf:∀ a ∈ l,f a=some (p a)) (hn:l.length <= 1000):wBR l f=some (l.all p):=by
 unfold wBR
 refine (wFO (R:=Bool) (p:=p) (z:=false) (K:=fun _=>some true) (fun a ha=>?_) (by omega)).trans ?_
 ·rw [hf a ha,hD];split <;> rfl
 ·split <;> simp_all
theorem wHx {l:List wAK} {f:wAK->Option Bool} {p:wAK->Bool} (hf:∀ a ∈ l,f a=some (p a)) (hn:l.length <= 1000):wBE l f=some (l.all p):=by
 unfold wBE
 refine (wFO (R:=Bool) (p:=p) (z:=false) (K:=fun _=>some true) (fun a ha=>?_) (by omega)).trans ?_
 ·rw [hf a ha,hD];split <;> rfl
 ·split <;> simp_all
theorem wFP {l:List wAI} {f:wAI->Option Bool} {p:wAI->Bool} (hf:∀ a ∈ l,f a=some (p a)) (hn:l.length <= 1000):wAl l f=some (l.all p):=by
 unfold wAl
 refine (wFO (R:=Bool) (p:=p) (z:=false) (K:=fun _=>some true) (fun a ha=>?_) (by omega)).trans ?_
 ·rw [hf a ha,hD];split <;> rfl
 ·split <;> simp_all
structure wEo (r:wAD):Prop where
 n:r.Starts.length <= 10
 m:r.Splits.length <= 9
 c:r.Clocks.length <= 6
 q:r.Readings.length <= 44
def stP (s:Int):Bool:=inB s 0 360000
def spP (s:wAG):Bool:=wKP s 0 360000
def ckP (c:wAK):Bool:=wKP c.Offset (-36000) 36000 && inB c.Error 0 600
def rtP (x:wAI):Bool:=inB x.Time 0 360000
def ruP (r:wAD) (x:wAI):Bool:=inB x.Skier 0 ((r.Starts.length:Int) - 1) && (inB x.Mat 0 r.Splits.length && inB x.Clock 0 ((r.Clocks.length:Int) - 1))
def code (r:wAD):Int :=
 if ¬ (1 <= r.Starts.length/\r.Starts.length <= 8) then 2 else if 7 < r.Splits.length then 2 else if 4 < r.Clocks.length then 2 else if 40 < r.Readings.length then 2
 else if r.Starts.all stP=true then (if r.Splits.all spP=true then (if r.Clocks.all ckP=true then (if r.Readings.all rtP=true then (if r.Readings.all (ruP r)=true then 0 else 1) else 3) else 3) else 3) else 3
theorem wJg {r:wAD} (h:code r=0):RC r:=by
 unfold code at h
 split at h
 ·omega
 ·split at h
  ·omega
  ·split at h
   ·omega
   ·split at h
    ·omega
    ·split at h
     ·split at h
      ·split at h
       ·split at h
        ·split at h
         ·rename_i a1 a2 a3 a4 h1 h2 h3 h4 h5
          rw [nW] at h1 h2 h3 h4 h5
          refine ⟨by omega,by omega,by omega,by omega,fun s hs=>?_,fun s hs=>?_,fun s hs=>?_,fun s hs=>?_,fun s hs=>?_⟩
          ·have:=h1 s hs
           simp only [stP,inB,decide_eq_true_eq] at this
           exact this
          ·have:=h2 s hs
           simp only [spP,wKP,decide_eq_true_eq] at this
           exact this
          ·have:=h3 s hs
           simp only [ckP,wKP,inB,nD,decide_eq_true_eq] at this
           exact this
          ·have:=h4 s hs
           simp only [rtP,inB,decide_eq_true_eq] at this
           exact this
          ·have:=h5 s hs
           simp only [ruP,inB,nD,decide_eq_true_eq] at this
           omega
         ·omega
        ·omega
       ·omega
      ·omega
     ·omega
theorem wJh {r:wAD} (S:wEo r) (s:wAO):wAd r s=some (inB s.Skier 0 ((r.Starts.length:Int) - 1) && inB s.Mat 0 r.Splits.length):=by
 have:=S.n
 unfold wAd
 rw [wAW (by omega) (by omega),wHw,hD,wHw,hD]
 cases inB s.Skier 0 ((r.Starts.length:Int) - 1)
 ·rw [if_neg (by simp)];rfl
 ·rw [if_pos rfl,Bool.true_and]
theorem wIs {r:wAD} (S:wEo r):wCG r=some (code r):=by
 have hn:=S.n;have hm:=S.m;have hc:=S.c;have hq:=S.q
 unfold wCG code
 rw [wHw,hD]
 by_cases c1:1 <= r.Starts.length/\r.Starts.length <= 8
 ·have e1:inB (r.Starts.length:Int) 1 8=true:=by unfold inB;rw [decide_eq_true_eq];omega
  rw [e1,if_pos rfl,if_neg (show ¬ ¬ (1 <= r.Starts.length/\r.Starts.length <= 8) from fun h=>h c1)]
  by_cases c2:7 < r.Splits.length
  ·rw [if_pos (show (7:Int) < (r.Splits.length:Int) by omega),if_pos c2]
  ·rw [if_neg (show ¬ (7:Int) < (r.Splits.length:Int) by omega),if_neg c2]
   by_cases c3:4 < r.Clocks.length
   ·rw [if_pos (show (4:Int) < (r.Clocks.length:Int) by omega),if_pos c3]
   ·rw [if_neg (show ¬ (4:Int) < (r.Clocks.length:Int) by omega),if_neg c3]
    by_cases c4:40 < r.Readings.length
    ·rw [if_pos (show (40:Int) < (r.Readings.length:Int) by omega),if_pos c4]
    ·rw [if_neg (show ¬ (40:Int) < (r.Readings.length:Int) by omega),if_neg c4]
     rw [wJf (p:=stP) (fun a _=>by unfold wCM;rw [wHw];rfl) (by omega),hD]
     rw [wIr (p:=spP) (fun a _=>by unfold wCO;rw [wGl];rfl) (by omega),hD]
     rw [wHx (p:=ckP) (fun a _=>by
      unfold wCP ckP
      rw [wGl,hD,wHw,hD]
      cases wKP a.Offset (-36000) 36000
      ·rw [if_neg (by simp)];rfl
      ·rw [if_pos rfl];rfl) (by omega),hD]
     rw [wFP (p:=rtP) (fun a _=>by unfold wCQ;rw [wHw];rfl) (by omega),hD]
     rw [wFP (p:=ruP r) (fun a _=>by
      unfold wCR ruP
      rw [wJh S,hD,wAW (by omega) (by omega),wHw,hD]
      simp only
      cases inB a.Skier 0 ((r.Starts.length:Int) - 1)
      ·rw [if_neg (by simp)];rfl
      ·cases inB a.Mat 0 (r.Splits.length:Int)
       ·rw [if_neg (by simp)];rfl
       ·simp) (by omega),hD]
     split
     ·split
      ·split
       ·split
        ·split <;> rfl
        ·rfl
       ·rfl
      ·rfl
     ·rfl
 ·have e1:inB (r.Starts.length:Int) 1 8=false:=by unfold inB;rw [decide_eq_false_iff_not];omega
  rw [e1,if_neg (by simp),if_pos c1]
end Go.Proofs.Ytlnfbjphfoipaaa
namespace Go.Proofs.Ytlnfbjphfoipaaa
open Go.KL Go.KL.Net
open Classical
def wDZ (r:wAD) (s:wAO):Bool:=inB s.Skier 0 ((r.Starts.length:Int) - 1) && inB s.Mat 0 r.Splits.length
def pt (s:wAO):Pt:=⟨s.Skier,s.Mat⟩
theorem wEx {r:wAD} {s:wAO} (h:wDZ r s=true):wEm r (pt s)/\0 <= s.Skier/\s.Skier < r.Starts.length/\0 <= s.Mat/\s.Mat <= r.Splits.length:=by
 simp only [wDZ,inB,nD,decide_eq_true_eq] at h
 exact ⟨.inr (.inl ⟨h.1.1,by simp only [pt];omega,h.2.1,h.2.2⟩),h.1.1,by omega,h.2.1,h.2.2⟩
noncomputable def wFj (r:wAD) (l:List wAO):Int:=if code r=0 then (if l.all (wDZ r)=true then (if ∃ y,wCW r y then 0 else 7) else 1) else code r
theorem err0 {r:wAD} {l:List wAO} (h:wFj r l=0):RC r/\code r=0/\l.all (wDZ r)=true/\∃ y,wCW r y:=by
 unfold wFj at h
 split at h
 ·split at h
  ·split at h
   ·rename_i a b c
    exact ⟨wJg a,a,b,c⟩
   ·omega
  ·omega
 ·contradiction
theorem wIa {r:wAD} (S:wEo r):(code r ≠ 0/\wBp r=some (none,code r)) \/ (code r=0/\∃ d pts,wBp r=some (some d,0)/\Desk r d pts):=by
 unfold wBp
 rw [wIs S,hD]
 by_cases c:code r=0
 ·right
  obtain ⟨d,pts,e,D⟩:=wJe (wJg c)
  refine ⟨c,d,pts,?_,D⟩
  rw [if_pos c,e];rfl
 ·left
  exact ⟨c,if_neg c⟩
end Go.Proofs.Ytlnfbjphfoipaaa
namespace Go.Proofs.Ytlnfbjphfoipaaa
open Go.KL Go.KL.Net
open Classical
theorem wIt {l:List wAO} {f:wAO->Option Bool} {p:wAO->Bool} (hf:∀ a ∈ l,f a=some (p a)) (hn:l.length <= 1000):wAu l f=some (l.all p):=by
 unfold wAu
 refine (wFO (R:=Bool) (p:=p) (z:=false) (K:=fun _=>some true) (fun a ha=>?_) (by omega)).trans ?_
 ·rw [hf a ha,hD];split <;> rfl
 ·split <;> simp_all
section
variable {r:wAD} {d:wAY} {pts:List Pt} (D:Desk r d pts)
include D
theorem Desk.holds:∃ b,wAn d=some b/\(b=true ↔ ∃ y,wCW r y):=by
 obtain ⟨f,last,ok,e,_,_,h,_⟩:=D.any
 refine ⟨ok,?_,h⟩
 unfold wAn
 rw [e];rfl
end
theorem wIb {r:wAD} (S:wEo r) {l:List wAO} (hl:l.length <= 10):∃ o,wCa r l=some (o,wFj r l)/\(wFj r l=0->∃ d pts,o=some d/\Desk r d pts)/\(wFj r l ≠ 0->o=none):=by
 unfold wCa
 rcases wIa S with ⟨c,e⟩ | ⟨c,d,pts,e,D⟩
 ·have ee:wFj r l=code r:=by unfold wFj;rw [if_neg c]
  refine ⟨none,?_,fun h=>absurd (ee ▸ h) c,fun _=>rfl⟩
  rw [e,hD,ee]
  simp only
  rw [if_neg c]
 ·rw [e,hD]
  simp only
  rw [if_pos trivial,wIt (p:=wDZ r) (fun s _=>wJh S s) (by omega),hD]
  by_cases c2:l.all (wDZ r)=true
  ·rw [if_pos c2]
   obtain ⟨b,e3,h3⟩:=D.holds
   rw [e3,hD]
   by_cases c3:∃ y,wCW r y
   ·have ee:wFj r l=0:=by unfold wFj;rw [if_pos c,if_pos c2,if_pos c3]
    rw [if_pos (h3.2 c3),ee]
    exact ⟨_,rfl,fun _=>⟨d,pts,rfl,D⟩,fun h=>absurd rfl h⟩
   ·have ee:wFj r l=7:=by unfold wFj;rw [if_pos c,if_pos c2,if_neg c3]
    rw [if_neg (fun h=>c3 (h3.1 h)),ee]
    exact ⟨_,rfl,fun h=>by omega,fun _=>rfl⟩
  ·have ee:wFj r l=1:=by unfold wFj;rw [if_pos c,if_neg c2]
   rw [if_neg c2,ee]
   exact ⟨_,rfl,fun h=>by omega,fun _=>rfl⟩
end Go.Proofs.Ytlnfbjphfoipaaa
namespace Go.Proofs.Ytlnfbjphfoipaaa
open Go.KL Go.KL.Net
open Classical
theorem wGm {S:Type} {body:Nat->S->Option S} {n:Nat} {s0:S} (I:Nat->S->Prop) (hn:n <= 1000) (h0:I 0 s0) (h:∀ i s,i < n->I i s->∃ s',body i s=some s'/\I (i + 1) s'):∃ s,wBc 0 (n:Int) body s0=some s/\I n s:=by
 rw [wDe (by omega)]
 have:=wEE (body:=body) I n 0 s0 h0 fun i s _ h2 h3=>h i s (by omega) h3
 rwa [na] at this
theorem wMM (a:Arr Int 64) {i j:Nat} (hi:i < 64) (v:Int):(a.set i v).get j=if j=i then v else a.get j:=by
 unfold Arr.set Arr.get
 simp only [nz]
 by_cases e:j=i
 ·rw [if_pos e,e,List.getElem?_set_self (by rw [a.h];exact hi)]
  rfl
 ·rw [if_neg e,List.getElem?_set_ne (Ne.symm e)]
def ahK (G:Nat->Nat->Int) (i k:Nat):List Int:=((nB k).filter fun j=>decide (G i j < 0)).map fun (j:Nat)=>(j:Int)
def beK (G:Nat->Nat->Int) (i k:Nat):Nat:=(nB k).countP fun j=>decide (0 < G j i)
theorem wIc (G:Nat->Nat->Int) (i k:Nat):ahK G i (k + 1)=if G i k < 0 then ahK G i k ++ [(k:Int)] else ahK G i k:=by
 unfold ahK
 rw [kJ,List.filter_append,nP]
 by_cases c:G i k < 0
 ·rw [if_pos c];simp [c]
 ·rw [if_neg c];simp [c]
theorem wId (G:Nat->Nat->Int) (i k:Nat):beK G i (k + 1)=if 0 < G k i then beK G i k + 1 else beK G i k:=by
 unfold beK
 rw [kJ,List.countP_append]
 by_cases c:0 < G k i
 ·rw [if_pos c];simp [c]
 ·rw [if_neg c];simp [c]
theorem wJi (G:Nat->Nat->Int) (i:Nat):∀ k,(ahK G i k).length <= k
 | 0=>by simp [ahK]
 | k + 1=>by
  have:=wJi G i k
  rw [wIc]
  split
  ·rw [nN,nR];omega
  ·omega
theorem wKq (G:Nat->Nat->Int) (i:Nat):∀ k,beK G i k <= k
 | 0=>by simp [beK]
 | k + 1=>by
  have:=wKq G i k
  rw [wId]
  split <;> omega
def plL (n:Nat) (G:Nat->Nat->Int):List wAG:=(nB n).map fun i=>⟨1 + ((ahK G i n).length:Int),1 + (beK G i n:Int)⟩
theorem wLQ {α:Type} [Inhabited α] {n k:Nat} (f:Nat->α) (h:k < n):gd ((nB n).map f) k=f k:=by
 rw [wHe (by simpa using h)]
 simp
section
variable {r:wAD} {d:wAY} {pts:List Pt} (D:Desk r d pts)
include D
theorem wHy (hy:∃ y,wCW r y) {m:Int} (m0:0 <= m) (m1:m <= r.Splits.length) {F:Nat->Pt->Int} (hF:∀ i,i < r.Starts.length->IsDP r ⟨(i:Int),m⟩ (F i)):∃ a,wBe d m=some a/\∀ i j,i < r.Starts.length->j < r.Starts.length->a.get (i * 8 + j)=F i ⟨(j:Int),m⟩:=by
 have hn:=D.c.n
 have ok:∀ i,i < r.Starts.length->wEm r ⟨(i:Int),m⟩:=fun i hi=>.inr (.inl ⟨by simp only;omega,by simp only;omega,m0,m1⟩)
 unfold wBe
 rw [D.race]
 obtain ⟨a,e,I⟩:=wGm (n:=r.Starts.length) (body:=fun k19 a18 =>
  (wAb d (wAw d.number (⟨(↑k19:Int),m⟩:wAL) 0) false).bind fun (x47,x48,x49) =>
  (wBc 0 (↑r.Starts.length:Int) (fun k79 a78 =>
   (chk (wAw d.number (⟨(↑k79:Int),m⟩:wAL) 0) x47.far.length).bind fun _ =>
   (chk (↑k19:Int) 8).bind fun _ =>
   (chk (↑k79:Int) 8).bind fun _ =>
   some (a78.set (k19 * 8 + k79) (gd x47.far (wAw d.number (⟨(↑k79:Int),m⟩:wAL) 0).toNat))) a18).bind fun y84 =>
  some y84) (s0:=(Arr.fill 64 0)) (fun k (a:Arr Int 64)=>∀ i j,i < k->j < r.Starts.length->a.get (i * 8 + j)=F i ⟨(j:Int),m⟩) (by omega) (fun i j h=>by omega) fun k a hk I=>by
  obtain ⟨f,last,e1,fl,Q⟩:=D.from_ hy (ok k hk)
  obtain ⟨b,e2,J⟩:=wGm (n:=r.Starts.length) (body:=fun k79 a78 =>
   (chk (wAw d.number (⟨(↑k79:Int),m⟩:wAL) 0) f.far.length).bind fun _ =>
   (chk (↑k:Int) 8).bind fun _ =>
   (chk (↑k79:Int) 8).bind fun _ =>
   some (a78.set (k * 8 + k79) (gd f.far (wAw d.number (⟨(↑k79:Int),m⟩:wAL) 0).toNat))) (s0:=a) (fun l (a:Arr Int 64)=>(∀ i j,i < k->j < r.Starts.length->a.get (i * 8 + j)=F i ⟨(j:Int),m⟩)/\∀ j,j < l->a.get (k * 8 + j)=F k ⟨(j:Int),m⟩) (by omega) ⟨I,fun j h=>by omega⟩ fun l a hl J=>by
   obtain ⟨h1,_,h3⟩:=D.pos_ok (ok l hl)
   refine ⟨a.set (k * 8 + l) (F k ⟨(l:Int),m⟩),?_,?_⟩
   ·rw [h3,wBa (by omega) (by omega),hD,wBa (by omega) (by omega),hD,wBa (by omega) (by omega),hD,hJ,(hF k hk).one Q (ok l hl)]
   ·refine ⟨fun i j hi hj=>?_,fun j hj=>?_⟩
    ·rw [wMM _ (by omega),if_neg (by omega),J.1 i j hi hj]
    ·rw [wMM _ (by omega)]
     by_cases c:j=l
     ·subst c
      rw [if_pos rfl]
     ·rw [if_neg (by omega),J.2 j (by omega)]
  refine ⟨b,?_,fun i j hi hj=>?_⟩
  ·rw [(D.pos_ok (ok k hk)).2.2,e1,hD]
   simp only
   rw [e2];rfl
  ·by_cases c:i=k
   ·subst c;exact J.2 j hj
   ·exact J.1 i j (by omega) hj
 exact ⟨a,by rw [e];rfl,I⟩
end
theorem wJj {r:wAD} (S:wEo r) (m:Int):∃ o,wDD r m=some (o,wFj r [⟨0,m⟩])/\(wFj r [⟨0,m⟩]=0->∃ d pts,o=some d/\Desk r d pts)/\(wFj r [⟨0,m⟩] ≠ 0->o=none):=by
 obtain ⟨o,e,h⟩:=wIb S (l:=[⟨0,m⟩]) (by simp)
 refine ⟨o,?_,h⟩
 unfold wDD
 rw [e,hD]
 cases o <;> rfl
theorem wMN {r:wAD} {m:Int} (h:wFj r [⟨0,m⟩]=0):RC r/\0 <= m/\m <= r.Splits.length/\∃ y,wCW r y:=by
 obtain ⟨C,_,hs,hy⟩:=err0 h
 simp only [nu,List.all_nil,Bool.and_true] at hs
 have:=wEx hs
 exact ⟨C,this.2.2.2.1,this.2.2.2.2,hy⟩
theorem wFQ {r:wAD} (S:wEo r) (m:Int):(wFj r [⟨0,m⟩] ≠ 0->wBU r m=some ([],wFj r [⟨0,m⟩]))/\(wFj r [⟨0,m⟩]=0->∀ F:Nat->Pt->Int,(∀ i,i < r.Starts.length->IsDP r ⟨(i:Int),m⟩ (F i))->wBU r m=some (plL r.Starts.length (fun i j=>F i ⟨(j:Int),m⟩),0)):=by
 unfold wBU
 obtain ⟨o,e,h0,h1⟩:=wJj S m
 rw [e,hD]
 simp only
 constructor
 ·intro c
  have ho:=h1 c
  subst ho
  simp only
  rw [if_neg c]
 ·intro c F hF
  obtain ⟨d,pts,rfl,D⟩:=h0 c
  obtain ⟨C,m0,m1,hy⟩:=wMN c
  obtain ⟨a,e1,ha⟩:=wHy D hy m0 m1 hF
  have hn:=C.n
  simp only
  rw [if_pos c,e1,hD,wGD (S:=List wAG) (n:=r.Starts.length) (fun k=>(plL r.Starts.length fun i j=>F i ⟨(j:Int),m⟩).take k) (s0:=[]) (by simp) (by omega) fun k hk=>?_]
  ·rw [hD,show (plL r.Starts.length fun i j=>F i ⟨(j:Int),m⟩).take r.Starts.length=plL r.Starts.length fun i j=>F i ⟨(j:Int),m⟩ from List.take_of_length_le (by simp [plL])]
  ·rw [wGD (S:=Int × Int) (n:=r.Starts.length) (fun j=>(1 + ((ahK (fun i j=>F i ⟨(j:Int),m⟩) k j).length:Int),1 + (beK (fun i j=>F i ⟨(j:Int),m⟩) k j:Int))) (s0:=(1,1)) (by simp [ahK,beK]) (by omega) fun j hj=>?_]
   ·have pl:(plL r.Starts.length fun i j=>F i ⟨(j:Int),m⟩).length=r.Starts.length:=by simp [plL]
    rw [hD]
    simp only
    rw [wDs (by rw [nM];simp only [nH,nK];omega),hD,wGE (by rw [pl];exact hk)]
    unfold plL
    rw [wLQ _ hk]
   ·have l1:=wJi (fun i j=>F i ⟨(j:Int),m⟩) k j
    have l2:=wKq (fun i j=>F i ⟨(j:Int),m⟩) k j
    simp only
    rw [wBa (by omega) (by omega),hD,wBa (by omega) (by omega),hD,ha k j hk hj,ha j k hj hk,wAW (by omega) (by omega),wAW (by omega) (by omega),wIc,wId]
    by_cases c1:F k ⟨(j:Int),m⟩ < 0
    ·rw [if_pos c1,if_pos c1]
     by_cases c2:0 < F j ⟨(k:Int),m⟩
     ·rw [if_pos c2,if_pos c2,nN,nR]
      congr 2 <;> omega
     ·rw [if_neg c2,if_neg c2,nN,nR]
      congr 2
    ·rw [if_neg c1,if_neg c1]
     by_cases c2:0 < F j ⟨(k:Int),m⟩
     ·rw [if_pos c2,if_pos c2]
      congr 2
     ·rw [if_neg c2,if_neg c2]
end Go.Proofs.Ytlnfbjphfoipaaa
namespace Go.Proofs.Ytlnfbjphfoipaaa
open Go.KL Go.KL.Net
open Classical
theorem wIu {r:wAD} {d:wAY} {pts:List Pt} (D:Desk r d pts) (hy:∃ y,wCW r y) {a b:Pt} (ha:wEm r a) (hb:wEm r b) {f g:Pt->Int} (hf:IsDP r a f) (hg:IsDP r b g):wBD d a b=some ⟨-g a,f b⟩:=by
 obtain ⟨f',l1,e1,n1,F'⟩:=D.from_ hy ha
 obtain ⟨g',l2,e2,n2,G'⟩:=D.from_ hy hb
 have f1:=F'.one hf hb
 have g1:=G'.one hg ha
 have gn:=hg.near D.c hb ha
 have pa:=D.pos_ok ha
 have pb:=D.pos_ok hb
 unfold wBD
 rw [pa.2.2,pb.2.2,e1,hD]
 simp only
 rw [hD,e2,hD]
 simp only
 rw [hD]
 simp only
 rw [wBa (by omega) (by omega),hD,wBa (by omega) (by omega),hD,hJ,hJ,f1,g1,wAW (by omega) (by omega)]
theorem wIe {r:wAD} (S:wEo r) (s:wAO):(wFj r [s] ≠ 0->wBH r s=some (⟨0,0⟩,wFj r [s]))/\(wFj r [s]=0->∀ f g,IsDP r zp f->IsDP r (pt s) g->wBH r s=some (⟨-g zp,f (pt s)⟩,0)):=by
 unfold wBH
 obtain ⟨o,e,h0,h1⟩:=wIb S (l:=[s]) (by simp)
 rw [e,hD]
 simp only
 constructor
 ·intro c
  have ho:=h1 c
  subst ho
  simp only
  rw [if_neg c]
 ·intro c f g hf hg
  obtain ⟨d,pts,rfl,D⟩:=h0 c
  obtain ⟨C,_,hs,hy⟩:=err0 c
  simp only [nu,List.all_nil,Bool.and_true] at hs
  have hp:=(wEx (r:=r) (s:=s) hs).1
  simp only
  rw [if_pos c]
  unfold wBu wCb
  rw [hD,hD]
  show (wBD d zp (pt s)).bind _=_
  rw [wIu D hy (.inl rfl) hp hf hg]
  rfl
theorem wGn {r:wAD} (S:wEo r) (c:code r=0) (hy:∃ y,wCW r y) {a:Pt} (ha:wEm r a):∃ f,IsDP r a f:=by
 rcases wIa S with ⟨c0,_⟩ | ⟨_,d,pts,_,D⟩
 ·exact absurd c c0
 ·obtain ⟨f,l,_,_,F⟩:=D.from_ hy ha
  exact ⟨_,F⟩
end Go.Proofs.Ytlnfbjphfoipaaa
namespace Go.Proofs.Ytlnfbjphfoipaaa
open Go.KL Go.KL.Net
open Classical
theorem wIv {r:wAD} (C:RC r) {y z:Pt->Int} (h:∀ p,wEm r p->y p=z p) (F:wCW r y):wCW r z:=fun x hx=>by
 obtain ⟨o1,o2,_,_⟩:=wEw C hx
 rw [<- h _ o1,<- h _ o2]
 exact F x hx
structure F4 (r:wAD) (y:Pt->Int):Prop where
 a:∀ s:Nat,s < r.Starts.length->y ⟨(s:Int),0⟩=y zp + gd r.Starts s
 b:∀ s k:Nat,s < r.Starts.length->k < r.Splits.length->(gd r.Splits k).Lo <= y ⟨(s:Int),(k:Int) + 1⟩ - y ⟨(s:Int),(k:Int)⟩/\y ⟨(s:Int),(k:Int) + 1⟩ - y ⟨(s:Int),(k:Int)⟩ <= (gd r.Splits k).Hi
 c:∀ k:Nat,k < r.Clocks.length->y ⟨-1,1 + (k:Int)⟩ <= y zp - (gd r.Clocks k).Offset.Lo/\y zp <= y ⟨-1,1 + (k:Int)⟩ + (gd r.Clocks k).Offset.Hi
 d:∀ x ∈ r.Readings,y ⟨x.Skier,x.Mat⟩ <= y ⟨-1,1 + x.Clock⟩ + (x.Time + (gd r.Clocks x.Clock.toNat).Error)/\y ⟨-1,1 + x.Clock⟩ <= y ⟨x.Skier,x.Mat⟩ + ((gd r.Clocks x.Clock.toNat).Error - x.Time)
theorem wIw {r:wAD} {y:Pt->Int}:wCW r y ↔ F4 r y:=by
 constructor
 ·intro F
  refine ⟨fun s hs=>?_,fun s k hs hk=>?_,fun k hk=>?_,fun x hx=>?_⟩
  ·have h:=fp0 F (s:=(s:Int)) (by omega) (by omega)
   rwa [hJ] at h
  ·have h:=fp1 F (s:=(s:Int)) (k:=(k:Int)) (by omega) (by omega) (by omega) (by omega)
   rw [hJ] at h
   omega
  ·have h:=fp2 F (k:=(k:Int)) (by omega) (by omega)
   rwa [hJ] at h
  ·obtain ⟨k,hk,rfl⟩:=wEn hx
   have a:y ⟨(gd r.Readings k).Skier,(gd r.Readings k).Mat⟩ <= y ⟨-1,1 + (gd r.Readings k).Clock⟩ + ((gd r.Readings k).Time + (gd r.Clocks (gd r.Readings k).Clock.toNat).Error):=F ⟨3,0,(k:Int),true⟩ (.inr (.inr (.inr ⟨rfl,rfl,by simp only;omega,by simp only;omega⟩)))
   have b:y ⟨-1,1 + (gd r.Readings k).Clock⟩ <= y ⟨(gd r.Readings k).Skier,(gd r.Readings k).Mat⟩ + ((gd r.Clocks (gd r.Readings k).Clock.toNat).Error - (gd r.Readings k).Time):=F ⟨3,0,(k:Int),false⟩ (.inr (.inr (.inr ⟨rfl,rfl,by simp only;omega,by simp only;omega⟩)))
   exact ⟨a,b⟩
 ·rintro ⟨h1,h2,h3,h4⟩ x hx
  have key:y (wCs r x).2.1 <= y (wCs r x).1 + (wCs r x).2.2.1/\y (wCs r x).1 <= y (wCs r x).2.1 + (wCs r x).2.2.2:=by
   unfold wCs
   rcases hx with ⟨k,a,b,c⟩ | ⟨k,a,b,c,d⟩ | ⟨k,a,c,d⟩ | ⟨k,a,c,d⟩
   ·have h:=h1 x.Skier.toNat (by omega)
    rw [nE a] at h
    rw [if_pos k]
    simp only
    omega
   ·have h:=h2 x.Skier.toNat x.Index.toNat (by omega) (by omega)
    rw [nE a,nE c] at h
    rw [if_neg (by omega),if_pos k]
    simp only
    omega
   ·have h:=h3 x.Index.toNat (by omega)
    rw [nE c] at h
    rw [if_neg (by omega),if_neg (by omega),if_pos k]
    simp only
    omega
   ·have h:=h4 _ (wCV c d)
    rw [if_neg (by omega),if_neg (by omega),if_neg (by omega)]
    simp only
    omega
  unfold wDH
  split
  ·exact key.1
  ·exact key.2
structure Mv (r r':wAD) (f g:Pt->Pt) (h:Pt->Int):Prop where
 ok:∀ p,wEm r p->wEm r' (f p)
 l:∀ p,wEm r p->g (f p)=p
 fe:∀ y,wCW r' y ↔ wCW r fun p=>y (f p) - h p
section
variable {r r':wAD} {f g:Pt->Pt} {h:Pt->Int} (C:RC r) (M:Mv r r' f g h)
include C M
theorem Mv.to_ {y:Pt->Int} (F:wCW r y):wCW r' fun q=>y (g q) + h (g q):=by
 rw [M.fe]
 refine wIv C (fun p hp=>?_) F
 show y p=y (g (f p)) + h (g (f p)) - h p
 rw [M.l p hp]
 omega
theorem Mv.ex:(∃ y,wCW r y) ↔ ∃ y,wCW r' y:=⟨fun ⟨_,F⟩=>⟨_,M.to_ C F⟩,fun ⟨_,F⟩=>⟨_,(M.fe _).1 F⟩⟩
theorem Mv.dp {a:Pt} {F:Pt->Int} (ha:wEm r a) (hF:IsDP r' (f a) F):IsDP r a fun p=>F (f p) - h p + h a:=by
 refine ⟨fun x hx=>?_,?_,fun y hy p hp=>?_⟩
 ·have:=(M.fe _).1 hF.ok x hx
  simp only at this ⊢
  omega
 ·have:=hF.zero
  show F (f a) - h a + h a=0
  omega
 ·have:=hF.gr _ (M.to_ C hy) _ (M.ok p hp)
  show y p - y a <= F (f p) - h p + h a
  rw [M.l p hp,M.l a ha] at this
  omega
end
end Go.Proofs.Ytlnfbjphfoipaaa
namespace Go.Proofs.Ytlnfbjphfoipaaa
open Go.KL Go.KL.Net
open Classical
def yT (T:List (List Int)) (O:List Int) (p:Pt):Int:=if p.skier=-1 then (if p.mat=0 then 0 else -gd O (p.mat - 1).toNat) else gd (gd T p.skier.toNat) p.mat.toNat
theorem wKQ (T:List (List Int)) (O:List Int):yT T O zp=0:=rfl
theorem wEb (T:List (List Int)) (O:List Int) {s k:Int} (h:0 <= s):yT T O ⟨s,k⟩=gd (gd T s.toNat) k.toNat:=if_neg (by simp only;omega)
theorem wFn (T:List (List Int)) (O:List Int) {k:Int} (h:0 <= k):yT T O ⟨-1,1 + k⟩=-gd O k.toNat:=by
 unfold yT
 rw [if_pos rfl,if_neg (by simp only;omega),show (1 + k - 1)=k by omega]
structure Lens (r:wAD) (T:List (List Int)) (O:List Int):Prop where
 t:T.length=r.Starts.length
 l:∀ k,k < r.Starts.length->(gd T k).length=r.Splits.length + 1
 o:O.length=r.Clocks.length
def wMO (r:wAD) (T:List (List Int)) (k:Nat):Bool:=decide (gd (gd T k) 0=gd r.Starts k) && wLM (fun j=>inB (gd (gd T k) (j + 1) - gd (gd T k) j) (gd r.Splits j).Lo (gd r.Splits j).Hi) r.Splits.length 0
def clkS (r:wAD) (O:List Int) (k:Nat):Bool:=inB (gd O k) (gd r.Clocks k).Offset.Lo (gd r.Clocks k).Offset.Hi
def redS (r:wAD) (T:List (List Int)) (O:List Int) (k:Nat):Bool :=
 inB ((gd r.Readings k).Time - gd (gd T (gd r.Readings k).Skier.toNat) (gd r.Readings k).Mat.toNat - gd O (gd r.Readings k).Clock.toNat) (-(gd r.Clocks (gd r.Readings k).Clock.toNat).Error) (gd r.Clocks (gd r.Readings k).Clock.toNat).Error
theorem wKR {r:wAD} (C:RC r) {T:List (List Int)} {O:List Int}:wCW r (yT T O) ↔ wLM (wMO r T) r.Starts.length 0=true/\wLM (clkS r O) r.Clocks.length 0=true/\wLM (redS r T O) r.Readings.length 0=true:=by
 simp only [wDt]
 constructor
 ·intro F
  refine ⟨fun k _ hk=>?_,fun k _ hk=>?_,fun k _ hk=>?_⟩
  ·have h0:=fp0 F (s:=(k:Int)) (by omega) (by omega)
   rw [wEb _ _ (by omega),wKQ,hJ,Int.zero_add] at h0
   unfold wMO
   rw [nD]
   refine ⟨decide_eq_true h0,(wDt _ _ _).2 fun j _ hj=>?_⟩
   have h1:=fp1 F (s:=(k:Int)) (k:=(j:Int)) (by omega) (by omega) (by omega) (by omega)
   rw [wEb _ _ (by omega),wEb _ _ (by omega),hJ,hJ,show ((j:Int) + 1).toNat=j + 1 by omega] at h1
   unfold inB
   rw [decide_eq_true_eq]
   omega
  ·have h:=fp2 F (k:=(k:Int)) (by omega) (by omega)
   rw [wFn _ _ (by omega),wKQ,hJ] at h
   unfold clkS inB
   rw [decide_eq_true_eq]
   omega
  ·have u:=C.ru _ (wBg (show k < r.Readings.length by omega))
   have a:yT T O ⟨(gd r.Readings k).Skier,(gd r.Readings k).Mat⟩ <= yT T O ⟨-1,1 + (gd r.Readings k).Clock⟩ + ((gd r.Readings k).Time + (gd r.Clocks (gd r.Readings k).Clock.toNat).Error):=F ⟨3,0,(k:Int),true⟩ (.inr (.inr (.inr ⟨rfl,rfl,by simp only;omega,by simp only;omega⟩)))
   have b:yT T O ⟨-1,1 + (gd r.Readings k).Clock⟩ <= yT T O ⟨(gd r.Readings k).Skier,(gd r.Readings k).Mat⟩ + ((gd r.Clocks (gd r.Readings k).Clock.toNat).Error - (gd r.Readings k).Time):=F ⟨3,0,(k:Int),false⟩ (.inr (.inr (.inr ⟨rfl,rfl,by simp only;omega,by simp only;omega⟩)))
   rw [wEb _ _ u.1,wFn _ _ u.2.2.2.2.1] at a b
   unfold redS inB
   rw [decide_eq_true_eq]
   omega
 ·rintro ⟨h1,h2,h3⟩ x hx
  have key:yT T O (wCs r x).2.1 <= yT T O (wCs r x).1 + (wCs r x).2.2.1/\yT T O (wCs r x).1 <= yT T O (wCs r x).2.1 + (wCs r x).2.2.2:=by
   unfold wCs
   rcases hx with ⟨k,a,b,c⟩ | ⟨k,a,b,c,d⟩ | ⟨k,a,c,d⟩ | ⟨k,a,c,d⟩
   ·have h:=h1 x.Skier.toNat (by omega) (by omega)
    unfold wMO at h
    rw [nD,decide_eq_true_eq] at h
    rw [if_pos k]
    simp only
    rw [wEb _ _ a,wKQ,Int.toNat_zero,h.1]
    omega
   ·have h:=h1 x.Skier.toNat (by omega) (by omega)
    unfold wMO at h
    rw [nD] at h
    have g:=(wDt _ _ _).1 h.2 x.Index.toNat (by omega) (by omega)
    unfold inB at g
    rw [decide_eq_true_eq] at g
    rw [if_neg (by omega),if_pos k]
    simp only
    rw [wEb _ _ a,wEb _ _ a,show (x.Index + 1).toNat=x.Index.toNat + 1 by omega]
    omega
   ·have h:=h2 x.Index.toNat (by omega) (by omega)
    unfold clkS inB at h
    rw [decide_eq_true_eq] at h
    rw [if_neg (by omega),if_neg (by omega),if_pos k]
    simp only
    rw [wFn _ _ c,wKQ]
    omega
   ·have h:=h3 x.Index.toNat (by omega) (by omega)
    unfold redS inB at h
    rw [decide_eq_true_eq] at h
    have u:=C.ru _ (wCV c d)
    rw [if_neg (by omega),if_neg (by omega),if_neg (by omega)]
    simp only
    rw [wEb _ _ u.1,wFn _ _ u.2.2.2.2.1]
    omega
  unfold wDH
  split
  ·exact key.1
  ·exact key.2
end Go.Proofs.Ytlnfbjphfoipaaa
namespace Go.Proofs.Ytlnfbjphfoipaaa
open Go.KL
theorem wJk {a b:Int} (h0:0 <= a) (hb:0 < b):∃ x,rem a b=some x/\0 <= x/\x < b:=by
 refine ⟨a.tmod b,if_neg (by omega),?_,?_⟩
 ·rw [kA h0];exact Int.emod_nonneg _ (by omega)
 ·rw [kA h0];exact Int.emod_lt_of_pos _ hb
theorem wHz (x:Int):0 <= wER x:=by unfold wER;omega
theorem wLR (x:Int):wER x < 4294967296:=by unfold wER;omega
theorem w64u (x:Int):w64 (wER x)=wER x:=by
 have:=wHz x
 have:=wLR x
 exact wAW (by omega) (by omega)
theorem wKS (a:Int) {b:Int} (hb:b ≠ 0):∃ x,quo a b=some x:=⟨_,if_neg hb⟩
theorem wCt (d:wAF) (n:Int) (h0:0 <= d.next) (h1:d.next <= 1000000):∃ x d',wAM d n=some (x,d')/\0 <= d'.next/\d'.next <= d.next + 1/\0 <= x/\(x < n \/ (n <= 1/\x=0)):=by
 unfold wAM
 by_cases hn:n <= 1
 ·exact ⟨0,d,by rw [if_pos hn],h0,by omega,by omega,.inr ⟨hn,rfl⟩⟩
 rw [if_neg hn]
 by_cases hl:(d.bytes.length:Int)=0
 ·exact ⟨0,d,by rw [if_pos hl],h0,by omega,by omega,.inl (by omega)⟩
 rw [if_neg hl]
 obtain ⟨r,e1,r0,r1⟩:=wJk h0 (show (0:Int) < d.bytes.length by omega)
 obtain ⟨b,e2⟩:∃ b,idx d.bytes r=some b:=by
  unfold idx
  rw [if_pos r0,nL (by omega)]
  exact ⟨_,rfl⟩
 obtain ⟨q,e3⟩:=wKS d.next (b:=d.bytes.length) hl
 obtain ⟨st,e4,_,_⟩:=wJk (wHz ((wER ((wER ((wER (d.state * 45)) + (wER b))) + (wER (77 * (wER q))))) + 1)) (b:=65519) (by decide)
 rw [e1,hD,e2,hD,e3,hD,e4,hD,wAW (x:=d.next + 1) (by omega) (by omega)]
 have fin:∀ z:Int,∃ x d',((rem (w64 (wER z)) n).bind fun x=>some (x,(⟨d.bytes,d.next + 1,st⟩:wAF)))=some (x,d')/\0 <= d'.next/\d'.next <= d.next + 1/\0 <= x/\(x < n \/ (n <= 1/\x=0)):=by
  intro z
  obtain ⟨x,e5,x0,x1⟩:=wJk (a:=w64 (wER z)) (b:=n) (by rw [w64u];exact wHz z) (by omega)
  exact ⟨x,_,by rw [e5];rfl,by show 0 <= d.next + 1;omega,by show d.next + 1 <= _;omega,x0,.inl x1⟩
 by_cases c1:wER q=0
 ·rw [if_pos c1]
  by_cases c2:n <= 256
  ·rw [if_pos c2];exact fin _
  ·rw [if_neg c2];exact fin _
 ·rw [if_neg c1];exact fin _
theorem wEc (d:wAF) (a b:Int) (h0:0 <= d.next) (h1:d.next <= 1000000) (ha:-1000000 <= a) (hab:a <= b) (hb:b <= 1000000):∃ x d',wAQ d a b=some (x,d')/\0 <= d'.next/\d'.next <= d.next + 1/\a <= x/\x <= b:=by
 unfold wAQ
 rw [wAW (x:=b - a) (by omega) (by omega),wAW (x:=b - a + 1) (by omega) (by omega)]
 obtain ⟨x,d',e,n0,n1,x0,x1⟩:=wCt d (b - a + 1) h0 h1
 refine ⟨a + x,d',?_,n0,n1,by omega,by omega⟩
 rw [e,hD]
 simp only
 rw [wAW (by omega) (by omega)]
end Go.Proofs.Ytlnfbjphfoipaaa
namespace Go.Proofs.Ytlnfbjphfoipaaa
open Go.KL Go.KL.Net
open Classical
theorem wEy {r:wAD} (C:RC r):code r=0:=by
 unfold code
 rw [if_neg (fun h=>h C.n),if_neg (by have:=C.m;omega),if_neg (by have:=C.c;omega),if_neg (by have:=C.q;omega),if_pos (nW.2 fun s hs=>by
  have:=C.st s hs
  unfold stP inB
  rw [decide_eq_true_eq];omega),if_pos (nW.2 fun s hs=>by
  have:=C.sp s hs
  unfold spP wKP
  rw [decide_eq_true_eq];omega),if_pos (nW.2 fun s hs=>by
  have:=C.ck s hs
  unfold ckP wKP inB
  rw [nD,decide_eq_true_eq,decide_eq_true_eq];omega),if_pos (nW.2 fun s hs=>by
  have:=C.rt s hs
  unfold rtP inB
  rw [decide_eq_true_eq];omega),if_pos (nW.2 fun s hs=>by
  have:=C.ru s hs
  unfold ruP inB
  rw [nD,nD,decide_eq_true_eq,decide_eq_true_eq,decide_eq_true_eq];omega)]
theorem wCU {S:Type} {body:Nat->S->Option S} {n:Nat} {s0:S} (I:Nat->S->Prop) (hn:n <= 1000) (h0:I 0 s0) (h:∀ i s,i < n->I i s->∃ s',body i s=some s'/\I (i + 1) s'):∃ s,wBc 0 (n:Int) body s0=some s/\I n s:=by
 rw [wDe (by omega)]
 have:=wEE (body:=body) I n 0 s0 h0 fun i s _ h2 h3=>h i s (by omega) h3
 rwa [na] at this
theorem wHF {α:Type} {l:List α} {a:α} {P:α->Prop} (h:∀ x ∈ l,P x) (ha:P a):∀ x ∈ l ++ [a],P x:=fun x hx=>by
 rcases nQ.1 hx with h1 | h1
 ·exact h x h1
 ·rw [nT.1 h1];exact ha
def m1B:Nat->List Int × Int × Int × List Int->Option (List Int × Int × Int × List Int):=fun k62 (l53,x56,x57,l58) =>
  (wAM (⟨l53,x56,x57⟩:wAF) 4).bind fun (x142,x143) =>
  (wAM x143 3).bind fun (x156,x157) =>
  (app 8 l58 [w64 ((w64 (300 * x142)) + x156)]).bind fun x175 =>
  some (x157.bytes,x157.next,x157.state,x175)
def m2B:Nat->List Int × Int × Int × List wAG->Option (List Int × Int × Int × List wAG):=fun k274 (l265,x268,x269,l270) =>
  (wAQ (⟨l265,x268,x269⟩:wAF) 3 9).bind fun (x305,x306) =>
  (wAM x306 30).bind fun (x353,x354) =>
  (app 16 l270 [(⟨w64 (100 * x305),w64 ((w64 (100 * x305)) + (w64 (10 * x353)))⟩:wAG)]).bind fun x372 =>
  some (x354.bytes,x354.next,x354.state,x372)
def m3I (y282:List wAG):Nat->List Int × Int × Int × Int × List Int->Option (List Int × Int × Int × Int × List Int):=fun k541 (l532,x535,x536,x537,l538) =>
      (chk (↑k541:Int) y282.length).bind fun _ =>
      (wAQ (⟨l532,x535,x536⟩:wAF) ((gd y282 k541).Lo) ((gd y282 k541).Hi)).bind fun (x589,x590) =>
      (app 8 l538 [w64 (x537 + x589)]).bind fun x609 =>
      some (x590.bytes,x590.next,x590.state,w64 (x537 + x589),x609)
def m3B (y70:List Int) (y282:List wAG):Nat->List Int × Int × Int × List (List Int)->Option (List Int × Int × Int × List (List Int)):=fun k460 (l450,x453,x454,l455) =>
  (chk (↑k460:Int) y70.length).bind fun _ =>
  (wBc 0 (↑y282.length:Int) (m3I y282) (l450,x453,x454,(gd y70 k460),[(gd y70 k460)])).bind fun (y546,y547,y548,y549,y550) =>
  (app 24 l455 [y550]).bind fun x672 =>
  some (y546,y547,y548,x672)
def m4B:Nat->List Int × Int × Int × List wAK × List Int->Option (List Int × Int × Int × List wAK × List Int):=fun k792 (l779,x782,x783,l784,l788) =>
  (wAQ (⟨l779,x782,x783⟩:wAF) (-60) 20).bind fun (x826,x827) =>
  (wAM x827 50).bind fun (x840,x841) =>
  (wAM x841 6).bind fun (x854,x855) =>
  (app 24 l784 [(⟨(⟨x826,w64 (x826 + x840)⟩:wAG),x854⟩:wAK)]).bind fun x880 =>
  (wAQ x855 x826 (w64 (x826 + x840))).bind fun (x888,x889) =>
  (app 8 l788 [x888]).bind fun x908 =>
  some (x889.bytes,x889.next,x889.state,x880,x908)
def m5B (y70:List Int) (y282:List wAG) (y468:List (List Int)) (y800:List wAK) (y801:List Int):Nat->List Int × Int × Int × List wAI->Option (List Int × Int × Int × List wAI):=fun k1736 (l1727,x1730,x1731,l1732) =>
  ((wAM (⟨l1727,x1730,x1731⟩:wAF) (↑y70.length:Int)).bind fun (x1833,x1834) =>
  (wAM x1834 (w64 ((↑y282.length:Int) + 1))).bind fun (x1847,x1848) =>
  (wAM x1848 (↑y800.length:Int)).bind fun (x1861,x1862) =>
  some (x1862.bytes,x1862.next,x1862.state,x1833,x1847,x1861)).bind fun (l1767,x1770,x1771,x1774,x1775,x1776) =>
  (chk x1776 y800.length).bind fun _ =>
  (idx y468 x1774).bind fun x2140 =>
  (idx x2140 x1775).bind fun x2156 =>
  (chk x1776 y801.length).bind fun _ =>
  (wAQ (⟨l1767,x1770,x1771⟩:wAF) (w64 (-((gd y800 x1776.toNat).Error))) ((gd y800 x1776.toNat).Error)).bind fun (x2171,x2172) =>
  if (w64 (-((gd y800 x1776.toNat).Error))) <= (w64 ((w64 ((max 0 (w64 ((w64 (x2156 + (gd y801 x1776.toNat))) + x2171))) - x2156)) - (gd y801 x1776.toNat))) then
   if (w64 ((w64 ((max 0 (w64 ((w64 (x2156 + (gd y801 x1776.toNat))) + x2171))) - x2156)) - (gd y801 x1776.toNat))) <= ((gd y800 x1776.toNat).Error) then
    (app 32 l1732 [(⟨x1774,x1775,x1776,max 0 (w64 ((w64 (x2156 + (gd y801 x1776.toNat))) + x2171))⟩:wAI)]).bind fun x2225 =>
    some (x2172.bytes,x2172.next,x2172.state,x2225)
   else
    some (x2172.bytes,x2172.next,x2172.state,l1732)
  else
   some (x2172.bytes,x2172.next,x2172.state,l1732)
theorem wIA (p0:wAF) (p1 p2 p3:Int):wBj p0 p1 p2 p3=(wAQ p0 1 p1).bind fun (x10,x11) =>
 (wBc 0 x10 m1B (x11.bytes,x11.next,x11.state,[])).bind fun (y67,y68,y69,y70) =>
 (wAM (⟨y67,y68,y69⟩:wAF) p2).bind fun (x223,x224) =>
 (wBc 0 x223 m2B (x224.bytes,x224.next,x224.state,[])).bind fun (y279,y280,y281,y282) =>
 (wBc 0 (↑y70.length:Int) (m3B y70 y282) (y279,y280,y281,[])).bind fun (y465,y466,y467,y468) =>
 (wAQ (⟨y465,y466,y467⟩:wAF) 1 3).bind fun (x726,x727) =>
 (wBc 0 x726 m4B (x727.bytes,x727.next,x727.state,[],[])).bind fun (y797,y798,y799,y800,y801) =>
 (wAM (⟨y797,y798,y799⟩:wAF) (w64 (p3 + 1))).bind fun (x1667,x1668) =>
 (wBc 0 x1667 (m5B y70 y282 y468 y800 y801) (x1668.bytes,x1668.next,x1668.state,[])).bind fun (y1741,y1742,y1743,y1744) =>
 some ((⟨y70,y282,y800,y1744⟩:wAD),y468,y801,(⟨y1741,y1742,y1743⟩:wAF)):=rfl
def M1 (n:Int) (k:Nat) (s:List Int × Int × Int × List Int):Prop:=0 <= s.2.1/\s.2.1 <= n + 2 * (k:Int)/\s.2.2.2.length=k/\∀ x ∈ s.2.2.2,0 <= x/\x <= 902
theorem wLS {n:Int} (n0:0 <= n) (n1:n <= 1000) {k:Nat} (hk:k < 10) {s:List Int × Int × Int × List Int} (I:M1 n k s):∃ s',m1B k s=some s'/\M1 n (k + 1) s':=by
 obtain ⟨b,nx,st,l⟩:=s
 obtain ⟨i0,i1,hl,he⟩:=I
 simp only at i0 i1 hl he
 unfold m1B
 simp only
 obtain ⟨x,d1,e1,p0,p1,x0,x1⟩:=wCt ⟨b,nx,st⟩ 4 i0 (by simp only;omega)
 obtain ⟨y,d2,e2,q0,q1,y0,y1⟩:=wCt d1 3 p0 (by simp only at p1;omega)
 simp only at p1
 rw [e1,hD]
 simp only
 rw [e2,hD]
 simp only
 rw [wAW (x:=300 * x) (by omega) (by omega),wAW (by omega) (by omega),wDs (by simp only [nH,nK];omega),hD]
 exact ⟨_,rfl,q0,by simp only;omega,by simp [hl],wHF he (by omega)⟩
def M2 (n:Int) (k:Nat) (s:List Int × Int × Int × List wAG):Prop:=0 <= s.2.1/\s.2.1 <= n + 2 * (k:Int)/\s.2.2.2.length=k/\∀ x ∈ s.2.2.2,300 <= x.Lo/\x.Lo <= x.Hi/\x.Hi <= 1190
theorem wLT {n:Int} (n0:0 <= n) (n1:n <= 1000) {k:Nat} (hk:k < 10) {s:List Int × Int × Int × List wAG} (I:M2 n k s):∃ s',m2B k s=some s'/\M2 n (k + 1) s':=by
 obtain ⟨b,nx,st,l⟩:=s
 obtain ⟨i0,i1,hl,he⟩:=I
 simp only at i0 i1 hl he
 unfold m2B
 simp only
 obtain ⟨x,d1,e1,p0,p1,x0,x1⟩:=wEc ⟨b,nx,st⟩ 3 9 i0 (by simp only;omega) (by omega) (by omega) (by omega)
 simp only at p1
 obtain ⟨y,d2,e2,q0,q1,y0,y1⟩:=wCt d1 30 p0 (by omega)
 rw [e1,hD]
 simp only
 rw [e2,hD]
 simp only
 rw [wAW (x:=100 * x) (by omega) (by omega),wAW (x:=10 * y) (by omega) (by omega),wAW (by omega) (by omega),wDs (by simp only [nH,nK];omega),hD]
 exact ⟨_,rfl,q0,by simp only;omega,by simp [hl],wHF he (by simp only;omega)⟩
structure RowI (sp:List wAG) (s0:Int) (j:Nat) (l:List Int):Prop where
 len:l.length=j + 1
 z:gd l 0=s0
 d:∀ i,i < j->(gd sp i).Lo <= gd l (i + 1) - gd l i/\gd l (i + 1) - gd l i <= (gd sp i).Hi
 b:∀ i,i < j + 1->0 <= gd l i/\gd l i <= 902 + 1190 * (i:Int)
def M3 (sp:List wAG) (s0 n:Int) (k:Nat) (s:List Int × Int × Int × Int × List Int):Prop:=0 <= s.2.1/\s.2.1 <= n + (k:Int)/\s.2.2.2.1=gd s.2.2.2.2 k/\RowI sp s0 k s.2.2.2.2
theorem wLU {sp:List wAG} (hsp:∀ x ∈ sp,300 <= x.Lo/\x.Lo <= x.Hi/\x.Hi <= 1190) {s0 n:Int} (n0:0 <= n) (n1:n <= 1000) {k:Nat} (hk:k < sp.length) (hk2:k < 10) {s:List Int × Int × Int × Int × List Int} (I:M3 sp s0 n k s):∃ s',m3I sp k s=some s'/\M3 sp s0 n (k + 1) s':=by
 obtain ⟨b,nx,st,t,l⟩:=s
 obtain ⟨i0,i1,ht,R⟩:=I
 simp only at i0 i1 ht R
 have hs:=hsp _ (wBg hk)
 have hb:=R.b k (by omega)
 have hl:=R.len
 unfold m3I
 simp only
 obtain ⟨x,d1,e1,p0,p1,x0,x1⟩:=wEc ⟨b,nx,st⟩ (gd sp k).Lo (gd sp k).Hi i0 (by simp only;omega) (by omega) (by omega) (by omega)
 simp only at p1
 rw [wBa (by omega) (by omega),hD,e1,hD]
 simp only
 rw [wAW (x:=t + x) (by omega) (by omega),wDs (by simp only [nH,nK];omega),hD]
 have gk:gd (l ++ [t + x]) (k + 1)=t + x:=by rw [<- hl,wFl]
 refine ⟨_,rfl,p0,by simp only;omega,gk.symm,by simp [hl],?_,fun i hi=>?_,fun i hi=>?_⟩
 ·simp only
  rw [wDT (by omega)];exact R.z
 ·simp only
  by_cases c:i=k
  ·rw [c,gk,wDT (by omega)]
   omega
  ·rw [wDT (by omega),wDT (by omega)]
   exact R.d i (by omega)
 ·simp only
  by_cases c:i=k + 1
  ·rw [c,gk];omega
  ·rw [wDT (by omega)]
   exact R.b i (by omega)
def M3o (st:List Int) (sp:List wAG) (n:Int) (k:Nat) (s:List Int × Int × Int × List (List Int)):Prop:=0 <= s.2.1/\s.2.1 <= n + 10 * (k:Int)/\s.2.2.2.length=k/\∀ i,i < k->RowI sp (gd st i) sp.length (gd s.2.2.2 i)
theorem wKT {st:List Int} (hst:∀ x ∈ st,0 <= x/\x <= 902) {sp:List wAG} (hl:sp.length <= 9) (hsp:∀ x ∈ sp,300 <= x.Lo/\x.Lo <= x.Hi/\x.Hi <= 1190) {n:Int} (n0:0 <= n) (n1:n <= 800) {k:Nat} (hk:k < st.length) (hk2:k < 10) {s:List Int × Int × Int × List (List Int)} (I:M3o st sp n k s):∃ s',m3B st sp k s=some s'/\M3o st sp n (k + 1) s':=by
 obtain ⟨b,nx,se,l⟩:=s
 obtain ⟨i0,i1,hll,he⟩:=I
 simp only at i0 i1 hll he
 have hs:=hst _ (wBg hk)
 unfold m3B
 simp only
 obtain ⟨⟨b',nx',st',t',l'⟩,e,J0,J1,_,J⟩:=wCU (n:=sp.length) (body:=m3I sp) (s0:=(b,nx,se,gd st k,[gd st k])) (M3 sp (gd st k) nx) (by omega) ⟨i0,by simp only;omega,rfl,rfl,rfl,(fun i hi=>by omega),fun i hi=>by
  obtain rfl:i=0:=by omega
  show 0 <= gd st k/\gd st k <= _
  omega⟩ fun i s hi I=>wLU hsp i0 (by omega) hi (by omega) I
 simp only at J0 J1 J
 rw [wBa (by omega) (by omega),hD,e,hD]
 simp only
 rw [wDs (by simp only [nH,nK];omega),hD]
 refine ⟨_,rfl,J0,by simp only;omega,by simp [hll],fun i hi=>?_⟩
 simp only
 by_cases c:i=k
 ·rw [c,show gd (l ++ [l']) k=l' by rw [<- hll,wFl]]
  exact J
 ·rw [wDT (by omega)]
  exact he i (by omega)
def ClkI (c:wAK) (o:Int):Prop:=-60 <= c.Offset.Lo/\c.Offset.Lo <= c.Offset.Hi/\c.Offset.Hi <= 70/\0 <= c.Error/\c.Error <= 5/\c.Offset.Lo <= o/\o <= c.Offset.Hi
def M4 (n:Int) (k:Nat) (s:List Int × Int × Int × List wAK × List Int):Prop:=0 <= s.2.1/\s.2.1 <= n + 4 * (k:Int)/\s.2.2.2.1.length=k/\s.2.2.2.2.length=k/\∀ i,i < k->ClkI (gd s.2.2.2.1 i) (gd s.2.2.2.2 i)
theorem wLV {n:Int} (n0:0 <= n) (n1:n <= 1000) {k:Nat} (hk:k < 10) {s:List Int × Int × Int × List wAK × List Int} (I:M4 n k s):∃ s',m4B k s=some s'/\M4 n (k + 1) s':=by
 obtain ⟨b,nx,st,l,o⟩:=s
 obtain ⟨i0,i1,hl,ho,he⟩:=I
 simp only at i0 i1 hl ho he
 unfold m4B
 simp only
 obtain ⟨a,d1,e1,p0,p1,a0,a1⟩:=wEc ⟨b,nx,st⟩ (-60) 20 i0 (by simp only;omega) (by omega) (by omega) (by omega)
 simp only at p1
 obtain ⟨y,d2,e2,q0,q1,y0,y1⟩:=wCt d1 50 p0 (by omega)
 obtain ⟨z,d3,e3,r0,r1,z0,z1⟩:=wCt d2 6 q0 (by omega)
 obtain ⟨v,d4,e4,s0,s1,v0,v1⟩:=wEc d3 a (a + y) r0 (by omega) (by omega) (by omega) (by omega)
 rw [e1,hD]
 simp only
 rw [e2,hD]
 simp only
 rw [e3,hD]
 simp only
 rw [wAW (x:=a + y) (by omega) (by omega),wDs (by simp only [nH,nK];omega),hD,e4,hD]
 simp only
 rw [wDs (by simp only [nH,nK];omega),hD]
 refine ⟨_,rfl,s0,by simp only;omega,by simp [hl],by simp [ho],fun i hi=>?_⟩
 simp only
 by_cases c:i=k
 ·have h1:gd (l ++ [(⟨⟨a,a + y⟩,z⟩:wAK)]) i=⟨⟨a,a + y⟩,z⟩:=by rw [c,<- hl,wFl]
  have h2:gd (o ++ [v]) i=v:=by rw [c,<- ho,wFl]
  rw [h1,h2]
  unfold ClkI
  simp only
  omega
 ·rw [wDT (by omega),wDT (by omega)]
  exact he i (by omega)
def RdI (n m c:Nat) (T:List (List Int)) (C:List wAK) (O:List Int) (x:wAI):Prop :=
 (0 <= x.Skier/\x.Skier < n/\0 <= x.Mat/\x.Mat <= m/\0 <= x.Clock/\x.Clock < c)/\0 <= x.Time/\x.Time <= 100000/\-(gd C x.Clock.toNat).Error <= x.Time - gd (gd T x.Skier.toNat) x.Mat.toNat - gd O x.Clock.toNat/\x.Time - gd (gd T x.Skier.toNat) x.Mat.toNat - gd O x.Clock.toNat <= (gd C x.Clock.toNat).Error
def M5 (st:List Int) (sp:List wAG) (T:List (List Int)) (C:List wAK) (O:List Int) (n:Int) (k:Nat) (s:List Int × Int × Int × List wAI):Prop:=0 <= s.2.1/\s.2.1 <= n + 4 * (k:Int)/\s.2.2.2.length <= k/\∀ x ∈ s.2.2.2,RdI st.length sp.length C.length T C O x
theorem wLW {st:List Int} {sp:List wAG} {T:List (List Int)} {C:List wAK} {O:List Int} (h1:1 <= st.length) (h2:st.length <= 10) (h3:sp.length <= 9) (hT:T.length=st.length) (hR:∀ i,i < st.length->RowI sp (gd st i) sp.length (gd T i)) (c1:1 <= C.length) (c2:C.length <= 10) (hO:O.length=C.length) (hC:∀ i,i < C.length->ClkI (gd C i) (gd O i)) {n:Int} (n0:0 <= n) (n1:n <= 1000) {k:Nat} (hk:k < 50) {s:List Int × Int × Int × List wAI} (I:M5 st sp T C O n k s):∃ s',m5B st sp T C O k s=some s'/\M5 st sp T C O n (k + 1) s':=by
 obtain ⟨b,nx,se,l⟩:=s
 obtain ⟨i0,i1,hl,he⟩:=I
 simp only at i0 i1 hl he
 unfold m5B
 simp only
 obtain ⟨x,d1,e1,p0,p1,x0,x1⟩:=wCt ⟨b,nx,se⟩ (st.length:Int) i0 (by simp only;omega)
 simp only at p1
 obtain ⟨y,d2,e2,q0,q1,y0,y1⟩:=wCt d1 ((sp.length:Int) + 1) p0 (by omega)
 obtain ⟨z,d3,e3,r0,r1,z0,z1⟩:=wCt d2 (C.length:Int) q0 (by omega)
 have hx:x.toNat < st.length:=by omega
 have hz:z.toNat < C.length:=by omega
 obtain ⟨K1,K2,K3,K4,K5,K6,K7⟩:=hC z.toNat hz
 have R:=hR x.toNat hx
 have hb:=R.b y.toNat (by omega)
 have hlen:=R.len
 obtain ⟨v,d4,e4,s0,s1,v0,v1⟩:=wEc d3 (-(gd C z.toNat).Error) (gd C z.toNat).Error r0 (by omega) (by omega) (by omega) (by omega)
 rw [e1,hD]
 simp only
 rw [wAW (x:=(sp.length:Int) + 1) (by omega) (by omega),e2,hD]
 simp only
 rw [e3,hD,hD]
 simp only
 rw [wBa (by omega) (by omega),hD,wEZ x0 (by omega),hD,wEZ y0 (by omega),hD,wBa (by omega) (by omega),hD,wAW (x:=-(gd C z.toNat).Error) (by omega) (by omega),show (⟨d3.bytes,d3.next,d3.state⟩:wAF)=d3 from rfl,e4,hD]
 simp only
 rw [wAW (x:=gd (gd T x.toNat) y.toNat + gd O z.toNat) (by omega) (by omega),wAW (x:=gd (gd T x.toNat) y.toNat + gd O z.toNat + v) (by omega) (by omega),wAW (x:=max 0 (gd (gd T x.toNat) y.toNat + gd O z.toNat + v) - gd (gd T x.toNat) y.toNat) (by omega) (by omega),wAW (x:=_ - gd O z.toNat) (by omega) (by omega)]
 by_cases g1:-(gd C z.toNat).Error <= max 0 (gd (gd T x.toNat) y.toNat + gd O z.toNat + v) - gd (gd T x.toNat) y.toNat - gd O z.toNat
 ·rw [if_pos g1]
  by_cases g2:max 0 (gd (gd T x.toNat) y.toNat + gd O z.toNat + v) - gd (gd T x.toNat) y.toNat - gd O z.toNat <= (gd C z.toNat).Error
  ·rw [if_pos g2,wDs (by simp only [nH,nK];omega),hD]
   refine ⟨_,rfl,s0,by simp only;omega,by simp;omega,wHF he ⟨?_,?_,?_,g1,g2⟩⟩
   ·simp only;omega
   ·simp only;omega
   ·simp only;omega
  ·rw [if_neg g2]
   exact ⟨_,rfl,s0,by simp only;omega,by simp only;omega,he⟩
 ·rw [if_neg g1]
  exact ⟨_,rfl,s0,by simp only;omega,by simp only;omega,he⟩
theorem wLX {d:wAF} (h0:d.next=0) {u w q:Int} (u1:1 <= u) (u2:u <= 8) (w1:1 <= w) (w2:w <= 8) (q0:0 <= q) (q1:q <= 40):∃ r T O d',wBj d u w q=some (r,T,O,d')/\RC r/\Lens r T O/\wCW r (yT T O)/\(∀ x ∈ r.Starts,x <= 902)/\(∀ x ∈ r.Clocks,-60 <= x.Offset.Lo/\x.Offset.Hi <= 70)/\(∀ x ∈ r.Readings,x.Time <= 100000):=by
 rw [wIA]
 obtain ⟨x,d1,e1,m0,m1,x0,x1⟩:=wEc d 1 u (by omega) (by omega) (by omega) (by omega) (by omega)
 obtain ⟨n,rfl⟩:∃ n:Nat,x=n:=⟨x.toNat,by omega⟩
 obtain ⟨⟨b2,nx2,st2,S⟩,e2,a0,a1,hS,eS⟩:=wCU (n:=n) (body:=m1B) (s0:=(d1.bytes,d1.next,d1.state,[])) (M1 d1.next) (by omega) ⟨m0,by simp only;omega,rfl,by simp⟩ fun i s hi I=>wLS m0 (by omega) (by omega) I
 simp only at a0 a1 hS eS
 obtain ⟨y,d3,e3,b0,b1,y0,y1⟩:=wCt ⟨b2,nx2,st2⟩ w a0 (by simp only;omega)
 simp only at b1
 obtain ⟨m,rfl⟩:∃ n:Nat,y=n:=⟨y.toNat,by omega⟩
 obtain ⟨⟨b4,nx4,st4,P⟩,e4,c0,c1,hP,eP⟩:=wCU (n:=m) (body:=m2B) (s0:=(d3.bytes,d3.next,d3.state,[])) (M2 d3.next) (by omega) ⟨b0,by simp only;omega,rfl,by simp⟩ fun i s hi I=>wLT b0 (by omega) (by omega) I
 simp only at c0 c1 hP eP
 obtain ⟨⟨b5,nx5,st5,T⟩,e5,f0,f1,hT,eT⟩:=wCU (n:=S.length) (body:=m3B S P) (s0:=(b4,nx4,st4,[])) (M3o S P nx4) (by omega) ⟨c0,by simp only;omega,rfl,fun i hi=>by omega⟩ fun i s hi I=>wKT eS (by omega) eP c0 (by omega) hi (by omega) I
 simp only at f0 f1 hT eT
 obtain ⟨z,d6,e6,g0,g1,z0,z1⟩:=wEc ⟨b5,nx5,st5⟩ 1 3 f0 (by simp only;omega) (by omega) (by omega) (by omega)
 simp only at g1
 obtain ⟨c,rfl⟩:∃ n:Nat,z=n:=⟨z.toNat,by omega⟩
 obtain ⟨⟨b7,nx7,st7,C,O⟩,e7,k0,k1,hC,hO,eC⟩:=wCU (n:=c) (body:=m4B) (s0:=(d6.bytes,d6.next,d6.state,[],[])) (M4 d6.next) (by omega) ⟨g0,by simp only;omega,rfl,rfl,fun i hi=>by omega⟩ fun i s hi I=>wLV g0 (by omega) (by omega) I
 simp only at k0 k1 hC hO eC
 obtain ⟨v,d8,e8,l0,l1,v0,v1⟩:=wCt ⟨b7,nx7,st7⟩ (q + 1) k0 (by simp only;omega)
 simp only at l1
 obtain ⟨h,rfl⟩:∃ n:Nat,v=n:=⟨v.toNat,by omega⟩
 have hTl:T.length=S.length:=by omega
 obtain ⟨⟨b9,nx9,st9,R⟩,e9,_,_,hR,eR⟩:=wCU (n:=h) (body:=m5B S P T C O) (s0:=(d8.bytes,d8.next,d8.state,[])) (M5 S P T C O d8.next) (by omega) ⟨l0,by simp only;omega,nX _,by simp⟩ fun i s hi I=>wLW (by omega) (by omega) (by omega) hTl (fun i hi=>eT i (by omega)) (by omega) (by omega) (by omega) (fun i hi=>eC i (by omega)) l0 (by omega) (by omega) I
 simp only at hR eR
 rw [e1,hD]
 simp only
 rw [e2,hD]
 simp only
 rw [e3,hD]
 simp only
 rw [e4,hD]
 simp only
 rw [e5,hD]
 simp only
 rw [e6,hD]
 simp only
 rw [e7,hD]
 simp only
 rw [wAW (x:=q + 1) (by omega) (by omega),e8,hD]
 simp only
 rw [e9,hD]
 have hck:∀ x ∈ C,∃ o,ClkI x o:=fun x hx=>by
  obtain ⟨i,hi,rfl⟩:=wEn hx
  exact ⟨_,eC i (by omega)⟩
 have RR:RC ⟨S,P,C,R⟩:=⟨⟨by simp only;omega,by simp only;omega⟩,by simp only;omega,by simp only;omega,by simp only;omega,(fun s hs=>by have:=eS s hs;omega),(fun s hs=>by have:=eP s hs;omega),(fun s hs=>by
  obtain ⟨o,h1,h2,h3,h4,h5,h6,h7⟩:=hck s hs
  exact ⟨⟨h2,by omega,by omega⟩,h4,by omega⟩),(fun x hx=>by have:=eR x hx;exact ⟨this.2.1,by have:=this.2.2.1;omega⟩),fun x hx=>(eR x hx).1⟩
 refine ⟨⟨S,P,C,R⟩,T,O,_,rfl,RR,⟨hTl,fun k hk=>(eT k hk).len,by simp only;omega⟩,(wKR RR).2 ⟨?_,?_,?_⟩,fun x hx=>(eS x hx).2,fun x hx=>?_,fun x hx=>(eR x hx).2.2.1⟩
 ·rw [wDt]
  intro i _ hi
  have hi:i < S.length:=by simp only at hi;omega
  have Q:=eT i hi
  unfold wMO
  rw [nD,decide_eq_true_eq,wDt]
  refine ⟨Q.z,fun j _ hj=>?_⟩
  unfold inB
  rw [decide_eq_true_eq]
  exact Q.d j (by simp only at hj;omega)
 ·rw [wDt]
  intro i _ hi
  have Q:=eC i (by simp only at hi;omega)
  unfold clkS inB
  rw [decide_eq_true_eq]
  exact ⟨Q.2.2.2.2.2.1,Q.2.2.2.2.2.2⟩
 ·rw [wDt]
  intro i _ hi
  have Q:=eR _ (wBg (l:=R) (k:=i) (by simp only at hi;omega))
  unfold redS inB
  rw [decide_eq_true_eq]
  exact ⟨Q.2.2.2.1,Q.2.2.2.2⟩
 ·obtain ⟨o,h1,h2,h3,_⟩:=hck x hx
  exact ⟨h1,h3⟩
end Go.Proofs.Ytlnfbjphfoipaaa
namespace Go.Proofs.Ytlnfbjphfoipaaa
open Go.KL Go.KL.Net
theorem wIf {r:wAD} (S:wEo r):wAo r=some r:=by
 have hn:=S.n;have hm:=S.m;have hc:=S.c;have hq:=S.q
 unfold wAo wBm wBK wBB wAt
 rw [wDs (by simp only [nK];omega),hD,hD,wDs (by simp only [nK];omega),hD,hD,wDs (by simp only [nK];omega),hD,hD,wDs (by simp only [nK];omega)]
 rfl
end Go.Proofs.Ytlnfbjphfoipaaa
namespace Go.Proofs.Ytlnfbjphfoipaaa
open Go.KL
theorem wKU {l:List Int} {i k:Int} (i0:0 <= i) (i1:i < l.length) (k0:0 <= k) (k1:k < l.length):(nA (nA l i.toNat (gd l k.toNat)) k.toNat (gd l i.toNat)).Perm l:=by
 rw [wHe (show k.toNat < l.length by omega),wHe (show i.toNat < l.length by omega)]
 exact List.set_set_perm (by omega) (by omega)
theorem wGo (d:wAF) (n:Nat) (h0:0 <= d.next) (h1:d.next <= 100000) (hn:n <= 1000):∃ l d',wAm d (n:Int)=some (l,d')/\0 <= d'.next/\d'.next <= d.next + n/\l.Perm ((nB n).map fun (k:Nat)=>(k:Int)):=by
 unfold wAm
 have e1:max (0:Int) n=n:=by omega
 rw [e1,wDe (by omega)]
 obtain ⟨s,hs,hI⟩:=wEE (body:=fun (k19:Nat) (l15:List Int)=>(app 8 l15 [(k19:Int)]).bind fun x47=>some x47) (fun k l=>l=(nB k).map fun (k:Nat)=>(k:Int)) n 0 [] rfl (fun i s _ hi e=>by
  subst e
  refine ⟨_,by rw [app,if_pos (by simp;omega)];rfl,?_⟩
  rw [kJ,nP];rfl)
 rw [hs,hD]
 rw [na] at hI
 have hlen:s.length=n:=by rw [hI];simp
 rw [wAW (by omega) (by omega)]
 refine (wIS (I:=fun j (st:List Int × Int × Int × List Int × Int)=>st.2.2.2.1.Perm s/\0 <= st.2.1/\st.2.1 <= d.next + j/\st.2.2.2.2=(s.length:Int) - 1 - j) (Z:=fun (b:List Int × wAF)=>0 <= b.2.next/\b.2.next <= d.next + n/\b.1.Perm s) n ?_ ⟨List.Perm.refl _,by simpa using h0,by simp,by simp⟩ (by omega)).elim fun b hb=>⟨b.1,b.2,hb.1,hb.2.1,hb.2.2.1,hI ▸ hb.2.2.2⟩
 rintro j ⟨b,nx,st,l,i⟩ hj ⟨hp,n0,n1,hi⟩
 simp only at hp n0 n1 hi ⊢
 have hl:l.length=s.length:=hp.length_eq
 by_cases c:0 < i
 ·left
  refine ⟨by omega,?_⟩
  rw [if_pos c,wAW (x:=i + 1) (by omega) (by omega)]
  obtain ⟨x,d',e,m0,m1,x0,x1⟩:=wCt ⟨b,nx,st⟩ (i + 1) n0 (by simp only;omega)
  have x1':x < l.length:=by omega
  rw [e,hD]
  simp only
  rw [wBa x0 (by omega),hD,wBa (by omega) (by omega),hD,wBa x0 (by rw [nV];omega),hD,wAW (by omega) (by omega)]
  exact ⟨_,rfl,(wKU (by omega) (by omega) x0 x1').trans hp,m0,by simp only at m1 ⊢;omega,by simp only;omega⟩
 ·right
  rw [if_neg c]
  exact ⟨_,rfl,n0,by simp only;omega,hp⟩
theorem wIB {p:List Int} {n:Nat} (h:p.Perm ((nB n).map fun (k:Nat)=>(k:Int))):∀ i ∈ p,0 <= i/\i < n:=by
 intro i hi
 obtain ⟨k,hk,e⟩:=hH.1 (h.mem_iff.1 hi)
 have:=nJ.1 hk
 omega
end Go.Proofs.Ytlnfbjphfoipaaa
namespace Go.Proofs.Ytlnfbjphfoipaaa
open Go.KL Go.KL.Net
open Classical
theorem wLY (d:wAF) (n:Int) (h0:0 <= d.next) (h1:d.next <= 1000000):∃ b d',wAy d n=some (b,d')/\0 <= d'.next/\d'.next <= d.next + 1:=by
 obtain ⟨x,d',e,m0,m1,_⟩:=wCt d n h0 h1
 unfold wAy
 rw [e]
 exact ⟨_,_,rfl,m0,m1⟩
def Sp (x y:wAI):Prop:=y.Skier=x.Skier/\y.Mat=x.Mat/\y.Clock=x.Clock/\0 <= y.Time/\y.Time <= 200000
theorem wKV {r:wAD} (C:RC r) (ht:∀ x ∈ r.Readings,x.Time <= 100000) (d:wAF) (h0:d.next=0):∃ l d',wBd d r=some (⟨r.Starts,r.Splits,r.Clocks,l⟩,d')/\l.length=r.Readings.length/\∀ k,k < r.Readings.length->Sp (gd r.Readings k) (gd l k):=by
 have hn:=C.n;have hm:=C.m;have hc:=C.c;have hq:=C.q
 unfold wBd
 rw [wIf ⟨by omega,by omega,by omega,by omega⟩,hD]
 obtain ⟨s,e,I⟩:=wCU (n:=r.Readings.length) (body:=fun k61 ((l55,l56,x59,x60):List wAI × List Int × Int × Int) =>
  (wAy (⟨l56,x59,x60⟩:wAF) 5).bind fun (x89,x90) =>
  if x89=true then
   (chk (↑k61:Int) l55.length).bind fun _ =>
   (wAQ x90 (-400) 400).bind fun (x144,x145) =>
   some ((nA l55 k61 (⟨(gd l55 k61).Skier,(gd l55 k61).Mat,(gd l55 k61).Clock,max 0 (w64 (((gd l55 k61).Time) + x144))⟩:wAI)),x145.bytes,x145.next,x145.state)
  else
   some (l55,x90.bytes,x90.next,x90.state)) (s0:=(r.Readings,d.bytes,d.next,d.state))
  (fun (k:Nat) s=>s.1.length=r.Readings.length/\(0 <= s.2.2.1/\s.2.2.1 <= 2 * (k:Int))/\(∀ j,j < r.Readings.length->Sp (gd r.Readings j) (gd s.1 j))/\∀ j,k <= j->j < r.Readings.length->gd s.1 j=gd r.Readings j) (by omega)
  ⟨rfl,by simp only;omega,fun j hj=>⟨rfl,rfl,rfl,(C.rt _ (wBg hj)).1,by have:=ht _ (wBg hj);simp only at this ⊢;omega⟩,fun _ _ _=>rfl⟩ (by
   rintro k ⟨l,b,n,st⟩ hk ⟨a1,a2,a3,a4⟩
   simp only at a1 a2 a3 a4 ⊢
   obtain ⟨c,d1,e1,n0,n1⟩:=wLY ⟨b,n,st⟩ 5 a2.1 (by simp only;omega)
   simp only at n1
   rw [e1,hD]
   simp only
   by_cases hc:c=true
   ·obtain ⟨x,d2,e2,m0,m1,x0,x1⟩:=wEc d1 (-400) 400 n0 (by omega) (by omega) (by omega) (by omega)
    rw [if_pos hc,wBa (by omega) (by omega),hD,e2,hD]
    simp only
    have gk:=a4 k (nX _) hk
    have t0:=C.rt _ (wBg hk)
    have t1:=ht _ (wBg hk)
    rw [wAW (by rw [gk];omega) (by rw [gk];omega)]
    refine ⟨_,rfl,by simp only [nV];exact a1,by simp only;omega,fun j hj=>?_,fun j hj hj2=>?_⟩
    ·simp only
     rw [wFe (by omega) (by omega)]
     by_cases cj:j=k
     ·subst cj
      rw [if_pos rfl,gk]
      exact ⟨rfl,rfl,rfl,by simp only;omega,by simp only;omega⟩
     ·rw [if_neg cj]
      exact a3 j hj
    ·simp only
     rw [wFe (by omega) (by omega),if_neg (by omega)]
     exact a4 j (by omega) hj2
   ·rw [if_neg hc]
    exact ⟨_,rfl,a1,by simp only;omega,a3,fun j hj hj2=>a4 j (by omega) hj2⟩)
 rw [e]
 exact ⟨s.1,_,rfl,I.1,I.2.2.1⟩
theorem wKW {r:wAD} (C:RC r) {l:List wAI} (hl:l.length=r.Readings.length) (hs:∀ k,k < r.Readings.length->Sp (gd r.Readings k) (gd l k)):RC ⟨r.Starts,r.Splits,r.Clocks,l⟩:=by
 refine ⟨C.n,C.m,C.c,by rw [hl];exact C.q,C.st,C.sp,C.ck,fun x hx=>?_,fun x hx=>?_⟩
 ·obtain ⟨k,hk,rfl⟩:=wEn hx
  simp only at hk
  have:=hs k (by omega)
  simp only
  exact ⟨this.2.2.2.1,by have:=this.2.2.2.2;omega⟩
 ·obtain ⟨k,hk,rfl⟩:=wEn hx
  simp only at hk
  have a:=hs k (by omega)
  simp only
  have b:=C.ru _ (wBg (show k < r.Readings.length by omega))
  rw [a.1,a.2.1,a.2.2.1]
  exact b
structure Ord (n:Nat) (p:List Int):Prop where
 len:p.length=n
 rg:∀ i,i < n->0 <= gd p i/\gd p i < n
 inj:∀ i j,i < n->j < n->gd p i=gd p j->i=j
 sur:∀ v:Nat,v < n->∃ i,i < n/\gd p i=(v:Int)
theorem wMP {n:Nat} {p:List Int} (h:p.Perm ((nB n).map fun (k:Nat)=>(k:Int))):Ord n p:=by
 have hl:p.length=n:=by rw [h.length_eq];simp
 have hd:p.Nodup:=h.nodup_iff.2 (kB.2 (kY.2 (kM.imp fun h=>by omega)))
 refine ⟨hl,fun i hi=>wIB h _ (wBg (by omega)),fun i j hi hj e=>?_,fun v hv=>?_⟩
 ·rw [wHe (show i < p.length by omega),wHe (show j < p.length by omega)] at e
  exact (List.getElem_inj hd).1 e
 ·obtain ⟨i,hi,e⟩:=wEn (h.mem_iff.2 (hH.2 ⟨v,nJ.2 hv,rfl⟩))
  exact ⟨i,by omega,e⟩
theorem wLZ {n:Nat} {p:List Int} (O:Ord n p):∃ inv:Int->Int,∀ i:Nat,i < n->inv (gd p i)=i:=by
 refine ⟨fun v=>if h:∃ i:Nat,i < n/\gd p i=v then (nn h:Nat) else 0,fun i hi=>?_⟩
 have h:∃ j:Nat,j < n/\gd p j=gd p i:=⟨i,hi,rfl⟩
 show (if h:∃ j:Nat,j < n/\gd p j=gd p i then ((nn h:Nat):Int) else 0)=i
 rw [dif_pos h]
 have:=no h
 have:=O.inj _ _ this.1 hi this.2
 omega
theorem wJl {n:Nat} {p:List Int} (O:Ord n p) (q:Nat->Bool):(nB n).countP (fun j=>q (gd p j).toNat)=(nB n).countP q:=by
 have h:((nB n).map fun j=>(gd p j).toNat).Perm (nB n):=by
  refine (List.perm_ext_iff_of_nodup ?_ List.nodup_range).2 fun v=>?_
  ·refine kB.2 (kY.2 ?_)
   refine (kM (n:=n)).imp_of_mem fun ha hb hab e=>?_
   have ha:=nJ.1 ha;have hb:=nJ.1 hb
   have:=O.rg _ ha;have:=O.rg _ hb
   have:=O.inj _ _ ha hb (by omega)
   omega
  ·rw [hH,nJ]
   constructor
   ·rintro ⟨j,hj,rfl⟩
    have:=O.rg j (nJ.1 hj)
    omega
   ·intro hv
    obtain ⟨i,hi,e⟩:=O.sur v hv
    exact ⟨i,nJ.2 hi,by rw [e];simp⟩
 have:=h.countP_eq (p:=q)
 rw [List.countP_map] at this
 exact this
def rn (p:List Int) (x:wAI):wAI:=⟨gd p x.Skier.toNat,x.Mat,x.Clock,x.Time⟩
structure Nm (r r':wAD) (p:List Int):Prop where
 o:Ord r.Starts.length p
 n:r'.Starts.length=r.Starts.length
 st:∀ j,j < r.Starts.length->gd r'.Starts (gd p j).toNat=gd r.Starts j
 sp:r'.Splits=r.Splits
 ck:r'.Clocks=r.Clocks
 q:r'.Readings.length=r.Readings.length
 rd:∀ x,x ∈ r'.Readings ↔ ∃ y ∈ r.Readings,x=rn p y
def nmF (p:List Int) (a:Pt):Pt:=if a.skier=-1 then a else ⟨gd p a.skier.toNat,a.mat⟩
theorem Nm.rc {r r':wAD} {p:List Int} (C:RC r) (N:Nm r r' p):RC r':=by
 refine ⟨by rw [N.n];exact C.n,by rw [N.sp];exact C.m,by rw [N.ck];exact C.c,by rw [N.q];exact C.q,fun s hs=>?_,by rw [N.sp];exact C.sp,by rw [N.ck];exact C.ck,fun x hx=>?_,fun x hx=>?_⟩
 ·obtain ⟨v,hv,rfl⟩:=wEn hs
  obtain ⟨i,hi,e⟩:=N.o.sur v (by rw [<- N.n];exact hv)
  have:=N.st i hi
  rw [e,hJ] at this
  rw [this]
  exact C.st _ (wBg hi)
 ·obtain ⟨y,hy,rfl⟩:=(N.rd x).1 hx
  exact C.rt y hy
 ·obtain ⟨y,hy,rfl⟩:=(N.rd x).1 hx
  have u:=C.ru y hy
  have:=N.o.rg y.Skier.toNat (by omega)
  rw [N.n,N.sp,N.ck]
  exact ⟨this.1,this.2,u.2.2⟩
theorem Nm.mv {r r':wAD} {p:List Int} (C:RC r) (N:Nm r r' p):∃ g,Mv r r' (nmF p) g fun _=>0:=by
 obtain ⟨inv,hi⟩:=wLZ N.o
 refine ⟨fun a=>if a.skier=-1 then a else ⟨inv a.skier,a.mat⟩,fun a ha=>?_,fun a ha=>?_,fun y=>?_⟩
 ·unfold nmF
  rcases ha with rfl | ⟨h0,h1,h2,h3⟩ | ⟨h0,h1,h2⟩
  ·exact .inl rfl
  ·rw [if_neg (by omega)]
   have:=N.o.rg a.skier.toNat (by omega)
   exact .inr (.inl ⟨this.1,by rw [N.n];exact this.2,h2,by rw [N.sp];exact h3⟩)
  ·rw [if_pos h0]
   exact .inr (.inr ⟨h0,h1,by rw [N.ck];exact h2⟩)
 ·unfold nmF
  rcases ha with rfl | ⟨h0,h1,h2,h3⟩ | ⟨h0,h1,h2⟩
  ·rfl
  ·have u:=N.o.rg a.skier.toNat (by omega)
   rw [if_neg (show ¬ a.skier=-1 by omega),if_neg (show ¬ gd p a.skier.toNat=-1 by omega),hi _ (by omega),nE h0]
  ·rw [if_pos h0,if_pos h0]
 ·rw [wIw,wIw]
  have zz:nmF p zp=zp:=rfl
  have zk:∀ k:Int,nmF p ⟨-1,k⟩=⟨-1,k⟩:=fun k=>rfl
  have zs:∀ (s:Nat) (k:Int),nmF p ⟨(s:Int),k⟩=⟨gd p s,k⟩:=fun s k=>by
   unfold nmF
   rw [if_neg (by simp only;omega)]
   simp only [hJ]
  have zr:∀ x ∈ r.Readings,nmF p ⟨x.Skier,x.Mat⟩=⟨gd p x.Skier.toNat,x.Mat⟩:=fun x hx=>by
   have:=(C.ru x hx).1
   unfold nmF
   rw [if_neg (by simp only;omega)]
  constructor
  ·rintro ⟨a,b,c,d⟩
   refine ⟨fun s hs=>?_,fun s k hs hk=>?_,fun k hk=>?_,fun x hx=>?_⟩
   ·have u:=N.o.rg s hs
    have:=a (gd p s).toNat (by rw [N.n];omega)
    rw [N.st s hs,nE u.1] at this
    rw [zs,zz]
    omega
   ·have u:=N.o.rg s hs
    have:=b (gd p s).toNat k (by rw [N.n];omega) (by rw [N.sp];exact hk)
    rw [N.sp,nE u.1] at this
    rw [zs,zs]
    omega
   ·have:=c k (by rw [N.ck];exact hk)
    rw [N.ck] at this
    rw [zk,zz]
    omega
   ·have:=d _ ((N.rd _).2 ⟨x,hx,rfl⟩)
    rw [N.ck] at this
    rw [zr x hx,zk]
    simp only [rn] at this
    omega
  ·rintro ⟨a,b,c,d⟩
   refine ⟨fun v hv=>?_,fun v k hv hk=>?_,fun k hk=>?_,fun x hx=>?_⟩
   ·obtain ⟨i,hi,e⟩:=N.o.sur v (by rw [<- N.n];exact hv)
    have h1:=a i hi
    have h2:=N.st i hi
    rw [e,hJ] at h2
    rw [zs,zz,e] at h1
    rw [h2]
    omega
   ·obtain ⟨i,hi,e⟩:=N.o.sur v (by rw [<- N.n];exact hv)
    have h1:=b i k hi (by rw [<- N.sp];exact hk)
    rw [zs,zs,e] at h1
    rw [N.sp]
    omega
   ·have h1:=c k (by rw [<- N.ck];exact hk)
    rw [zk,zz] at h1
    rw [N.ck]
    omega
   ·obtain ⟨w,hw,rfl⟩:=(N.rd x).1 hx
    have h1:=d w hw
    rw [zr w hw,zk] at h1
    rw [N.ck]
    simp only [rn]
    omega
def ltR (r:wAD) (b:Int):wAD:=⟨r.Starts.map (· + b),r.Splits,r.Clocks,r.Readings.map fun x=>⟨x.Skier,x.Mat,x.Clock,x.Time + b⟩⟩
def fsR (r:wAD) (b:Int):wAD:=⟨r.Starts,r.Splits,r.Clocks.map fun c=>⟨⟨c.Offset.Lo + b,c.Offset.Hi + b⟩,c.Error⟩,r.Readings.map fun x=>⟨x.Skier,x.Mat,x.Clock,x.Time + b⟩⟩
def ltH (b:Int) (p:Pt):Int:=if p.skier=-1 then 0 else b
def fsH (b:Int) (p:Pt):Int:=if p.skier=-1/\p.mat ≠ 0 then -b else 0
theorem lt_rc {r:wAD} (C:RC r) {b:Int} (b0:0 <= b) (b1:b <= 5000) (hs:∀ x ∈ r.Starts,x <= 902) (hr:∀ x ∈ r.Readings,x.Time <= 200000):RC (ltR r b):=by
 refine ⟨by simpa [ltR] using C.n,C.m,C.c,by simpa [ltR] using C.q,fun s h=>?_,C.sp,C.ck,fun x h=>?_,fun x h=>?_⟩
 ·obtain ⟨a,ha,rfl⟩:=hH.1 h
  have:=C.st a ha;have:=hs a ha
  omega
 ·obtain ⟨a,ha,rfl⟩:=hH.1 h
  have:=C.rt a ha;have:=hr a ha
  simp only
  omega
 ·obtain ⟨a,ha,rfl⟩:=hH.1 h
  simpa [ltR] using C.ru a ha
theorem fs_rc {r:wAD} (C:RC r) {b:Int} (b0:0 <= b) (b1:b <= 5000) (hc:∀ x ∈ r.Clocks,-60 <= x.Offset.Lo/\x.Offset.Hi <= 70) (hr:∀ x ∈ r.Readings,x.Time <= 200000):RC (fsR r b):=by
 refine ⟨C.n,C.m,by simpa [fsR] using C.c,by simpa [fsR] using C.q,C.st,C.sp,fun c h=>?_,fun x h=>?_,fun x h=>?_⟩
 ·obtain ⟨a,ha,rfl⟩:=hH.1 h
  have:=C.ck a ha;have:=hc a ha
  simp only
  omega
 ·obtain ⟨a,ha,rfl⟩:=hH.1 h
  have:=C.rt a ha;have:=hr a ha
  simp only
  omega
 ·obtain ⟨a,ha,rfl⟩:=hH.1 h
  simpa [fsR] using C.ru a ha
theorem lt_mv {r:wAD} (C:RC r) (b:Int):Mv r (ltR r b) id id (ltH b):=by
 refine ⟨fun a ha=>?_,fun _ _=>rfl,fun y=>?_⟩
 ·unfold wEm at ha ⊢
  simpa [ltR] using ha
 ·rw [wIw,wIw]
  have zz:ltH b zp=0:=rfl
  have zk:∀ k:Int,ltH b ⟨-1,k⟩=0:=fun k=>rfl
  have zs:∀ (s:Int) (k:Int),0 <= s->ltH b ⟨s,k⟩=b:=fun s k h=>if_neg (by simp only;omega)
  have l1:(ltR r b).Starts.length=r.Starts.length:=by simp [ltR]
  have g1:∀ s,s < r.Starts.length->gd (ltR r b).Starts s=gd r.Starts s + b:=fun s hs=>wHD _ hs
  constructor
  ·rintro ⟨h1,h2,h3,h4⟩
   refine ⟨fun s hs=>?_,fun s k hs hk=>?_,fun k hk=>?_,fun x hx=>?_⟩
   ·have:=h1 s (by omega)
    rw [g1 s hs] at this
    simp only [id]
    rw [zz,zs _ _ (by omega)]
    omega
   ·have:=h2 s k (by omega) hk
    simp only [id]
    rw [zs _ _ (by omega),zs _ _ (by omega)]
    simp only [ltR] at this
    omega
   ·have:=h3 k hk
    simp only [id]
    rw [zk,zz]
    simp only [ltR] at this
    omega
   ·have:=h4 _ (hH.2 ⟨x,hx,rfl⟩)
    simp only [id]
    rw [zs _ _ (C.ru x hx).1,zk]
    simp only [ltR] at this
    omega
  ·rintro ⟨h1,h2,h3,h4⟩
   refine ⟨fun s hs=>?_,fun s k hs hk=>?_,fun k hk=>?_,fun x hx=>?_⟩
   ·have:=h1 s (by omega)
    rw [g1 s (by omega)]
    simp only [id] at this
    rw [zz,zs _ _ (by omega)] at this
    omega
   ·have:=h2 s k (by omega) hk
    simp only [id] at this
    rw [zs _ _ (by omega),zs _ _ (by omega)] at this
    simp only [ltR]
    omega
   ·have:=h3 k hk
    simp only [id] at this
    rw [zk,zz] at this
    simp only [ltR]
    omega
   ·obtain ⟨w,hw,rfl⟩:=hH.1 hx
    have:=h4 w hw
    simp only [id] at this
    rw [zs _ _ (C.ru w hw).1,zk] at this
    simp only [ltR]
    omega
theorem fs_mv {r:wAD} (C:RC r) (b:Int):Mv r (fsR r b) id id (fsH b):=by
 refine ⟨fun a ha=>?_,fun _ _=>rfl,fun y=>?_⟩
 ·unfold wEm at ha ⊢
  simpa [fsR] using ha
 ·rw [wIw,wIw]
  have zz:fsH b zp=0:=rfl
  have zk:∀ k:Int,0 <= k->fsH b ⟨-1,1 + k⟩=-b:=fun k h=>if_pos ⟨rfl,by simp only;omega⟩
  have zs:∀ (s:Int) (k:Int),0 <= s->fsH b ⟨s,k⟩=0:=fun s k h=>if_neg (by simp only;omega)
  have l1:(fsR r b).Clocks.length=r.Clocks.length:=by simp [fsR]
  have g1:∀ s,s < r.Clocks.length->gd (fsR r b).Clocks s=⟨⟨(gd r.Clocks s).Offset.Lo + b,(gd r.Clocks s).Offset.Hi + b⟩,(gd r.Clocks s).Error⟩:=fun s hs=>wHD _ hs
  constructor
  ·rintro ⟨h1,h2,h3,h4⟩
   refine ⟨fun s hs=>?_,fun s k hs hk=>?_,fun k hk=>?_,fun x hx=>?_⟩
   ·have:=h1 s hs
    simp only [id]
    rw [zz,zs _ _ (by omega)]
    simp only [fsR] at this
    omega
   ·have:=h2 s k hs hk
    simp only [id]
    rw [zs _ _ (by omega),zs _ _ (by omega)]
    simp only [fsR] at this
    omega
   ·have:=h3 k (by omega)
    rw [g1 k hk] at this
    simp only [id]
    rw [zk _ (by omega),zz]
    simp only at this
    omega
   ·have u:=C.ru x hx
    have:=h4 _ (hH.2 ⟨x,hx,rfl⟩)
    simp only at this
    rw [g1 _ (by omega)] at this
    simp only [id]
    rw [zs _ _ u.1,zk _ u.2.2.2.2.1]
    simp only at this
    omega
  ·rintro ⟨h1,h2,h3,h4⟩
   refine ⟨fun s hs=>?_,fun s k hs hk=>?_,fun k hk=>?_,fun x hx=>?_⟩
   ·have:=h1 s hs
    simp only [id] at this
    rw [zz,zs _ _ (by omega)] at this
    simp only [fsR]
    omega
   ·have:=h2 s k hs hk
    simp only [id] at this
    rw [zs _ _ (by omega),zs _ _ (by omega)] at this
    simp only [fsR]
    omega
   ·have:=h3 k (by omega)
    rw [g1 k (by omega)]
    simp only [id] at this
    rw [zk _ (by omega),zz] at this
    simp only
    omega
   ·obtain ⟨w,hw,rfl⟩:=hH.1 hx
    have u:=C.ru w hw
    have:=h4 w hw
    simp only
    rw [g1 _ (by omega)]
    simp only [id] at this
    rw [zs _ _ u.1,zk _ u.2.2.2.2.1] at this
    simp only
    omega
end Go.Proofs.Ytlnfbjphfoipaaa
namespace Go.Proofs.Ytlnfbjphfoipaaa
set_option maxRecDepth 100000 in
theorem aw06:wBx=some true:=by decide +kernel
end Go.Proofs.Ytlnfbjphfoipaaa
namespace Go.Proofs.Ytlnfbjphfoipaaa
open Go.KL Go.KL.Net
open Classical
theorem foldN {x n:Int} (x0:-9223372036854775808 <= x) (x1:x <= 9223372036854775807) (n1:1 <= n) (n2:n <= 100000):∃ y,wCD x n=some y/\0 <= y/\y < n:=by
 unfold wCD
 have e1:rem x n=some (x.tmod n):=if_neg (by omega)
 have b1:-n < x.tmod n/\x.tmod n < n:=by
  have h:=Int.natAbs_tmod x n
  have h2:x.natAbs % n.natAbs < n.natAbs:=Nat.mod_lt _ (by omega)
  omega
 have e2:rem (x.tmod n + n) n=some ((x.tmod n + n).tmod n):=if_neg (by omega)
 have b2:0 <= (x.tmod n + n).tmod n/\(x.tmod n + n).tmod n < n:=⟨Int.tmod_nonneg _ (by omega),Int.tmod_lt_of_pos _ (by omega)⟩
 rw [if_neg (by omega),e1,hD,wAW (by omega) (by omega),e2]
 exact ⟨_,rfl,b2⟩
theorem wJm {α:Type} [Inhabited α] {l:List α} {f:α->α} {body:Nat->List α->Option (List α)} (hl:l.length <= 1000) (h:∀ k l',k < l.length->l'.length=l.length->gd l' k=gd l k->body k l'=some (l'.set k (f (gd l k)))):wBc 0 (l.length:Int) body l=some (l.map f):=by
 obtain ⟨s,e,h1,h2⟩:=wCU (n:=l.length) (body:=body) (s0:=l) (fun k l'=>l'.length=l.length/\∀ j,j < l.length->gd l' j=if j < k then f (gd l j) else gd l j) hl ⟨rfl,fun j _=>by rw [if_neg (by omega)]⟩ (fun k l' hk ⟨a,b⟩=>⟨_,h k l' hk a (by rw [b k hk,if_neg (by omega)]),by rw [nV];exact a,fun j hj=>by
  rw [wFe (by omega) (by omega),b j hj]
  by_cases c:j=k
  ·rw [if_pos c,if_pos (by omega),c]
  ·rw [if_neg c]
   by_cases d:j < k
   ·rw [if_pos d,if_pos (by omega)]
   ·rw [if_neg d,if_neg (by omega)]⟩)
 rw [e]
 congr 1
 refine wJZ (by rw [h1,nY]) fun k hk=>?_
 rw [h2 k (by omega),if_pos (by omega),wHD _ (by omega)]
theorem wKX {α:Type} [Inhabited α] {l:List α} {f:α->α} {body:Nat->List α × List α->Option (List α × List α)} (hl:l.length <= 1000) (h:∀ k a b,k < l.length->a.length=l.length->b.length=l.length->gd a k=gd l k->gd b k=gd l k->body k (a,b)=some (a.set k (f (gd l k)),b.set k (f (gd l k)))):wBc 0 (l.length:Int) body (l,l)=some (l.map f,l.map f):=by
 have st:∀ (k:Nat) (a:List α),k < l.length->(a.length=l.length/\∀ j,j < l.length->gd a j=if j < k then f (gd l j) else gd l j)->(a.set k (f (gd l k))).length=l.length/\∀ j,j < l.length->gd (a.set k (f (gd l k))) j=if j < k + 1 then f (gd l j) else gd l j:=fun k a hk ⟨h1,h2⟩=>⟨by rw [nV];exact h1,fun j hj=>by
  rw [wFe (by omega) (by omega),h2 j hj]
  by_cases c:j=k
  ·rw [if_pos c,if_pos (by omega),c]
  ·rw [if_neg c]
   by_cases d:j < k
   ·rw [if_pos d,if_pos (by omega)]
   ·rw [if_neg d,if_neg (by omega)]⟩
 have fin:∀ a:List α,(a.length=l.length/\∀ j,j < l.length->gd a j=if j < l.length then f (gd l j) else gd l j)->a=l.map f:=fun a ⟨h1,h2⟩=>wJZ (by rw [h1,nY]) fun k hk=>by rw [h2 k (by omega),if_pos (by omega),wHD _ (by omega)]
 obtain ⟨⟨a,b⟩,e,h1,h2⟩:=wCU (n:=l.length) (body:=body) (s0:=(l,l)) (fun k s=>(s.1.length=l.length/\∀ j,j < l.length->gd s.1 j=if j < k then f (gd l j) else gd l j)/\(s.2.length=l.length/\∀ j,j < l.length->gd s.2 j=if j < k then f (gd l j) else gd l j)) hl ⟨⟨rfl,fun j _=>by rw [if_neg (by omega)]⟩,rfl,fun j _=>by rw [if_neg (by omega)]⟩ (fun k s hk ⟨p,q⟩=>⟨_,h k s.1 s.2 hk p.1 q.1 (by rw [p.2 k hk,if_neg (by omega)]) (by rw [q.2 k hk,if_neg (by omega)]),st k _ hk p,st k _ hk q⟩)
 rw [e,fin a h1,fin b h2]
theorem wJn {l p:List Int} (hl:l.length <= 1000) (O:Ord l.length p):∃ s,wBc 0 (p.length:Int) (fun k l'=>(chk (k:Int) p.length).bind fun _=>(idx l (k:Int)).bind fun x=>(chk (gd p k) l'.length).bind fun _=>some (nA l' (gd p k).toNat x)) l=some s/\s.length=l.length/\∀ j,j < l.length->gd s (gd p j).toNat=gd l j:=by
 have pl:=O.len
 obtain ⟨s,e,h1,h2⟩:=wCU (n:=p.length) (body:=fun (k:Nat) (l':List Int)=>(chk (k:Int) p.length).bind fun _=>(idx l (k:Int)).bind fun x=>(chk (gd p k) l'.length).bind fun _=>some (nA l' (gd p k).toNat x)) (s0:=l) (fun k s=>s.length=l.length/\∀ j,j < k->gd s (gd p j).toNat=gd l j) (by omega) ⟨rfl,fun j h=>absurd h (by omega)⟩ (fun k s hk ⟨a,b⟩=>by
  have u:=O.rg k (by omega)
  rw [wBa (by omega) (by omega),hD,wHC (by omega),hD,wBa (by omega) (by omega),hD]
  refine ⟨_,rfl,by rw [nV];exact a,fun j hj=>?_⟩
  have v:=O.rg j (by omega)
  rw [wFe (by omega) (by omega)]
  by_cases c:j=k
  ·rw [if_pos (by rw [c]),c]
  ·rw [if_neg fun h=>c (O.inj j k (by omega) (by omega) (by omega))]
   exact b j (by omega))
 exact ⟨s,e,h1,fun j hj=>h2 j (by omega)⟩
theorem wKY {l:List wAI} {p q:List Int} (hl:l.length <= 100) (hq:q.Perm ((nB l.length).map fun (k:Nat)=>(k:Int))) (hs:∀ x ∈ l,0 <= x.Skier/\x.Skier < p.length):wBc 0 (q.length:Int) (fun k l'=>(chk (k:Int) q.length).bind fun _=>(idx l (gd q k)).bind fun x=>(chk x.Skier p.length).bind fun _=>(app 32 l' [(⟨(gd p x.Skier.toNat),x.Mat,x.Clock,x.Time⟩:wAI)]).bind fun y=>some y) []=some (q.map fun i=>rn p (gd l i.toNat)):=by
 have ql:q.length=l.length:=by rw [hq.length_eq];simp
 rw [wGD (S:=List wAI) (n:=q.length) (fun k=>(q.take k).map fun i=>rn p (gd l i.toNat)) (s0:=[]) rfl (by omega) fun k hk=>?_,kG]
 have u:=wIB hq _ (wBg hk)
 have v:=hs _ (wCV (l:=l) (i:=gd q k) u.1 (by omega))
 rw [wBa (by omega) (by omega),hD,wEZ u.1 (by omega),hD,wBa v.1 v.2,hD,wDs (by simp only [nY,nM,nH,nK];omega),hD,wGE hk,nP]
 rfl
section
variable {r r':wAD} {f g:Pt->Pt} {h:Pt->Int} (C:RC r) (C':RC r') (M:Mv r r' f g h)
theorem ser {r:wAD} (C:RC r) {s:wAO} (hs:wDZ r s=true):wFj r [s]=if ∃ y,wCW r y then 0 else 7:=by
 unfold wFj
 rw [if_pos (wEy C),if_pos (by simp [hs])]
theorem shc {r:wAD} (C:RC r):wEo r:=by
 have hn:=C.n;have hm:=C.m;have hc:=C.c;have hq:=C.q
 exact ⟨by omega,by omega,by omega,by omega⟩
include C C' M
theorem wFo (hy:¬ ∃ y,wCW r y) {s:wAO} (hs:wDZ r' s=true):wBH r' s=some (⟨0,0⟩,7):=by
 have e:=ser C' hs
 rw [if_neg fun c=>hy ((M.ex C).2 c)] at e
 have:=(wIe (shc C') s).1 (by omega)
 rwa [e] at this
theorem wFp (hy:∃ y,wCW r y) {s s':wAO} (hs':wDZ r' s'=true) (hs:wDZ r s=true) (hp:pt s'=f (pt s)) (hz:f zp=zp) (h0:h zp=0) {F G:Pt->Int} (hF:IsDP r zp F) (hG:IsDP r (pt s) G):wBH r' s'=some (⟨-G zp + h (pt s),F (pt s) + h (pt s)⟩,0):=by
 have e:=ser C' hs'
 have hy':=(M.ex C).1 hy
 rw [if_pos hy'] at e
 have o1:wEm r zp:=.inl rfl
 have o2:wEm r (pt s):=(wEx hs).1
 obtain ⟨F',hF'⟩:=wGn (shc C') (wEy C') hy' (a:=zp) (.inl rfl)
 obtain ⟨G',hG'⟩:=wGn (shc C') (wEy C') hy' (wEx hs').1
 rw [(wIe (shc C') s').2 e F' G' hF' hG']
 have a1:=(M.dp C o1 (hz ▸ hF')).one hF o2
 have a2:=(M.dp C o2 (hp ▸ hG')).one hG o1
 rw [hz] at a2
 rw [hp]
 congr 4 <;> omega
theorem wGG (hy:¬ ∃ y,wCW r y) {m:Int} (hs:wDZ r' ⟨0,m⟩=true):wBU r' m=some ([],7):=by
 have e:=ser C' hs
 rw [if_neg fun c=>hy ((M.ex C).2 c)] at e
 have:=(wFQ (shc C') m).1 (by omega)
 rwa [e] at this
end
theorem wKZ {n:Nat} {G G':Nat->Nat->Int} (h:∀ i j,i < n->j < n->G i j=G' i j):plL n G=plL n G':=by
 unfold plL
 refine kT fun i hi=>?_
 have hi:=nJ.1 hi
 have a:ahK G i n=ahK G' i n:=by
  unfold ahK
  congr 1
  exact List.filter_congr fun j hj=>by rw [h i j hi (nJ.1 hj)]
 have b:beK G i n=beK G' i n:=by
  unfold beK
  exact nj fun j hj=>by rw [h j i (nJ.1 hj) hi]
 rw [a,b]
theorem wKr (G:Nat->Nat->Int) (i n:Nat):(ahK G i n).length=(nB n).countP fun j=>decide (G i j < 0):=by
 unfold ahK
 rw [nY,<- List.countP_eq_length_filter]
theorem wKs {l:List wAG} (hl:l.length <= 1000):wAi l l=some true:=by
 unfold wAi
 exact wIp (by omega)
theorem wJo (p0 p1 p2:List Int) (p3:Int) (x0:-9223372036854775808 <= p3) (x1:p3 <= 9223372036854775807):wBb p0 p1 p2 p3=some true:=by
 have aw:=aw06
 unfold wBb
 obtain ⟨r0,T,O,d',e1,C0,_,_,b1,b2,b3⟩:=wLX (d:=⟨p0,0,17⟩) rfl (u:=5) (w:=4) (q:=8) (by omega) (by omega) (by omega) (by omega) (by omega) (by omega)
 obtain ⟨L,d2,e2,hl,hsp⟩:=wKV C0 b3 ⟨p1,0,17⟩ rfl
 have C:=wKW C0 hl hsp
 obtain ⟨b,e3,y0,y1⟩:=foldN x0 x1 (n:=5000) (by omega) (by omega)
 have b3':∀ x ∈ L,x.Time <= 200000:=fun x hx=>by
  obtain ⟨k,hk,rfl⟩:=wEn hx
  exact (hsp k (by omega)).2.2.2.2
 generalize hR:(⟨r0.Starts,r0.Splits,r0.Clocks,L⟩:wAD)=r at *
 have r1:r.Starts=r0.Starts:=by rw [<- hR]
 have r2:r.Splits=r0.Splits:=by rw [<- hR]
 have r3:r.Clocks=r0.Clocks:=by rw [<- hR]
 have r4:r.Readings=L:=by rw [<- hR]
 rw [show wBW p0=some (⟨p0,0,17⟩:wAF) from rfl,hD,e1,hD]
 simp only
 rw [show wBW p1=some (⟨p1,0,17⟩:wAF) from rfl,hD,e2,hD]
 simp only
 rw [hD]
 simp only
 rw [show (⟨r.Starts,r.Splits,r.Clocks,r.Readings⟩:wAD)=r from rfl]
 clear e1 e2 hsp hl C0
 rw [<- r1] at b1
 rw [<- r3] at b2
 rw [<- r4] at b3'
 clear r1 r2 r3 r4 hR b3
 have hn:=C.n;have hm:=C.m;have hc:=C.c;have hq:=C.q
 have S:=shc C
 obtain ⟨nm,d3,e4,n0,n1,hp⟩:=wGo ⟨p2,0,17⟩ r.Starts.length (by simp only;omega) (by simp only;omega) (by omega)
 have P:=wMP hp
 obtain ⟨sh,d4,e5,m0,m1,hq2⟩:=wGo d3 r.Readings.length n0 (by simp only at n1;omega) (by omega)
 have sl:sh.length=r.Readings.length:=by rw [hq2.length_eq];simp
 obtain ⟨st,e6,s1,s2⟩:=wJn (l:=r.Starts) (by omega) P
 have e7:=wKY (l:=r.Readings) (p:=nm) (q:=sh) (by omega) hq2 (fun x hx=>⟨(C.ru x hx).1,by rw [P.len];exact (C.ru x hx).2.1⟩)
 rw [show wBW p2=some (⟨p2,0,17⟩:wAF) from rfl,hD,e3,hD,e4,hD]
 simp only
 rw [wIf S,hD,hD,hD,hD]
 simp only
 rw [e6,hD,e5,hD]
 simp only
 rw [e7,hD]
 rw [wJm (l:=r.Starts) (f:=(· + b)) (by omega) fun k l' hk hl hg=>by
  have:=C.st _ (wBg hk);have:=b1 _ (wBg hk)
  rw [wBa (by omega) (by omega),hD,hg,wAW (by omega) (by omega)],hD]
 rw [wKX (l:=r.Readings) (f:=fun x=>⟨x.Skier,x.Mat,x.Clock,x.Time + b⟩) (by omega) fun k l1 l2 hk ha hb hg hg2=>by
  have:=C.rt _ (wBg hk)
  simp only
  rw [wBa (by omega) (by omega),hD,wBa (by omega) (by omega),hD,hg,hg2,wAW (by omega) (by omega)],hD]
 simp only
 rw [wJm (l:=r.Clocks) (f:=fun c=>⟨⟨c.Offset.Lo + b,c.Offset.Hi + b⟩,c.Error⟩) (by omega) fun k l' hk hl hg=>by
  have u:=C.ck _ (wBg hk);have v:=b2 _ (wBg hk)
  rw [wBa (by omega) (by omega),hD,wBa (by omega) (by rw [nV];omega),hD,wFe (by omega) (by omega),if_pos rfl,hg]
  simp only
  rw [wAW (by omega) (by omega),wAW (by omega) (by omega),List.set_set],hD]
 obtain ⟨x,d5,e8,z0,z1,u0,u1⟩:=wCt d4 (r.Starts.length:Int) m0 (by simp only at n1;omega)
 obtain ⟨m,d6,e9,_,_,v0,v1⟩:=wCt d5 ((r.Splits.length:Int) + 1) z0 (by simp only at n1;omega)
 have u1':x < r.Starts.length:=by omega
 have v1':m <= r.Splits.length:=by omega
 have eS:wBQ d4 r=some (⟨x,m⟩,d6):=by
  unfold wBQ
  rw [e8,hD]
  simp only
  rw [wAW (by omega) (by omega),e9,hD]
  rfl
 rw [show (⟨r.Starts,r.Splits,r.Clocks,r.Readings⟩:wAD)=r from rfl,eS,hD]
 simp only
 have N:Nm r ⟨st,r.Splits,r.Clocks,sh.map fun i=>rn nm (gd r.Readings i.toNat)⟩ nm:=by
  refine ⟨P,s1,s2,rfl,rfl,by simp [sl],fun y=>?_⟩
  simp only [hH]
  constructor
  ·rintro ⟨i,hi,rfl⟩
   have:=wIB hq2 i hi
   exact ⟨_,wBg (by omega),rfl⟩
  ·rintro ⟨w,hw,rfl⟩
   obtain ⟨k,hk,rfl⟩:=wEn hw
   exact ⟨(k:Int),hq2.mem_iff.2 (hH.2 ⟨k,nJ.2 hk,rfl⟩),by rw [hJ]⟩
 obtain ⟨g,Mn⟩:=N.mv C
 have Cn:=N.rc C
 have Cl:=lt_rc C (b:=b) y0 (by omega) b1 b3'
 have Cf:=fs_rc C (b:=b) y0 (by omega) b2 b3'
 have Ml:=lt_mv C b
 have Mf:=fs_mv C b
 have Mi:Mv r r id id fun _=>0:=⟨fun _ h=>h,fun _ _=>rfl,fun y=>by simp⟩
 generalize hN:(⟨st,r.Splits,r.Clocks,sh.map fun i=>rn nm (gd r.Readings i.toNat)⟩:wAD)=rN at *
 have N1:(⟨rN.Starts,rN.Splits,rN.Clocks,rN.Readings⟩:wAD)=rN:=rfl
 have q1:st=rN.Starts:=by rw [<- hN]
 have q2:(sh.map fun i=>rn nm (gd r.Readings i.toNat))=rN.Readings:=by rw [<- hN]
 have q3:rN.Splits=r.Splits:=by rw [<- hN]
 have q4:rN.Clocks=r.Clocks:=by rw [<- hN]
 have nx:=P.rg x.toNat (by omega)
 have sp0:wDZ r ⟨x,m⟩=true:=by simp only [wDZ,inB,nD,decide_eq_true_eq];omega
 have spn:wDZ rN ⟨gd nm x.toNat,m⟩=true:=by simp only [wDZ,inB,nD,decide_eq_true_eq,N.n,q3];omega
 have spl:wDZ (ltR r b) ⟨x,m⟩=true:=by simpa [wDZ,ltR] using sp0
 have spf:wDZ (fsR r b) ⟨x,m⟩=true:=by simpa [wDZ,fsR] using sp0
 have ms0:wDZ r ⟨0,m⟩=true:=by simp only [wDZ,inB,nD,decide_eq_true_eq];omega
 have msn:wDZ rN ⟨0,m⟩=true:=by simp only [wDZ,inB,nD,decide_eq_true_eq,N.n,q3];omega
 have msl:wDZ (ltR r b) ⟨0,m⟩=true:=by simpa [wDZ,ltR] using ms0
 rw [wBa (by omega) (by rw [P.len];omega),hD,show wAa (gd nm x.toNat) m=some ⟨gd nm x.toNat,m⟩ from rfl,hD]
 have tl:(⟨ka (· + b) r.Starts,r.Splits,r.Clocks,ka (fun x=>(⟨x.Skier,x.Mat,x.Clock,x.Time + b⟩:wAI)) r.Readings⟩:wAD)=ltR r b:=rfl
 have tf:(⟨r.Starts,r.Splits,ka (fun c=>(⟨⟨c.Offset.Lo + b,c.Offset.Hi + b⟩,c.Error⟩:wAK)) r.Clocks,ka (fun x=>(⟨x.Skier,x.Mat,x.Clock,x.Time + b⟩:wAI)) r.Readings⟩:wAD)=fsR r b:=rfl
 have fx:pt ⟨gd nm x.toNat,m⟩=nmF nm (pt ⟨x,m⟩):=by
  unfold nmF pt
  rw [if_neg (by simp only;omega)]
 by_cases hy:∃ y,wCW r y
 ·obtain ⟨F,hF⟩:=wGn S (wEy C) hy (a:=zp) (.inl rfl)
  obtain ⟨G,hG⟩:=wGn S (wEy C) hy (a:=pt ⟨x,m⟩) (wEx sp0).1
  have R0:=wFp C C Mi hy sp0 sp0 rfl rfl rfl hF hG
  have R1:=wFp C Cn Mn hy spn sp0 fx rfl rfl hF hG
  have R2:=wFp C Cl Ml hy spl sp0 rfl rfl rfl hF hG
  have R3:=wFp C Cf Mf hy spf sp0 rfl rfl rfl hF hG
  rw [show ltH b (pt ⟨x,m⟩)=b from if_neg (by simp only [pt];omega)] at R2
  rw [show fsH b (pt ⟨x,m⟩)=0 from if_neg (by simp only [pt];omega)] at R3
  rw [kW,kW] at R0 R1 R3
  have nF:=hF.near C (.inl rfl) (wEx sp0).1
  have nG:=hG.near C (wEx sp0).1 (p:=zp) (.inl rfl)
  have ex:∀ i:Nat,∃ f':Pt->Int,i < r.Starts.length->IsDP rN ⟨(i:Int),m⟩ f':=fun i=>by
   by_cases c:i < r.Starts.length
   ·obtain ⟨f',hf⟩:=wGn (shc Cn) (wEy Cn) ((Mn.ex C).1 hy) (a:=⟨(i:Int),m⟩) (.inr (.inl ⟨by simp only;omega,by simp only [N.n];omega,v0,by rw [q3];exact v1'⟩))
    exact ⟨f',fun _=>hf⟩
   ·exact ⟨fun _=>0,fun h=>absurd h c⟩
  obtain ⟨F',hF'⟩:∃ F':Nat->Pt->Int,∀ i,i < r.Starts.length->IsDP rN ⟨(i:Int),m⟩ (F' i):=⟨fun i=>nn (ex i),fun i=>no (ex i)⟩
  have exl:∀ i:Nat,∃ f':Pt->Int,i < r.Starts.length->IsDP (ltR r b) ⟨(i:Int),m⟩ f':=fun i=>by
   by_cases c:i < r.Starts.length
   ·obtain ⟨f',hf⟩:=wGn (shc Cl) (wEy Cl) ((Ml.ex C).1 hy) (a:=⟨(i:Int),m⟩) (.inr (.inl ⟨by simp only;omega,by simp only [ltR,nY];omega,v0,v1'⟩))
    exact ⟨f',fun _=>hf⟩
   ·exact ⟨fun _=>0,fun h=>absurd h c⟩
  obtain ⟨Fl,hFl⟩:∃ F':Nat->Pt->Int,∀ i,i < r.Starts.length->IsDP (ltR r b) ⟨(i:Int),m⟩ (F' i):=⟨fun i=>nn (exl i),fun i=>no (exl i)⟩
  have ok:∀ i:Nat,i < r.Starts.length->wEm r ⟨(i:Int),m⟩:=fun i hi=>.inr (.inl ⟨by simp only;omega,by simp only;omega,v0,v1'⟩)
  have nmk:∀ i:Nat,nmF nm ⟨(i:Int),m⟩=⟨gd nm i,m⟩:=fun i=>by
   unfold nmF
   rw [if_neg (by simp only;omega),hJ]
  have hFr:∀ i,i < r.Starts.length->IsDP r ⟨(i:Int),m⟩ fun p=>F' (gd nm i).toNat (nmF nm p) - 0 + 0:=fun i hi=>by
   have u:=P.rg i hi
   have:=hF' (gd nm i).toNat (by omega)
   rw [nE u.1] at this
   exact Mn.dp C (ok i hi) (by rw [nmk];exact this)
  have eP0:=(wFQ S m).2 (by rw [ser C ms0,if_pos hy]) _ hFr
  have ePn:=(wFQ (shc Cn) m).2 (by rw [ser Cn msn,if_pos ((Mn.ex C).1 hy)]) F' (by rw [N.n];exact hF')
  have ePl:=(wFQ (shc Cl) m).2 (by rw [ser Cl msl,if_pos ((Ml.ex C).1 hy)]) Fl (by simp only [ltR,nY];exact hFl)
  rw [N.n] at ePn
  rw [show (ltR r b).Starts.length=r.Starts.length by simp [ltR]] at ePl
  have same:plL r.Starts.length (fun i j=>Fl i ⟨(j:Int),m⟩)=plL r.Starts.length (fun i j=>F' (gd nm i).toNat (nmF nm ⟨(j:Int),m⟩) - 0 + 0):=wKZ fun i j hi hj=>by
   have:=(Ml.dp C (ok i hi) (F:=Fl i) (hFl i hi)).one (hFr i hi) (ok j hj)
   simp only [id] at this
   rw [show ltH b ⟨(j:Int),m⟩=b from if_neg (by simp only;omega),show ltH b ⟨(i:Int),m⟩=b from if_neg (by simp only;omega)] at this
   omega
  rw [same] at ePl
  rw [R0,hD]
  simp only
  rw [q1,q2,<- q3,<- q4,R1,hD]
  simp only
  rw [hD]
  simp only
  rw [q3,q4,tl,tf,R2,hD]
  simp only
  rw [R3,hD]
  simp only
  rw [if_pos trivial,if_pos trivial,if_pos trivial,if_pos trivial,if_pos trivial,if_pos trivial,kX,kX,wAW (by omega) (by omega),wAW (by omega) (by omega),if_pos rfl,hD,if_neg (by simp),eP0,hD]
  simp only
  rw [<- q3,<- q4,ePn,hD]
  simp only
  rw [ePl,hD]
  simp only
  have plen:∀ G,(plL r.Starts.length G).length=r.Starts.length:=fun G=>by simp [plL]
  rw [if_pos trivial,if_pos trivial,plen,plen,if_pos rfl,wKs (by rw [plen];omega),hD,if_pos rfl,wHd (by omega) fun i hi=>?_,wFs,aw]
  ·rfl
  ·have u:=P.rg i hi
   have pl:=P.len
   rw [wHC (by rw [plen];exact hi),hD,if_neg (by omega),wBa (by omega) (by omega),hD,wBa (by omega) (by omega),hD,if_pos]
   unfold plL
   rw [wLQ _ hi,wLQ _ (by omega),wKr,wKr]
   have nv:∀ j:Nat,j < r.Starts.length->nmF nm ⟨(j:Int),m⟩=⟨(((gd nm j).toNat:Nat):Int),m⟩:=fun j hj=>by rw [nmk,nE (P.rg j hj).1]
   have c1:=wJl P fun j=>decide (F' (gd nm i).toNat ⟨(j:Int),m⟩ < 0)
   have c2:=wJl P fun j=>decide (0 < F' j ⟨(((gd nm i).toNat:Nat):Int),m⟩)
   have d1:(nB r.Starts.length).countP (fun (j:Nat)=>decide (F' (gd nm i).toNat (nmF nm ⟨(j:Int),m⟩) - 0 + 0 < 0))=(nB r.Starts.length).countP fun (j:Nat)=>decide (F' (gd nm i).toNat ⟨(((gd nm j).toNat:Nat):Int),m⟩ < 0):=nj fun j hj=>by
    rw [nv j (nJ.1 hj)];simp
   have d2:beK (fun i j=>F' (gd nm i).toNat (nmF nm ⟨(j:Int),m⟩) - 0 + 0) i r.Starts.length=(nB r.Starts.length).countP fun (j:Nat)=>decide (0 < F' (gd nm j).toNat ⟨(((gd nm i).toNat:Nat):Int),m⟩):=nj fun j hj=>by
    simp only [nv i hi,Int.sub_zero,kW]
   rw [d1,d2,c1,c2]
   rfl
 ·have R0:=wFo C C Mi hy sp0
  have R1:=wFo C Cn Mn hy spn
  have R2:=wFo C Cl Ml hy spl
  have R3:=wFo C Cf Mf hy spf
  have P0:=wGG C C Mi hy ms0
  have P1:=wGG C Cn Mn hy msn
  have P2:=wGG C Cl Ml hy msl
  rw [R0,hD]
  simp only
  rw [q1,q2,<- q3,<- q4,R1,hD]
  simp only
  rw [hD]
  simp only
  rw [q3,q4,tl,tf,R2,hD]
  simp only
  rw [R3,hD]
  simp only
  rw [if_pos trivial,if_pos trivial,if_pos trivial,if_neg (by omega),if_pos trivial,if_pos trivial,if_pos trivial,hD,if_neg (by simp),P0,hD]
  simp only
  rw [<- q3,<- q4,P1,hD]
  simp only
  rw [P2,hD]
  simp only
  rw [if_pos trivial,if_pos trivial,if_pos trivial,wKs (by simp),hD,if_pos rfl,show (((([]:List wAG).length:Nat)):Int)=((0:Nat):Int) from rfl,wHd (by omega) fun i hi=>absurd hi (by omega),wFs,aw]
  rfl
end Go.Proofs.Ytlnfbjphfoipaaa
