import Derived.Test.YtlnfbjphfoipaaaZ0
import Derived.Lib.AppendZerosOnto
set_option linter.all false
open Option renaming bind_some->hD
open Int renaming toNat_natCast->hH,toNat_of_nonneg->nH,sub_add_cancel->nO,add_comm->ni,le_refl->nm,tmod_eq_emod_of_nonneg->nt,eq_ofNat_of_zero_le->kD,lt_or_le->kP
open List renaming replicate->hJ,length_cons->nA,set->nD,length_take->nE,length_nil->nG,all_eq_true->nI,range->nJ,mem_singleton->nL,length_set->nM,length_append->nN,getElem?_eq_getElem->nP,flatMap->nR,mem_map->nS,mem_append->nT,getElem?_eq_none->nW,length_singleton->nX,take_length->nY,all_cons->nZ,getElem?_append_right->nc,getElem?_append_left->nh,length_drop->nj,getElem?_take->nn,mem_cons->np,flatMap_cons->nu,append_assoc->nv,drop_eq_getElem_cons->nw,ext_getElem->ny,cons_append->kB,all_nil->kC,nil_append->kE,append_nil->kF,drop_eq_nil_of_le->kH,sum_replicate_nat->kI,mem_range->kJ,mem_of_getElem?->kK,range_eq_range'->kL,length_flatMap->kM,ext_getElem?->kQ
open Bool renaming and_eq_true->nB,false_eq_true->nK,and_true->nq
open Nat renaming le_refl->nQ,zero_add->nV,mul_le_mul_right->nk,lt_or_ge->kA,one_mul->kG,add_mul->kR
open Option.some renaming inj->nU
open Array renaming replicate->nl
open Classical renaming em->kO
namespace Go.Proofs.Ytlnfbjphfoipaaa
open Go.KL
structure wAK where
 bytes:List Int
 next:Int
 state:Int
deriving DecidableEq,Inhabited,Repr
structure wAJ where
 Lo:Int
 Hi:Int
deriving DecidableEq,Inhabited,Repr
structure wAM where
 Offset:wAJ
 Error:Int
deriving DecidableEq,Inhabited,Repr
structure wAL where
 Skier:Int
 Mat:Int
 Clock:Int
 Time:Int
deriving DecidableEq,Inhabited,Repr
structure wAC where
 Starts:List Int
 Splits:List wAJ
 Clocks:List wAM
 Readings:List wAL
deriving DecidableEq,Inhabited,Repr
structure wAI where
 Skier:Int
 Mat:Int
deriving DecidableEq,Inhabited,Repr
structure wAH where
 skier:Int
 mat:Int
deriving DecidableEq,Inhabited,Repr
structure wAD where
 Kind:Int
 Skier:Int
 Index:Int
 Up:Bool
deriving DecidableEq,Inhabited,Repr
structure wAX where
 step:wAD
 from_:Int
 to_:Int
 count:Int
deriving DecidableEq,Inhabited,Repr
structure wAY where
 Race:wAC
 number:List (wAH × Int)
 edges:List wAX
structure wAe where
 far:List Int
 by_:List Int
deriving DecidableEq,Inhabited,Repr
def wCX (p0:List Int):Option (wAK) :=
 some (⟨p0,0,17⟩:wAK)
def wAN (p0:wAK) (p1:Int):Option (Int × wAK) :=
 if p1 <= 1 then
  some (0,p0)
 else
  if (↑p0.bytes.length:Int)=0 then
   some (0,p0)
  else
   (rem p0.next (↑p0.bytes.length:Int)).bind fun x10 =>
   (idx p0.bytes x10).bind fun x13 =>
   (quo p0.next (↑p0.bytes.length:Int)).bind fun x20 =>
   (rem (wEv ((wEv ((wEv ((wEv (p0.state * 45)) + (wEv x13))) + (wEv (77 * (wEv x20))))) + 1)) 65519).bind fun x32 =>
   if (wEv x20)=0 then
    if p1 <= 256 then
     (rem (w64 (wEv x13)) p1).bind fun x42 =>
     some (x42,(⟨p0.bytes,w64 (p0.next + 1),x32⟩:wAK))
    else
     (rem (w64 (wEv ((wEv (x32 * 256)) + (wEv x13)))) p1).bind fun x46 =>
     some (x46,(⟨p0.bytes,w64 (p0.next + 1),x32⟩:wAK))
   else
    (rem (w64 (wEv ((wEv (x32 * 256)) + (wEv x13)))) p1).bind fun x50 =>
    some (x50,(⟨p0.bytes,w64 (p0.next + 1),x32⟩:wAK))
def wAR (p0:wAK) (p1:Int) (p2:Int):Option (Int × wAK) :=
 (wAN p0 (w64 ((w64 (p2 - p1)) + 1))).bind fun (x2,x3) =>
 some (w64 (p1 + x2),x3)
def wCC (p0:wAK) (p1:Int) (p2:Int) (p3:Int):Option (wAC × (List (List Int)) × (List Int) × wAK) :=
 (wAR p0 1 p1).bind fun (x10,x11) =>
 (wCJ 0 x10 (fun k62 (l53,x56,x57,l58) =>
  (wAN (⟨l53,x56,x57⟩:wAK) 4).bind fun (x142,x143) =>
  (wAN x143 3).bind fun (x156,x157) =>
  (app 8 l58 [w64 ((w64 (300 * x142)) + x156)]).bind fun x175 =>
  some (x157.bytes,x157.next,x157.state,x175)) (x11.bytes,x11.next,x11.state,[])).bind fun (y67,y68,y69,y70) =>
 (wAN (⟨y67,y68,y69⟩:wAK) p2).bind fun (x223,x224) =>
 (wCJ 0 x223 (fun k274 (l265,x268,x269,l270) =>
  (wAR (⟨l265,x268,x269⟩:wAK) 3 9).bind fun (x305,x306) =>
  (wAN x306 30).bind fun (x353,x354) =>
  (app 16 l270 [(⟨w64 (100 * x305),w64 ((w64 (100 * x305)) + (w64 (10 * x353)))⟩:wAJ)]).bind fun x372 =>
  some (x354.bytes,x354.next,x354.state,x372)) (x224.bytes,x224.next,x224.state,[])).bind fun (y279,y280,y281,y282) =>
 (wCJ 0 (↑y70.length:Int) (fun k460 (l450,x453,x454,l455) =>
  (chk (↑k460:Int) y70.length).bind fun _ =>
  (wCJ 0 (↑y282.length:Int) (fun k541 (l532,x535,x536,x537,l538) =>
   (chk (↑k541:Int) y282.length).bind fun _ =>
   (wAR (⟨l532,x535,x536⟩:wAK) ((gd y282 k541).Lo) ((gd y282 k541).Hi)).bind fun (x589,x590) =>
   (app 8 l538 [w64 (x537 + x589)]).bind fun x609 =>
   some (x590.bytes,x590.next,x590.state,w64 (x537 + x589),x609)) (l450,x453,x454,(gd y70 k460),[(gd y70 k460)])).bind fun (y546,y547,y548,y549,y550) =>
  (app 24 l455 [y550]).bind fun x672 =>
  some (y546,y547,y548,x672)) (y279,y280,y281,[])).bind fun (y465,y466,y467,y468) =>
 (wAR (⟨y465,y466,y467⟩:wAK) 1 3).bind fun (x726,x727) =>
 (wCJ 0 x726 (fun k792 (l779,x782,x783,l784,l788) =>
  (wAR (⟨l779,x782,x783⟩:wAK) (-60) 20).bind fun (x826,x827) =>
  (wAN x827 50).bind fun (x840,x841) =>
  (wAN x841 6).bind fun (x854,x855) =>
  (app 24 l784 [(⟨(⟨x826,w64 (x826 + x840)⟩:wAJ),x854⟩:wAM)]).bind fun x880 =>
  (wAR x855 x826 (w64 (x826 + x840))).bind fun (x888,x889) =>
  (app 8 l788 [x888]).bind fun x908 =>
  some (x889.bytes,x889.next,x889.state,x880,x908)) (x727.bytes,x727.next,x727.state,[],[])).bind fun (y797,y798,y799,y800,y801) =>
 (wAN (⟨y797,y798,y799⟩:wAK) (w64 (p3 + 1))).bind fun (x1667,x1668) =>
 (wCJ 0 x1667 (fun k1736 (l1727,x1730,x1731,l1732) =>
  ((wAN (⟨l1727,x1730,x1731⟩:wAK) (↑y70.length:Int)).bind fun (x1833,x1834) =>
  (wAN x1834 (w64 ((↑y282.length:Int) + 1))).bind fun (x1847,x1848) =>
  (wAN x1848 (↑y800.length:Int)).bind fun (x1861,x1862) =>
  some (x1862.bytes,x1862.next,x1862.state,x1833,x1847,x1861)).bind fun (l1767,x1770,x1771,x1774,x1775,x1776) =>
  (chk x1776 y800.length).bind fun _ =>
  (idx y468 x1774).bind fun x2140 =>
  (idx x2140 x1775).bind fun x2156 =>
  (chk x1776 y801.length).bind fun _ =>
  (wAR (⟨l1767,x1770,x1771⟩:wAK) (w64 (-((gd y800 x1776.toNat).Error))) ((gd y800 x1776.toNat).Error)).bind fun (x2171,x2172) =>
  if (w64 (-((gd y800 x1776.toNat).Error))) <= (w64 ((w64 ((max 0 (w64 ((w64 (x2156 + (gd y801 x1776.toNat))) + x2171))) - x2156)) - (gd y801 x1776.toNat))) then
   if (w64 ((w64 ((max 0 (w64 ((w64 (x2156 + (gd y801 x1776.toNat))) + x2171))) - x2156)) - (gd y801 x1776.toNat))) <= ((gd y800 x1776.toNat).Error) then
    (app 32 l1732 [(⟨x1774,x1775,x1776,max 0 (w64 ((w64 (x2156 + (gd y801 x1776.toNat))) + x2171))⟩:wAL)]).bind fun x2225 =>
    some (x2172.bytes,x2172.next,x2172.state,x2225)
   else
    some (x2172.bytes,x2172.next,x2172.state,l1732)
  else
   some (x2172.bytes,x2172.next,x2172.state,l1732)) (x1668.bytes,x1668.next,x1668.state,[])).bind fun (y1741,y1742,y1743,y1744) =>
 some ((⟨y70,y282,y800,y1744⟩:wAC),y468,y801,(⟨y1741,y1742,y1743⟩:wAK))
def wBE (p0:Int) (p1:Int) (p2:Int):Option (Bool) :=
 if p1 <= p0 then
  some (decide (p0 <= p2))
 else
  some false
def wBR (p0:List Int) (p1:(Int->Option Bool)):Option (Bool) :=
 jn (wEg 0 (↑p0.length:Int) (fun k2 _ =>
  (idx p0 (↑k2:Int)).bind fun x22 =>
  (p1 x22).bind fun x30 =>
  if x30=true then
   some (.inl ())
  else
   esc (some false)) ()) fun _ =>
 some true
def wCf (p0:Int):Option (Bool) :=
 (wBE p0 0 360000).bind fun x1 =>
 some x1
def wBe (p0:List wAJ) (p1:(wAJ->Option Bool)):Option (Bool) :=
 jn (wEg 0 (↑p0.length:Int) (fun k2 _ =>
  (idx p0 (↑k2:Int)).bind fun x22 =>
  (p1 x22).bind fun x37 =>
  if x37=true then
   some (.inl ())
  else
   esc (some false)) ()) fun _ =>
 some true
def wCg (p0:wAJ) (p1:Int) (p2:Int):Option (Bool) :=
 if p0.Lo <= p0.Hi then
  if p1 <= p0.Lo then
   some (decide (p0.Hi <= p2))
  else
   some false
 else
  some false
def wCh (p0:wAJ):Option (Bool) :=
 (wCg p0 0 360000).bind fun x5 =>
 some x5
def wBS (p0:List wAM) (p1:(wAM->Option Bool)):Option (Bool) :=
 jn (wEg 0 (↑p0.length:Int) (fun k2 _ =>
  (idx p0 (↑k2:Int)).bind fun x22 =>
  (p1 x22).bind fun x37 =>
  if x37=true then
   some (.inl ())
  else
   esc (some false)) ()) fun _ =>
 some true
def wCi (p0:wAM):Option (Bool) :=
 (wCg p0.Offset (-36000) 36000).bind fun x5 =>
 if x5=true then
  (wBE p0.Error 0 600).bind fun x17 =>
  some x17
 else
  some false
def wAv (p0:List wAL) (p1:(wAL->Option Bool)):Option (Bool) :=
 jn (wEg 0 (↑p0.length:Int) (fun k2 _ =>
  (idx p0 (↑k2:Int)).bind fun x22 =>
  (p1 x22).bind fun x37 =>
  if x37=true then
   some (.inl ())
  else
   esc (some false)) ()) fun _ =>
 some true
def wCj (p0:wAL):Option (Bool) :=
 (wBE p0.Time 0 360000).bind fun x5 =>
 some x5
def wAl (p0:wAC) (p1:wAI):Option (Bool) :=
 (wBE p1.Skier 0 (w64 ((↑p0.Starts.length:Int) - 1))).bind fun x9 =>
 if x9=true then
  (wBE p1.Mat 0 (↑p0.Splits.length:Int)).bind fun x21 =>
  some x21
 else
  some false
def wCk (p0:wAL) (p1:wAC):Option (Bool) :=
 (wAl p1 (⟨p0.Skier,p0.Mat⟩:wAI)).bind fun x5 =>
 if x5=true then
  (wBE p0.Clock 0 (w64 ((↑p1.Clocks.length:Int) - 1))).bind fun x18 =>
  some x18
 else
  some false
def wCL (p0:wAC):Option (Int) :=
 (wBE (↑p0.Starts.length:Int) 1 8).bind fun x10 =>
 if x10=true then
  if 7 < (↑p0.Splits.length:Int) then
   some 2
  else
   if 4 < (↑p0.Clocks.length:Int) then
    some 2
   else
    if 40 < (↑p0.Readings.length:Int) then
     some 2
    else
     (wBR p0.Starts wCf).bind fun x35 =>
     if x35=true then
      (wBe p0.Splits wCh).bind fun x52 =>
      if x52=true then
       (wBS p0.Clocks wCi).bind fun x70 =>
       if x70=true then
        (wAv p0.Readings wCj).bind fun x92 =>
        if x92=true then
         (wAv p0.Readings (fun x=>wCk x p0)).bind fun x116 =>
         if x116=true then
          some 0
         else
          some 1
        else
         some 3
       else
        some 3
      else
       some 3
     else
      some 3
 else
  some 2
def wBP :Option (wAH) :=
 some (⟨-1,0⟩:wAH)
def wBh {S E:Type} (f:S->wAD->Option (S ⊕ E)) (s0:S) (p1:wAC):Option (S ⊕ E) :=
 jn (wEg 0 4 (fun k12 s10 =>
  (idx ([1,(↑p1.Splits.length:Int),(↑p1.Clocks.length:Int),(↑p1.Readings.length:Int)]:List Int) (↑k12:Int)).bind fun x33 =>
  (if (↑k12:Int)=2 then
   some (true,s10)
  else
   some (decide ((↑k12:Int)=3),s10)).bind fun (b37,s38) =>
  if b37=true then
   jn (wEg 0 1 (fun k78 s76 =>
    jn (wEg 0 x33 (fun k113 s111 =>
     (f s111 (⟨(↑k12:Int),(↑k78:Int),(↑k113:Int),true⟩:wAD)).bind fun yr141 =>
     match yr141 with
     | .inl s151 =>
      (f s151 (⟨(↑k12:Int),(↑k78:Int),(↑k113:Int),false⟩:wAD)).bind fun yr154 =>
      match yr154 with
      | .inl s164 =>
       some (.inl s164)
      | .inr s164 =>
       esc (esc (esc (some (.inr s164))))
     | .inr s151 =>
      esc (esc (esc (some (.inr s151))))) s76) fun y195 =>
    some (.inl y195)) s38) fun y219 =>
   some (.inl y219)
  else
   jn (wEg 0 (↑p1.Starts.length:Int) (fun k247 s245 =>
    jn (wEg 0 x33 (fun k282 s280 =>
     (f s280 (⟨(↑k12:Int),(↑k247:Int),(↑k282:Int),true⟩:wAD)).bind fun yr310 =>
     match yr310 with
     | .inl s320 =>
      (f s320 (⟨(↑k12:Int),(↑k247:Int),(↑k282:Int),false⟩:wAD)).bind fun yr323 =>
      match yr323 with
      | .inl s333 =>
       some (.inl s333)
      | .inr s333 =>
       esc (esc (esc (some (.inr s333))))
     | .inr s320 =>
      esc (esc (esc (some (.inr s320))))) s245) fun y364 =>
    some (.inl y364)) s38) fun y388 =>
   some (.inl y388)) s0) fun y409 =>
 some (.inl y409)
def wBz (p0:wAC):Option (Unit) :=
 some ()
def wDf (p0:wAC) (p1:wAD):Option (Bool) :=
 (wBE p1.Skier 0 (w64 ((↑p0.Starts.length:Int) - 1))).bind fun x9 =>
 if x9=true then
  some (decide (p1.Index=0))
 else
  some false
def wDg (p0:wAC) (p1:wAD):Option (wAH × wAH) :=
 ((wBP).bind fun x22 =>
 some (x22.skier,x22.mat)).bind fun (x17,x18) =>
 some ((⟨x17,x18⟩:wAH),(⟨p1.Skier,0⟩:wAH))
def wDh (p0:wAC) (p1:wAD):Option (Int × Int) :=
 (idx p0.Starts p1.Skier).bind fun x11 =>
 some (x11,w64 (-x11))
def wDi (p0:wAC) (p1:wAD):Option (Bool) :=
 (wBE p1.Skier 0 (w64 ((↑p0.Starts.length:Int) - 1))).bind fun x9 =>
 if x9=true then
  (wBE p1.Index 0 (w64 ((↑p0.Splits.length:Int) - 1))).bind fun x21 =>
  some x21
 else
  some false
def wDj (p0:wAC) (p1:wAD):Option (wAH × wAH) :=
 (some ()).bind fun _ =>
 some ((⟨p1.Skier,p1.Index⟩:wAH),(⟨p1.Skier,w64 (p1.Index + 1)⟩:wAH))
def wDk (p0:wAC) (p1:wAD):Option (Int × Int) :=
 (idx p0.Splits p1.Index).bind fun x11 =>
 some (x11.Hi,w64 (-x11.Lo))
def wDl (p0:wAC) (p1:wAD):Option (Bool) :=
 if p1.Skier=0 then
  (wBE p1.Index 0 (w64 ((↑p0.Clocks.length:Int) - 1))).bind fun x11 =>
  some x11
 else
  some false
def wBN (p0:Int):Option (wAH) :=
 some (⟨-1,w64 (1 + p0)⟩:wAH)
def wDm (p0:wAC) (p1:wAD):Option (wAH × wAH) :=
 (wBP).bind fun x19 =>
 (wBN p1.Index).bind fun x29 =>
 some (x19,x29)
def wDn (p0:wAC) (p1:wAD):Option (Int × Int) :=
 (idx p0.Clocks p1.Index).bind fun x11 =>
 some (w64 (-x11.Offset.Lo),x11.Offset.Hi)
def wDQ (p0:wAC) (p1:wAD):Option (Bool) :=
 if p1.Skier=0 then
  (wBE p1.Index 0 (w64 ((↑p0.Readings.length:Int) - 1))).bind fun x11 =>
  some x11
 else
  some false
def wDR (p0:wAC) (p1:wAD):Option (wAH × wAH) :=
 (idx p0.Readings p1.Index).bind fun x17 =>
 ((wBN x17.Clock).bind fun x36 =>
 some (x36.skier,x36.mat)).bind fun (x31,x32) =>
 some ((⟨x31,x32⟩:wAH),(⟨x17.Skier,x17.Mat⟩:wAH))
def wDS (p0:wAC) (p1:wAD):Option (Int × Int) :=
 (idx p0.Readings p1.Index).bind fun x9 =>
 (idx p0.Clocks x9.Clock).bind fun x25 =>
 some (w64 (x9.Time + x25.Error),w64 (x25.Error - x9.Time))
def wAt :Option (Unit) :=
 some ()
def wAw (p0:wAC) (p1:wAD):Option (wAH × wAH × Int) :=
 if p1.Kind=0 then
  ((wAt).bind fun _ =>
  some ()).bind fun _ =>
  (wDg p0 p1).bind fun (x92,x93) =>
  (wDh p0 p1).bind fun (x113,x114) =>
  if p1.Up=true then
   (some ()).bind fun _ =>
   some (x92,x93,x113)
  else
   some (x93,x92,x114)
 else
  if p1.Kind=1 then
   ((wAt).bind fun _ =>
   some ()).bind fun _ =>
   (wDj p0 p1).bind fun (x251,x252) =>
   (wDk p0 p1).bind fun (x272,x273) =>
   if p1.Up=true then
    (some ()).bind fun _ =>
    some (x251,x252,x272)
   else
    some (x252,x251,x273)
  else
   if p1.Kind=2 then
    ((wAt).bind fun _ =>
    some ()).bind fun _ =>
    (wDm p0 p1).bind fun (x410,x411) =>
    (wDn p0 p1).bind fun (x431,x432) =>
    if p1.Up=true then
     (some ()).bind fun _ =>
     some (x410,x411,x431)
    else
     some (x411,x410,x432)
   else
    if p1.Kind=3 then
     ((wAt).bind fun _ =>
     some ()).bind fun _ =>
     (wDR p0 p1).bind fun (x569,x570) =>
     (wDS p0 p1).bind fun (x590,x591) =>
     if p1.Up=true then
      (some ()).bind fun _ =>
      some (x569,x570,x590)
     else
      some (x570,x569,x591)
    else
     (wAt).bind fun _ =>
     none
def wCs (p0:wAC):Option (wAY) :=
 ((wBP).bind fun x22 =>
 some (wFv ([]:List (wAH × Int)) x22 0)).bind fun l13 =>
 (wBz p0).bind fun _ =>
 (wBh (S:=(List wAX) × (List (wAH × Int))) (E:=Empty) (fun (l1591,l1595) x1616 =>
  (wAw p0 x1616).bind fun (x1652,x1653,x1654) =>
  (wCJ 0 2 (fun k1692 l1689 =>
   (idx ([x1652,x1653]:List wAH) (↑k1692:Int)).bind fun x1718 =>
   if (wJl l1689 x1718)=true then
    some l1689
   else
    some (wFv l1689 x1718 (↑(l1689.length):Int))) l1595).bind fun y1697 =>
  (app 56 l1591 [(⟨x1616,(wAr y1697 x1652 0),(wAr y1697 x1653 0),x1654⟩:wAX)]).bind fun x1773 =>
  some (.inl (x1773,y1697))) ([],l13) p0).bind fun rr1606 =>
 match rr1606 with
 | .inl (y1845,y1846) =>
  some (⟨p0,y1846,y1845⟩:wAY)
 | .inr e1851 =>
  e1851.elim
def wBj (p0:wAC):Option ((Option wAY) × Int) :=
 (wCL p0).bind fun x5 =>
 if x5=0 then
  (wCs p0).bind fun x21 =>
  some ((some x21),0)
 else
  some (none,x5)
def wAc (p0:Int):Option (Bool) :=
 (wBE p0 (-100000000) 100000000).bind fun x1 =>
 some x1
def wBs (p0:List Int) (p1:wAC):Option (Bool) :=
 some (decide ((↑p0.length:Int)=(w64 ((↑p1.Splits.length:Int) + 1))))
def wAz (p0:List (List Int)) (p1:((List Int)->Option Bool)):Option (Bool) :=
 jn (wEg 0 (↑p0.length:Int) (fun k2 _ =>
  (idx p0 (↑k2:Int)).bind fun x22 =>
  (p1 x22).bind fun x35 =>
  if x35=true then
   some (.inl ())
  else
   esc (some false)) ()) fun _ =>
 some true
def wBt (p0:List Int) (p1:(Int->Option Bool)):Option (Bool) :=
 (wBR p0 p1).bind fun x1 =>
 some x1
def wCt (p0:wAH) (p1:List Int) (p2:List (List Int)):Option (Int) :=
 (wBP).bind fun x7 =>
 if p0=x7 then
  some 0
 else
  if p0.skier < 0 then
   (idx p1 (w64 (p0.mat - 1))).bind fun x23 =>
   some (w64 (-x23))
  else
   (idx p2 p0.skier).bind fun x35 =>
   (idx x35 p0.mat).bind fun x48 =>
   some x48
def wEF (p0:wAC) (p1:List (List Int)) (p2:List Int):Option (Bool × Int) :=
 (wBj p0).bind fun (x50,x51) =>
 match x50 with
 | none =>
  if x51=0 then
   if (↑p1.length:Int)=(↑p0.Starts.length:Int) then
    (wAz p1 (fun x=>wBs x p0)).bind fun x107 =>
    if x107=true then
     if (↑p2.length:Int)=(↑p0.Clocks.length:Int) then
      (wAz p1 (fun x=>wBt x wAc)).bind fun x142 =>
      if x142=true then
       (wBR p2 wAc).bind fun x165 =>
       if x165=true then
        none
       else
        some (false,3)
      else
       some (false,3)
     else
      some (false,2)
    else
     some (false,2)
   else
    some (false,2)
  else
   some (false,x51)
 | some x75 =>
  if x51=0 then
   if (↑p1.length:Int)=(↑p0.Starts.length:Int) then
    (wAz p1 (fun x=>wBs x p0)).bind fun x283 =>
    if x283=true then
     if (↑p2.length:Int)=(↑p0.Clocks.length:Int) then
      (wAz p1 (fun x=>wBt x wAc)).bind fun x318 =>
      if x318=true then
       (wBR p2 wAc).bind fun x341 =>
       if x341=true then
        (wBz x75.Race).bind fun _ =>
        (wBh (S:=Unit) (E:=Unit) (fun _ x1036 =>
         ((wAw x75.Race x1036).bind fun (x1085,x1086,x1087) =>
         some (x1085.skier,x1085.mat,x1086.skier,x1086.mat,x1087)).bind fun (x1071,x1072,x1075,x1076,x1077) =>
         (wCt (⟨x1075,x1076⟩:wAH) p2 p1).bind fun x1347 =>
         (wCt (⟨x1071,x1072⟩:wAH) p2 p1).bind fun x1361 =>
         if (w64 (x1361 + x1077)) < x1347 then
          some (.inr ())
         else
          some (.inl ())) () x75.Race).bind fun rr1026 =>
        match rr1026 with
        | .inl _ =>
         some (true,0)
        | .inr _ =>
         some (false,0)
       else
        some (false,3)
      else
       some (false,3)
     else
      some (false,2)
    else
     some (false,2)
   else
    some (false,2)
  else
   some (false,x51)
def wDT (p0 p1:Int):Option (Int × Int):=if 0 <= p0/\p0 < 18446744073709551616/\0 <= p1/\p1 < 18446744073709551616 then some (p0 * p1 / 18446744073709551616,p0 * p1 % 18446744073709551616) else none
def wBH (p0:List Int) (p1:Int):Option ((List Int)) :=
 if p1 < 0 then
  none
 else
  (wDT (wKd (↑p0.length:Int)) (wKd p1)).bind fun (x4,x5) =>
  (if 0 < x4 then
   some true
  else
   some (decide (9223372036854775807 < x5))).bind fun b15 =>
  if b15=true then
   none
  else
   (mkz 8 (w64 x5) (0:Int)).bind fun x35 =>
   (wKf x35 0 p0).bind fun x45 =>
   iter (fun (l58,x59) =>
    if x59 < (↑l58.length:Int) then
     (cut l58 x59 (↑(l58.length):Int)).bind fun x77 =>
     (cut l58 0 x59).bind fun x86 =>
     (wKf l58 x59 x86).bind fun x95 =>
     some (.inl (x95,w64 (x59 + (↑(min x86.length (x77.length)):Int))))
    else
     esc (some l58)) big (x45,(↑(min p0.length (x35.length)):Int))
def wAZ (p0:wAY) (p1:Int) (p2:Bool):Option (wAe × Int × Bool) :=
 ((wBH [1125899906842624] (↑(p0.number.length):Int)).bind fun x28 =>
 (wBH [-1] (↑(p0.number.length):Int)).bind fun x51 =>
 some (x28,x51)).bind fun (l9,l12) =>
 (wCJ 0 (↑l9.length:Int) (fun k1254 l1253 =>
  if p1 < 0 then
   (chk (↑k1254:Int) l1253.length).bind fun _ =>
   some (nD l1253 k1254 0)
  else
   if (↑k1254:Int)=p1 then
    (chk (↑k1254:Int) l1253.length).bind fun _ =>
    some (nD l1253 k1254 0)
   else
    some l1253) l9).bind fun y1259 =>
 jn (wEg 0 (w64 ((↑(p0.number.length):Int) + 1)) (fun k1336 (l1333,l1334,x1335) =>
  (wCJ 0 (↑p0.edges.length:Int) (fun k1375 (l1372,l1373,x1374) =>
   ((idx p0.edges (↑k1375:Int)).bind fun x1412 =>
   if p2=true then
    (chk x1412.to_ l1372.length).bind fun _ =>
    if (gd l1372 x1412.to_.toNat) < 1125899906842624 then
     (chk x1412.from_ l1372.length).bind fun _ =>
     if (w64 ((gd l1372 x1412.to_.toNat) + x1412.count)) < (gd l1372 x1412.from_.toNat) then
      ((chk x1412.from_ l1373.length).bind fun _ =>
      some ()).bind fun _ =>
      some ((nD l1372 x1412.from_.toNat (w64 ((gd l1372 x1412.to_.toNat) + x1412.count))),(nD l1373 x1412.from_.toNat (↑k1375:Int)),x1412.from_)
     else
      some (l1372,l1373,x1374)
    else
     some (l1372,l1373,x1374)
   else
    (chk x1412.from_ l1372.length).bind fun _ =>
    if (gd l1372 x1412.from_.toNat) < 1125899906842624 then
     (chk x1412.to_ l1372.length).bind fun _ =>
     if (w64 ((gd l1372 x1412.from_.toNat) + x1412.count)) < (gd l1372 x1412.to_.toNat) then
      ((chk x1412.to_ l1373.length).bind fun _ =>
      some ()).bind fun _ =>
      some ((nD l1372 x1412.to_.toNat (w64 ((gd l1372 x1412.from_.toNat) + x1412.count))),(nD l1373 x1412.to_.toNat (↑k1375:Int)),x1412.to_)
     else
      some (l1372,l1373,x1374)
    else
     some (l1372,l1373,x1374)).bind fun (l1406,l1407,x1408) =>
   some (l1406,l1407,x1408)) (l1333,l1334,-1)).bind fun (y1380,y1381,y1382) =>
  if y1382 < 0 then
   esc (some ((⟨y1380,y1381⟩:wAe),0,true))
  else
   some (.inl (y1380,y1381,y1382))) (y1259,l12,-1)) fun (y1697,y1698,y1699) =>
 some ((⟨y1697,y1698⟩:wAe),y1699,false)
def wBp (p0:wAY) (p1:List Int):Option ((List (List Int)) × (List Int)) :=
 (idx p1 0).bind fun x3 =>
 (wCJ 0 (↑p0.Race.Starts.length:Int) (fun k31 l26 =>
  (wCJ 0 (w64 ((↑p0.Race.Splits.length:Int) + 1)) (fun k74 l70 =>
   (idx p1 (wAr p0.number (⟨(↑k31:Int),(↑k74:Int)⟩:wAH) 0)).bind fun x103 =>
   (app 8 l70 [w64 (x103 - x3)]).bind fun x117 =>
   some x117) []).bind fun y79 =>
  (app 24 l26 [y79]).bind fun x161 =>
  some x161) []).bind fun y36 =>
 (wCJ 0 (↑p0.Race.Clocks.length:Int) (fun k215 l211 =>
  (wBN (↑k215:Int)).bind fun x243 =>
  (idx p1 (wAr p0.number x243 0)).bind fun x253 =>
  (app 8 l211 [w64 (x3 - x253)]).bind fun x268 =>
  some x268) []).bind fun y220 =>
 some (y36,y220)
def wCp (p0:wAC):Option ((List (List Int)) × (List Int) × Int) :=
 (wBj p0).bind fun (x5,x6) =>
 match x5 with
 | none =>
  if x6=0 then
   none
  else
   some ([],[],x6)
 | some x30 =>
  if x6=0 then
   (wAZ x30 (-1) false).bind fun (x59,x60,x61) =>
   if x61=true then
    (wBp x30 x59.far).bind fun (x101,x102) =>
    some (x101,x102,0)
   else
    some ([],[],7)
  else
   some ([],[],x6)
def wCz (p0:Int) (p1:Int):Option (Bool) :=
 some (decide (p0=p1))
def wBF (rec_:Int->wAe->(List wAD)->(Int->Option Bool)->wAY->Unit->Option ((List wAD))) (p0:Int) (p1:wAe) (p2:List wAD) (p3:(Int->Option Bool)) (p4:wAY) (p5:Unit):Option ((List wAD)) :=
 ((idx p1.by_ p0).bind fun x7 =>
 if x7 < 0 then
  some true
 else
  if 0 < (↑p2.length:Int) then
   (p3 p0).bind fun x20 =>
   some x20
  else
   some false).bind fun b3 =>
 if b3=true then
  some p2
 else
  (idx p1.by_ p0).bind fun x52 =>
  (idx p4.edges x52).bind fun x60 =>
  (app 32 p2 [x60.step]).bind fun x80 =>
  (rec_ x60.from_ p1 x80 p3 p4 ()).bind fun x100 =>
  some x100
def wCD:Nat->Int->wAe->(List wAD)->(Int->Option Bool)->wAY->Unit->Option ((List wAD))
 | 0=>fun _ _ _ _ _ _=>none
 | n_ + 1=>wBF (wCD n_)
def wAf (p0:List wAD):Option ((List wAD)) :=
 iter (fun (l11,x12,x13) =>
  if x12 < x13 then
   (chk x13 l11.length).bind fun _ =>
   (chk x12 l11.length).bind fun _ =>
   (chk x13 (nD l11 x12.toNat (gd l11 x13.toNat)).length).bind fun _ =>
   some (.inl ((nD (nD l11 x12.toNat (gd l11 x13.toNat)) x13.toNat (gd l11 x12.toNat)),w64 (x12 + 1),w64 (x13 - 1)))
  else
   esc (some l11)) big (p0,0,w64 ((↑p0.length:Int) - 1))
def wCY (p0:wAY) (p1:wAe) (p2:(Int->Option Bool)) (p3:Int):Option ((List wAD)) :=
 (wCD 1000 p3 p1 ([]:List wAD) p2 p0 ()).bind fun x93 =>
 (wAf x93).bind fun x107 =>
 some x107
def wDs (p0:wAC):Option ((List wAD) × Int) :=
 (wBj p0).bind fun (x5,x6) =>
 match x5 with
 | none =>
  if x6=0 then
   none
  else
   some ([],x6)
 | some x30 =>
  if x6=0 then
   (wAZ x30 (-1) false).bind fun (x57,x58,x59) =>
   if x59=true then
    some ([],6)
   else
    (wCJ 0 (↑(x30.number.length):Int) (fun k100 x99 =>
     (chk x99 x57.by_.length).bind fun _ =>
     (idx x30.edges (gd x57.by_ x99.toNat)).bind fun x129 =>
     some x129.from_) x58).bind fun y105 =>
    (wCY x30 x57 (fun x=>wCz x y105) y105).bind fun x227 =>
    some (x227,0)
  else
   some ([],x6)
def wBQ (p0:wAC) (p1:List (List Int)) (p2:List Int):Option (Bool) :=
 if (↑p1.length:Int)=(↑p0.Starts.length:Int) then
  if (↑p2.length:Int)=(↑p0.Clocks.length:Int) then
   jn (wEg 0 (↑p1.length:Int) (fun k10 _ =>
    (idx p1 (↑k10:Int)).bind fun x32 =>
    if (↑x32.length:Int)=(w64 ((↑p0.Splits.length:Int) + 1)) then
     (idx x32 0).bind fun x49 =>
     (idx p0.Starts (↑k10:Int)).bind fun x56 =>
     if x49=x56 then
      jn (wEg 0 (↑p0.Splits.length:Int) (fun k67 _ =>
       (idx p0.Splits (↑k67:Int)).bind fun x93 =>
       (idx x32 (↑(k67 + 1):Int)).bind fun x125 =>
       (idx x32 (↑k67:Int)).bind fun x133 =>
       if x125 < x133 then
        esc (esc (some false))
       else
        if (w64 (x125 - x133)) < x93.Lo then
         esc (esc (some false))
        else
         if x93.Hi < (w64 (x125 - x133)) then
          esc (esc (some false))
         else
          some (.inl ())) ()) fun _ =>
      some (.inl ())
     else
      esc (some false)
    else
     esc (some false)) ()) fun _ =>
   jn (wEg 0 (↑p0.Clocks.length:Int) (fun k224 _ =>
    (idx p0.Clocks (↑k224:Int)).bind fun x246 =>
    (idx p2 (↑k224:Int)).bind fun x264 =>
    if x264 < x246.Offset.Lo then
     esc (some false)
    else
     if x246.Offset.Hi < x264 then
      esc (some false)
     else
      some (.inl ())) ()) fun _ =>
   jn (wEg 0 (↑p0.Readings.length:Int) (fun k304 _ =>
    (idx p0.Readings (↑k304:Int)).bind fun x326 =>
    (idx p1 x326.Skier).bind fun x345 =>
    (idx x345 x326.Mat).bind fun x360 =>
    (idx p2 x326.Clock).bind fun x367 =>
    (idx p0.Clocks x326.Clock).bind fun x377 =>
    if x377.Error < (w64 ((w64 (x326.Time - x360)) - x367)) then
     esc (some false)
    else
     if x377.Error < (w64 (-(w64 ((w64 (x326.Time - x360)) - x367)))) then
      esc (some false)
     else
      some (.inl ())) ()) fun _ =>
   some true
  else
   some false
 else
  some false
def wBI (p0:List wAI) (p1:(wAI->Option Bool)):Option (Bool) :=
 jn (wEg 0 (↑p0.length:Int) (fun k2 _ =>
  (idx p0 (↑k2:Int)).bind fun x22 =>
  (p1 x22).bind fun x37 =>
  if x37=true then
   some (.inl ())
  else
   esc (some false)) ()) fun _ =>
 some true
def wAx (p0:wAY):Option (Bool) :=
 (wAZ p0 (-1) false).bind fun (x3,x4,x5) =>
 some x5
def wBw (p0:wAC) (p1:List wAI):Option ((Option wAY) × Int) :=
 (wBj p0).bind fun (x5,x6) =>
 match x5 with
 | none =>
  if x6=0 then
   (wBI p1 (fun x=>wAl p0 x)).bind fun x40 =>
   if x40=true then
    none
   else
    some (none,1)
  else
   some (none,x6)
 | some x30 =>
  if x6=0 then
   (wBI p1 (fun x=>wAl p0 x)).bind fun x71 =>
   if x71=true then
    (wAx x30).bind fun x96 =>
    if x96=true then
     some ((some x30),0)
    else
     some (none,7)
   else
    some (none,1)
  else
   some (none,x6)
def wAi (p0:wAY) (p1:wAH) (p2:wAH):Option (wAJ) :=
 ((wAZ p0 (wAr p0.number p1 0) false).bind fun (x26,x27,x28) =>
 some (x26.far,x26.by_)).bind fun (l17,l20) =>
 ((wAZ p0 (wAr p0.number p2 0) false).bind fun (x145,x146,x147) =>
 some (x145.far,x145.by_)).bind fun (l131,l134) =>
 (chk (wAr p0.number p1 0) l131.length).bind fun _ =>
 (chk (wAr p0.number p2 0) l17.length).bind fun _ =>
 some (⟨w64 (-(gd l131 (wAr p0.number p1 0).toNat)),(gd l17 (wAr p0.number p2 0).toNat)⟩:wAJ)
def wEG (p0:wAC) (p1:Int):Option (wAJ × Int) :=
 (wCL p0).bind fun x9 =>
 if x9=0 then
  (wBE p1 0 (w64 ((↑p0.Clocks.length:Int) - 1))).bind fun x21 =>
  if x21=true then
   (wBw p0 []).bind fun (x41,x42) =>
   match x41 with
   | none =>
    if x42=0 then
     (wBN p1).bind fun x70 =>
     (wBP).bind fun x80 =>
     none
    else
     some ((⟨0,0⟩:wAJ),x42)
   | some x66 =>
    if x42=0 then
     (wBN p1).bind fun x105 =>
     (wBP).bind fun x115 =>
     (wAi x66 x105 x115).bind fun x135 =>
     some (x135,0)
    else
     some ((⟨0,0⟩:wAJ),x42)
  else
   some ((⟨0,0⟩:wAJ),1)
 else
  some ((⟨0,0⟩:wAJ),x9)
def wAu (p0:Int) (p1:wAJ):Option (Bool) :=
 if p1.Lo <= p0 then
  some (decide (p0 <= p1.Hi))
 else
  some false
def wAd (p0:Int) (p1:Int):Option (wAI) :=
 some (⟨p0,p1⟩:wAI)
def wBM (p0:wAK) (p1:wAC):Option (wAI × wAK) :=
 (wAN p0 (↑p1.Starts.length:Int)).bind fun (x56,x57) =>
 (wAN x57 (w64 ((↑p1.Splits.length:Int) + 1))).bind fun (x71,x72) =>
 (wAd x56 x71).bind fun x85 =>
 some (x85,x72)
def wBT (p0:wAI):Option (wAH) :=
 some (⟨p0.Skier,p0.Mat⟩:wAH)
def wCu (p0:wAC) (p1:wAI) (p2:wAI):Option (wAJ × Int) :=
 (wBw p0 [p1,p2]).bind fun (x31,x32) =>
 match x31 with
 | none =>
  if x32=0 then
   (wBT p1).bind fun x62 =>
   (wBT p2).bind fun x72 =>
   none
  else
   some ((⟨0,0⟩:wAJ),x32)
 | some x56 =>
  if x32=0 then
   (wBT p1).bind fun x99 =>
   (wBT p2).bind fun x109 =>
   (wAi x56 x99 x109).bind fun x129 =>
   some (x129,0)
  else
   some ((⟨0,0⟩:wAJ),x32)
def wCM (p0:wAC) (p1:wAI):Option (wAJ × Int) :=
 (wBw p0 [p1]).bind fun (x27,x28) =>
 match x27 with
 | none =>
  if x28=0 then
   (wBP).bind fun x58 =>
   (wBT p1).bind fun x68 =>
   none
  else
   some ((⟨0,0⟩:wAJ),x28)
 | some x52 =>
  if x28=0 then
   (wBP).bind fun x95 =>
   (wBT p1).bind fun x105 =>
   (wAi x52 x95 x105).bind fun x125 =>
   some (x125,0)
  else
   some ((⟨0,0⟩:wAJ),x28)
def wCq (p0:wAC) (p1:wAI) (p2:wAI) (p3:Bool):Option ((List (List Int)) × (List Int) × Int) :=
 (wBw p0 [p1,p2]).bind fun (x27,x28) =>
 match x27 with
 | none =>
  if x28=0 then
   if p3=true then
    none
   else
    none
  else
   some ([],[],x28)
 | some x52 =>
  if x28=0 then
   if p3=true then
    ((wBT p1).bind fun x95 =>
    (wAZ x52 (wAr x52.number x95 0) false).bind fun (x110,x111,x112) =>
    some (x110.far,x110.by_)).bind fun (l86,l89) =>
    (wBp x52 l86).bind fun (x287,x288) =>
    some (x287,x288,0)
   else
    ((wBT p2).bind fun x321 =>
    (wAZ x52 (wAr x52.number x321 0) false).bind fun (x336,x337,x338) =>
    some (x336.far,x336.by_)).bind fun (l312,l315) =>
    (wBp x52 l312).bind fun (x513,x514) =>
    some (x513,x514,0)
  else
   some ([],[],x28)
def wCl (p0:Int) (p1:Int):Option (Bool) :=
 some (decide (p0=p1))
def wCc (p0:wAC) (p1:wAI) (p2:wAI):Option ((List wAD) × Int) :=
 (wBw p0 [p1,p2]).bind fun (x27,x28) =>
 match x27 with
 | none =>
  if x28=0 then
   none
  else
   some ([],x28)
 | some x52 =>
  if x28=0 then
   ((wBT p1).bind fun x78 =>
   some (wAr x52.number x78 0)).bind fun x74 =>
   (wAZ x52 x74 false).bind fun (x147,x148,x149) =>
   (wBT p2).bind fun x179 =>
   (wCY x52 x147 (fun x=>wCl x x74) (wAr x52.number x179 0)).bind fun x257 =>
   some (x257,0)
  else
   some ([],x28)
def wBW (p0:wAC) (p1:wAD):Option (Bool) :=
 if p1.Kind=0 then
  (wBE p1.Kind 0 3).bind fun x16 =>
  if x16=true then
   (wAt).bind fun _ =>
   (wDf p0 p1).bind fun x45 =>
   some x45
  else
   some false
 else
  if p1.Kind=1 then
   (wBE p1.Kind 0 3).bind fun x67 =>
   if x67=true then
    (wAt).bind fun _ =>
    (wDi p0 p1).bind fun x96 =>
    some x96
   else
    some false
  else
   if p1.Kind=2 then
    (wBE p1.Kind 0 3).bind fun x118 =>
    if x118=true then
     (wAt).bind fun _ =>
     (wDl p0 p1).bind fun x147 =>
     some x147
    else
     some false
   else
    if p1.Kind=3 then
     (wBE p1.Kind 0 3).bind fun x169 =>
     if x169=true then
      (wAt).bind fun _ =>
      (wDQ p0 p1).bind fun x198 =>
      some x198
     else
      some false
    else
     (wBE p1.Kind 0 3).bind fun x220 =>
     if x220=true then
      (wAt).bind fun _ =>
      none
     else
      some false
def wBX (p0:List wAD) (p1:(wAD->Option Bool)):Option (Bool) :=
 jn (wEg 0 (↑p0.length:Int) (fun k2 _ =>
  (idx p0 (↑k2:Int)).bind fun x22 =>
  (p1 x22).bind fun x37 =>
  if x37=true then
   some (.inl ())
  else
   esc (some false)) ()) fun _ =>
 some true
def wCE (p0:wAC) (p1:List wAD):Option (Int) :=
 if 80 < (↑p1.length:Int) then
  some 2
 else
  (wBX p1 (fun x=>wBW p0 x)).bind fun x9 =>
  if x9=true then
   some 0
  else
   some 1
def wBY (p0:wAC) (p1:wAH) (p2:List wAD):Option (wAH × Int × Bool) :=
 jn (wEg 0 (↑p2.length:Int) (fun k27 (x24,x25,x26) =>
  (idx p2 (↑k27:Int)).bind fun x50 =>
  (wAw p0 x50).bind fun (x69,x70,x71) =>
  if x69=(⟨x24,x25⟩:wAH) then
   some (.inl (x70.skier,x70.mat,w64 (x26 + x71)))
  else
   esc (some ((⟨x24,x25⟩:wAH),0,false))) (p1.skier,p1.mat,0)) fun (y114,y115,y116) =>
 some ((⟨y114,y115⟩:wAH),y116,true)
def wBu (p0:wAC) (p1:wAI) (p2:wAI) (p3:List wAD):Option (Int × Int) :=
 (wCL p0).bind fun x13 =>
 if x13=0 then
  (wAl p0 p1).bind fun x29 =>
  if x29=true then
   (wAl p0 p2).bind fun x45 =>
   if x45=true then
    (wCE p0 p3).bind fun x64 =>
    if x64=0 then
     ((wBT p1).bind fun x85 =>
     (wBY p0 x85 p3).bind fun (x105,x106,x107) =>
     some (x105.skier,x105.mat,x106,x107)).bind fun (x78,x79,x80,b81) =>
     if b81=true then
      (wBT p2).bind fun x256 =>
      if (⟨x78,x79⟩:wAH)=x256 then
       some (x80,0)
      else
       some (0,8)
     else
      some (0,8)
    else
     some (0,x64)
   else
    some (0,1)
  else
   some (0,1)
 else
  some (0,x13)
def wBA :Option (wAC) :=
 some (⟨[0,300],[(⟨1000,1200⟩:wAJ),(⟨900,1500⟩:wAJ)],[(⟨(⟨-5,5⟩:wAJ),1⟩:wAM)],[(⟨0,2,0,2250⟩:wAL),(⟨1,1,0,1400⟩:wAL),(⟨1,2,0,2499⟩:wAL)]⟩:wAC)
def wEj (p0:wAC) (p1:Int):Option ((Option wAY) × Int) :=
 (wBw p0 [(⟨0,p1⟩:wAI)]).bind fun (x19,x20) =>
 match x19 with
 | none =>
  some (none,x20)
 | some x44 =>
  some ((some x44),x20)
def wCy (p0:wAY) (p1:Int):Option ((Arr Int 64)) :=
 (wCJ 0 (↑p0.Race.Starts.length:Int) (fun k19 a18 =>
  (wAZ p0 (wAr p0.number (⟨(↑k19:Int),p1⟩:wAH) 0) false).bind fun (x47,x48,x49) =>
  (wCJ 0 (↑p0.Race.Starts.length:Int) (fun k79 a78 =>
   (chk (wAr p0.number (⟨(↑k79:Int),p1⟩:wAH) 0) x47.far.length).bind fun _ =>
   (chk (↑k19:Int) 8).bind fun _ =>
   (chk (↑k79:Int) 8).bind fun _ =>
   some (a78.set (k19 * 8 + k79) (gd x47.far (wAr p0.number (⟨(↑k79:Int),p1⟩:wAH) 0).toNat))) a18).bind fun y84 =>
  some y84) (Arr.fill 64 0)).bind fun y24 =>
 some y24
def wEk (p0:wAC) (p1:Int):Option ((List wAJ) × Int) :=
 (wEj p0 p1).bind fun (x5,x6) =>
 match x5 with
 | none =>
  if x6=0 then
   none
  else
   some ([],x6)
 | some x30 =>
  if x6=0 then
   (wCy x30 p1).bind fun x48 =>
   (wCJ 0 (↑p0.Starts.length:Int) (fun k83 l79 =>
    (wCJ 0 (↑p0.Starts.length:Int) (fun k124 (x122,x123) =>
     (chk (↑k83:Int) 8).bind fun _ =>
     (chk (↑k124:Int) 8).bind fun _ =>
     if (x48.get (k83 * 8 + k124)) < 0 then
      if 0 < (x48.get (k124 * 8 + k83)) then
       some (w64 (x122 + 1),w64 (x123 + 1))
      else
       some (w64 (x122 + 1),x123)
     else
      if 0 < (x48.get (k124 * 8 + k83)) then
       some (x122,w64 (x123 + 1))
      else
       some (x122,x123)) (1,1)).bind fun (y129,y130) =>
    (app 16 l79 [(⟨y129,y130⟩:wAJ)]).bind fun x207 =>
    some x207) []).bind fun y88 =>
   some (y88,0)
  else
   some ([],x6)
def wCd (p0:wAL) (p1:Int) (p2:Int):Option (Bool) :=
 some (decide ((⟨p0.Skier,p0.Mat⟩:wAI)=(⟨p1,p2⟩:wAI)))
def wAs (p0:List wAL) (p1:(wAL->Option Bool)):Option (Int) :=
 jn (wEg 0 (↑p0.length:Int) (fun k2 _ =>
  (idx p0 (↑k2:Int)).bind fun x22 =>
  (p1 x22).bind fun x30 =>
  if x30=true then
   esc (some (↑k2:Int))
  else
   some (.inl ())) ()) fun _ =>
 some (-1)
def wAo (p0:List wAL) (p1:(wAL->Option Bool)):Option (Bool) :=
 (wAs p0 p1).bind fun x1 =>
 some (decide (0 <= x1))
def wET (p0:wAC):Option ((List wAI) × Int) :=
 (wCL p0).bind fun x5 =>
 if x5=0 then
  (wCJ 0 (↑p0.Starts.length:Int) (fun k34 l30 =>
   iter (fun (l91,x95) =>
    if x95 <= (↑p0.Splits.length:Int) then
     (wAo p0.Readings (fun x=>wCd x (↑k34:Int) x95)).bind fun x127 =>
     if x127=true then
      some (.inl (l91,w64 (x95 + 1)))
     else
      (app 16 l91 [(⟨(↑k34:Int),x95⟩:wAI)]).bind fun x163 =>
      some (.inl (x163,w64 (x95 + 1)))
    else
     esc (some l91)) big (l30,1)) []).bind fun y39 =>
  some (y39,0)
 else
  some ([],x5)
def wCF (p0:List wAJ) (p1:List wAJ):Option (Bool) :=
 if (↑p0.length:Int)=(↑p1.length:Int) then
  jn (wEg 0 (↑p0.length:Int) (fun k4 _ =>
   (idx p0 (↑k4:Int)).bind fun x26 =>
   (idx p1 (↑k4:Int)).bind fun x34 =>
   if x26=x34 then
    some (.inl ())
   else
    esc (some false)) ()) fun _ =>
  some true
 else
  some false
def wBv (p0:List wAI) (p1:List wAI):Option (Bool) :=
 if (↑p0.length:Int)=(↑p1.length:Int) then
  jn (wEg 0 (↑p0.length:Int) (fun k4 _ =>
   (idx p0 (↑k4:Int)).bind fun x26 =>
   (idx p1 (↑k4:Int)).bind fun x34 =>
   if x26=x34 then
    some (.inl ())
   else
    esc (some false)) ()) fun _ =>
  some true
 else
  some false
def wBU :Option (wAC) :=
 (wBA).bind fun x5 =>
 (chk 1 x5.Readings.length).bind fun _ =>
 some (⟨x5.Starts,x5.Splits,x5.Clocks,(nD x5.Readings 1 (⟨(gd x5.Readings 1).Skier,(gd x5.Readings 1).Mat,(gd x5.Readings 1).Clock,1700⟩:wAL))⟩:wAC)
def wEU (p0:wAC) (p1:List wAD):Option (Int × Int) :=
 (wCL p0).bind fun x5 =>
 if x5=0 then
  (wCE p0 p1).bind fun x22 =>
  if x22=0 then
   if (↑p1.length:Int)=0 then
    some (0,8)
   else
    ((idx p1 0).bind fun x44 =>
    (wAw p0 x44).bind fun (x56,x57,x58) =>
    some (x56.skier,x56.mat)).bind fun (x39,x40) =>
    (wBY p0 (⟨x39,x40⟩:wAH) p1).bind fun (x279,x280,x281) =>
    if x281=true then
     if x279=(⟨x39,x40⟩:wAH) then
      if 0 <= x280 then
       some (0,8)
      else
       some (x280,0)
     else
      some (0,8)
    else
     some (0,8)
  else
   some (0,x22)
 else
  some (0,x5)
def wDA (p0:Int) (p1:wAL) (p2:Int):Option (Bool) :=
 some (decide (p0=p2))
def wCG (p0:wAC) (p1:((Int × wAL)->Option Bool)):Option (wAY) :=
 (mkz 32 (↑p0.Readings.length:Int) (⟨0,0,0,0⟩:wAL)).bind fun x5 =>
 (wKf x5 0 p0.Readings).bind fun x13 =>
 (wCJ 0 (↑x13.length:Int) (fun k34 (l32,k33) =>
  (chk (↑k34:Int) l32.length).bind fun _ =>
  (p1 ((↑k34:Int),(gd l32 k34))).bind fun x68 =>
  if x68=true then
   some (l32,k33)
  else
   (chk (((k33):Nat):Int) l32.length).bind fun _ =>
   some ((nD l32 k33 (gd l32 k34)),(k33 + 1))) (x13,0)).bind fun (y39,y40) =>
 (cut y39 0 ((y40:Nat):Int)).bind fun x114 =>
 (wCs (⟨p0.Starts,p0.Splits,p0.Clocks,x114⟩:wAC)).bind fun x130 =>
 some x130
def wDB (p0:Int) (p1:wAL) (p2:Int) (p3:Int):Option (Bool) :=
 if p0=p2 then
  some true
 else
  some (decide (p0=p3))
def wEy (p0:wAC):Option ((List Int) × Int) :=
 (wBj p0).bind fun (x5,x6) =>
 match x5 with
 | none =>
  if x6=0 then
   none
  else
   some ([],x6)
 | some x30 =>
  if x6=0 then
   (wAx x30).bind fun x57 =>
   if x57=true then
    some ([],0)
   else
    jn (wEg 0 (↑p0.Readings.length:Int) (fun k73 _ =>
     (wCG p0 (fun x=>wDA x.1 x.2 (↑k73:Int))).bind fun x126 =>
     (wAx x126).bind fun x167 =>
     if x167=true then
      esc (some ([(↑k73:Int)],0))
     else
      some (.inl ())) ()) fun _ =>
    jn (wEg 0 (↑p0.Readings.length:Int) (fun k204 _ =>
     iter (fun x250 =>
      if x250 < (↑p0.Readings.length:Int) then
       (wCG p0 (fun x=>wDB x.1 x.2 (↑k204:Int) x250)).bind fun x309 =>
       (wAx x309).bind fun x350 =>
       if x350=true then
        esc (esc (some ([(↑k204:Int),x250],0)))
       else
        some (.inl (w64 (x250 + 1)))
      else
       esc (some (.inl ()))) big (↑(k204 + 1):Int)) ()) fun _ =>
    some ([],10)
  else
   some ([],x6)
def wDC (p0:Int) (p1:wAL) (p2:Int):Option (Bool) :=
 some (decide (p1.Skier=p2))
def wEz (p0:wAC):Option ((List Int) × Int) :=
 (wBj p0).bind fun (x5,x6) =>
 match x5 with
 | none =>
  if x6=0 then
   none
  else
   some ([],x6)
 | some x30 =>
  if x6=0 then
   (wAx x30).bind fun x57 =>
   if x57=true then
    some ([],6)
   else
    (wCJ 0 (↑p0.Starts.length:Int) (fun k89 l85 =>
     (wCG p0 (fun x=>wDC x.1 x.2 (↑k89:Int))).bind fun x145 =>
     (wAx x145).bind fun x186 =>
     if x186=true then
      (app 8 l85 [(↑k89:Int)]).bind fun x206 =>
      some x206
     else
      some l85) []).bind fun y94 =>
    some (y94,0)
  else
   some ([],x6)
def wCI (p0:List Int) (p1:List Int):Option (Bool) :=
 if (↑p0.length:Int)=(↑p1.length:Int) then
  jn (wEg 0 (↑p0.length:Int) (fun k4 _ =>
   (idx p0 (↑k4:Int)).bind fun x26 =>
   (idx p1 (↑k4:Int)).bind fun x34 =>
   if x26=x34 then
    some (.inl ())
   else
    esc (some false)) ()) fun _ =>
  some true
 else
  some false
def wBq :Option (Bool) :=
 (wBA).bind fun x1 =>
 (wAd 0 2).bind fun x23 =>
 (wCM x1 x23).bind fun (x59,x60) =>
 (wBA).bind fun x77 =>
 (wAd 0 1).bind fun x99 =>
 (wCM x77 x99).bind fun (x135,x136) =>
 (wBA).bind fun x153 =>
 (wAd 0 2).bind fun x175 =>
 (wAd 1 2).bind fun x185 =>
 (wCu x153 x175 x185).bind fun (x221,x222) =>
 (wBA).bind fun x239 =>
 (wAd 0 2).bind fun x261 =>
 (wAd 1 2).bind fun x271 =>
 (wBu x239 x261 x271 [(⟨3,0,0,false⟩:wAD),(⟨3,0,2,true⟩:wAD)]).bind fun (x321,x322) =>
 (wBA).bind fun x342 =>
 (wEk x342 2).bind fun (x390,x391) =>
 (wBA).bind fun x404 =>
 (wET x404).bind fun (x452,x453) =>
 (if x60=0 then
  if x136=0 then
   if x222=0 then
    if x322=0 then
     if x391=0 then
      if x453=0 then
       if x59=(⟨2244,2256⟩:wAJ) then
        if x135=(⟨1000,1200⟩:wAJ) then
         if x221=(⟨247,251⟩:wAJ) then
          if x321=251 then
           (wCF x390 [(⟨1,1⟩:wAJ),(⟨2,2⟩:wAJ)]).bind fun x506 =>
           if x506=true then
            (wAd 0 1).bind fun x518 =>
            (wBv x452 [x518]).bind fun x544 =>
            some (!x544)
           else
            some true
          else
           some true
         else
          some true
        else
         some true
       else
        some true
      else
       some true
     else
      some true
    else
     some true
   else
    some true
  else
   some true
 else
  some true).bind fun b466 =>
 if b466=true then
  some false
 else
  (wBU).bind fun x586 =>
  (wCp x586).bind fun (x634,x635,x636) =>
  (wBU).bind fun x654 =>
  (wEU x654 [(⟨0,1,0,true⟩:wAD),(⟨1,1,0,true⟩:wAD),(⟨3,0,1,false⟩:wAD),(⟨2,0,0,false⟩:wAD)]).bind fun (x716,x717) =>
  (wBU).bind fun x727 =>
  (wEy x727).bind fun (x775,x776) =>
  (wBU).bind fun x789 =>
  (wEz x789).bind fun (x837,x838) =>
  if x636=7 then
   if x717=0 then
    if x776=0 then
     if x838=0 then
      if x716=(-194) then
       (wCI x775 [1]).bind fun x886 =>
       if x886=true then
        (wCI x837 [1]).bind fun x914 =>
        some x914
       else
        some false
      else
       some false
     else
      some false
    else
     some false
   else
    some false
  else
   some false
def wBd (p0:List Int) (p1:List Int):Option (Bool) :=
 (wCX p0).bind fun x1 =>
 (wCC x1 6 6 12).bind fun (x16,x17,x18,x19) =>
 (wCX p1).bind fun x59 =>
 (wEF x16 x17 x18).bind fun (x115,x116) =>
 (wCp x16).bind fun (x130,x131,x132) =>
 (wDs x16).bind fun (x154,x155) =>
 if x116=0 then
  if x132=0 then
   if x155=6 then
    if x115=true then
     (wBQ x16 x130 x131).bind fun x212 =>
     if x212=true then
      jn (wEg 0 (↑x16.Clocks.length:Int) (fun k225 _ =>
       (wEG x16 (↑k225:Int)).bind fun (x256,x257) =>
       if x257=0 then
        (idx x18 (↑k225:Int)).bind fun x278 =>
        (wAu x278 x256).bind fun x293 =>
        if x293=true then
         (idx x131 (↑k225:Int)).bind fun x305 =>
         (wAu x305 x256).bind fun x316 =>
         if x316=true then
          some (.inl ())
         else
          esc (some false)
        else
         esc (some false)
       else
        esc (some false)) ()) fun _ =>
      jn (wEg 0 4 (fun k377 (l372,x375,x376) =>
       ((wBM (⟨l372,x375,x376⟩:wAK) x16).bind fun (x498,x499) =>
       (wBM x499 x16).bind fun (x516,x517) =>
       some (x517.bytes,x517.next,x517.state,x498.Skier,x498.Mat,x516.Skier,x516.Mat)).bind fun (l410,x413,x414,x417,x418,x421,x422) =>
       (wCu x16 (⟨x417,x418⟩:wAI) (⟨x421,x422⟩:wAI)).bind fun (x1481,x1482) =>
       (wCM x16 (⟨x417,x418⟩:wAI)).bind fun (x1503,x1504) =>
       if x1482=0 then
        if x1504=0 then
         (idx x17 x417).bind fun x1539 =>
         (idx x1539 x418).bind fun x1562 =>
         (wAu x1562 x1503).bind fun x1569 =>
         if x1569=true then
          (idx x17 x421).bind fun x1581 =>
          (idx x1581 x422).bind fun x1594 =>
          (wAu (w64 (x1594 - x1562)) x1481).bind fun x1614 =>
          if x1614=true then
           jn (wEg 0 2 (fun k1643 _ =>
            (chk (↑k1643:Int) [false,true].length).bind fun _ =>
            (wCq x16 (⟨x417,x418⟩:wAI) (⟨x421,x422⟩:wAI) (gd [false,true] k1643)).bind fun (x1689,x1690,x1691) =>
            if x1691=0 then
             (wBQ x16 x1689 x1690).bind fun x1753 =>
             if x1753=true then
              (idx x1689 x421).bind fun x1765 =>
              (idx x1765 x422).bind fun x1778 =>
              (idx x1689 x417).bind fun x1785 =>
              (idx x1785 x418).bind fun x1797 =>
              (idx ([x1481.Lo,x1481.Hi]:List Int) (↑k1643:Int)).bind fun x1804 =>
              if (w64 (x1778 - x1797))=x1804 then
               some (.inl ())
              else
               esc (esc (some false))
             else
              esc (esc (some false))
            else
             esc (esc (some false))) ()) fun _ =>
           (wCc x16 (⟨x417,x418⟩:wAI) (⟨x421,x422⟩:wAI)).bind fun (x1865,x1866) =>
           (wCc x16 (⟨x421,x422⟩:wAI) (⟨x417,x418⟩:wAI)).bind fun (x1883,x1884) =>
           (wBu x16 (⟨x417,x418⟩:wAI) (⟨x421,x422⟩:wAI) x1865).bind fun (x1910,x1911) =>
           (wBu x16 (⟨x421,x422⟩:wAI) (⟨x417,x418⟩:wAI) x1883).bind fun (x1934,x1935) =>
           if x1866=0 then
            if x1884=0 then
             if x1911=0 then
              if x1935=0 then
               if x1910=x1481.Hi then
                if (w64 (-x1934))=x1481.Lo then
                 ((wAd x417 0).bind fun x1980 =>
                 (wCu x16 x1980 (⟨x417,x418⟩:wAI)).bind fun (x1998,x1999) =>
                 some (x1999,x1998.Lo,x1998.Hi)).bind fun (x1972,x1975,x1976) =>
                 if x1972=0 then
                  (idx x16.Starts x417).bind fun x2140 =>
                  if (w64 (x1975 + x2140))=x1503.Lo then
                   if (w64 (x1976 + x2140))=x1503.Hi then
                    some (.inl (l410,x413,x414))
                   else
                    esc (some false)
                  else
                   esc (some false)
                 else
                  esc (some false)
                else
                 esc (some false)
               else
                esc (some false)
              else
               esc (some false)
             else
              esc (some false)
            else
             esc (some false)
           else
            esc (some false)
          else
           esc (some false)
         else
          esc (some false)
        else
         esc (some false)
       else
        esc (some false)) (x59.bytes,x59.next,x59.state)) fun (y2230,y2231,y2232) =>
      (wBq).bind fun x2244 =>
      some x2244
     else
      some false
    else
     some false
   else
    some false
  else
   some false
 else
  some false
end Go.Proofs.Ytlnfbjphfoipaaa
namespace Go.KL
open Go.RowKit
section
variable {K V:Type} [DecidableEq K] {P:Program} {σ:Env} {o:Oper} {B:Base} {U U':PHeap} {L:List Res} {w:World} {m ck:Nat} {es:Array MapEntry} {mk:K->Value} {mv:V->Value} {t:List (K × V)}
def MpF {K V:Type} (U:PHeap) (m:Nat) (es:Array MapEntry) (ck:Nat) (mk:K->Value) (mv:V->Value) (l:List (K × V)):Prop:=U m=some (.map es ck)/\MpR es mk mv l
theorem MpF.le {K V:Type} {mk:K->Value} {mv:V->Value} {t:List (K × V)} (h:MpF U m es ck mk mv t) (l:PHeap.Le U U'):MpF U' m es ck mk mv t:=⟨l _ _ h.1,h.2⟩
theorem St.freezeM {K V:Type} {mk:K->Value} {mv:V->Value} {t:List (K × V)} (h:St B U L w) {k:Nat} (hk:L[k]?=some (.obj m (.map es ck))) (hr:MpR es mk mv t) :
  ∃ U',PHeap.Le U U'/\MpF U' m es ck mk mv t/\St B U' (L.eraseIdx k) w:=by
 obtain ⟨U',h1,h2,h3⟩:=h.freezeO hk
 exact ⟨U',h1,⟨h2,hr⟩,h3⟩
end
end Go.KL
namespace Go.KL
open Go.RowKit
section
variable {B:Base} {U:PHeap} {L:List Res} {w:World}
theorem St.cutRowM {α:Type} {enc:α->List Value} {m:List α} {k c T sz b:Nat} {A:Option Addr} (h:St B U L w) (hk:L[k]?=some (.row A c T sz (nR enc m))):St B U (L.set k (.row A c T sz (nR enc (m.take b)))) w :=
 h.cutRow (a:=nR enc (m.take b)) (d:=nR enc (m.drop b)) (by rw [<- List.flatMap_append,List.take_append_drop];exact hk)
end
section
variable {P:Program} {N:Nat} {l:List Oper} {Q:wEM} {D:List Deferred} {ks:List Nat} {s:Sch} {σ:Env} {w:World} {B:Base} {U:PHeap} {L:List Res} {i d:Nat} {o:Oper}
theorem slc0 {A:Option Addr} {c sz:Nat}:Value.slice (if c=(0:Int).toNat then A else A.map (·.add ((0:Int).toNat * sz))) ((0:Int).toNat - (0:Int).toNat) (c - (0:Int).toNat)=.slice A 0 c:=by
 have:A.map (·.add ((0:Int).toNat * sz))=A:=by
  cases A with
  | none=>rfl
  | some a=>simp [Addr.add]
 rw [this]
 simp
end
theorem St.cutRowC {α:Type} {enc:α->List Value} {m xs:List α} {k c T sz:Nat} {b:Int} {A:Option Addr} {B:Base} {U:PHeap} {L:List Res} {w:World} (h:St B U L w) (hk:L[k]?=some (.row A c T sz (nR enc m))) (hc:cut m 0 b=some xs):St B U (L.set k (.row A c T sz (nR enc xs))) w:=by
 obtain ⟨h0,h1,h2,rfl,hn⟩:=wHx hc
 have:=h.cutRowM (b:=b.toNat) hk
 simpa using this
end Go.KL
namespace Go.KL
open Go.RowKit
section
variable {P:Program} {N:Nat} {l:List Oper} {Q:wEM} {D:List Deferred} {ks:List Nat} {s:Sch} {σ:Env} {w:World} {B:Base} {U:PHeap} {L:List Res} {i d:Nat} {o:Oper}
theorem OKS.appendP {α:Type} {t e sz j c c2 k:Nat} {A A2:Option Addr} {inf:TypeInfo} {x y:Operand} {enc:α->List Value} {m:List α} {v:α}
  (ho:l[i]?=some o) (hd:o.dst=some d) (hN:Nat.blt d N=true) (hw:wanted l σ o=true) (hop:o.op=.call { callee:=.builtin .append,args:=#[x,y],argTypes:=#[t,t] })
  (ht:P.underlying t=some (.slice e)) (hi:P.info? e=some inf) (hsize:inf.size=sz) (hsz:Nat.blt 0 sz=true)
  (hS:St B U L w) (hk:L[j]?=some (.row A c e sz (m.flatMap enc))) (hx:ev σ x=.slice A k c) (hy:ev σ y=.slice A2 1 c2)
  (hsrc:([v]:List α).length=0 \/ ∃ a,A2=some a/\∀ j u,(([v]:List α).flatMap enc)[j]?=some u->w.cell? (a.add j)=some u) (hel:∀ x,(enc x).length=sz) (h1:∀ x,(enc x).all (·.oneCell')=true)
  (hm:chk (k:Int) m.length=some ()) (hne:wFa (kOf ks i)=false)
  (kk:∀ w',St B U (L.set j (.row A c e sz ((m.set k v).flatMap enc))) w'->OKS N P l Q D ks s (upd σ d (.slice A (k + 1) c)) w'):OKS N P l Q D ks (.fx i s .stop) σ w:=by
 have hkm:k < m.length:=by have:=wAa hm;omega
 have hsz':0 < sz:=by simpa [Nat.blt_eq] using hsz
 have hlen:(m.flatMap enc).length=m.length * sz:=wAE hel m
 obtain ⟨b0,hA⟩:=hS.rowSome hk (by rw [hlen];exact Nat.mul_pos (by omega) hsz')
 subst hA hsize
 obtain ⟨cur,g1,g2,g3,g4,g5⟩:=RowAt.cells (hS.at_ _ (kK hk))
 have hmc:m.length <= c:=by rw [hlen] at g2;exact Nat.le_of_mul_le_mul_right g2 hsz'
 obtain ⟨a,rfl,hc⟩:=hsrc.resolve_left (by simp)
 have e1:([v]:List α).flatMap enc=enc v:=by simp
 rw [e1] at hc
 have hle:(k + 1) * inf.size <= c * inf.size:=nk _ (by omega)
 rw [kR,kG] at hle
 have hr:=run_append_room (P:=P) w t o.type e inf ht hi b0 k c cur g1 a 1 c2 (enc v) (by rw [hel,kG]) hc (fun u hu=>nI.1 (h1 v) u hu) (by omega) (by rw [hel,g4];exact hle)
 have hset:cur.toList.take (k * inf.size) ++ enc v ++ cur.toList.drop (k * inf.size + (enc v).length)=wEp cur.toList (k * inf.size) (enc v):=(wIc _ _ _ (by rw [hel];simp only [Array.length_toList];omega)).symm
 rw [hset] at hr
 refine OKS.v (v:=.slice (some ⟨b0,0,none⟩) (k + 1) c) (w':=w.setRow b0 (wEp cur.toList (k * inf.size) (enc v)).toArray) ho hd hN hw ⟨by rw [hop];rfl,?_⟩ (.inl hne) (kk _ (hS.set hk ⟨rfl,⟨rfl,nQ _⟩,rfl,by simp [World.setRow],fun q _ hq=>setRow_other w b0 q _ fun e=>hq (by rw [e];rfl)⟩ (.inr ⟨b0,_,rfl,setRow_heap w b0 cur _ e _ g1,?_,g3,?_,?_⟩) fun b hb=>.inl hb))
 ·simp [execOp,hop,resolve,invoke,builtin,hx,hy,hr,Result.andThen]
 ·rw [wAE hel,nM]
  exact nk _ hmc
 ·simp [wDE,g4]
 ·have h2:(m.flatMap enc).length=((m.set k v).flatMap enc).length:=by rw [wAE hel,wAE hel,nM]
  have h3:k * inf.size + (enc v).length <= (m.flatMap enc).length:=by
   have:(k + 1) * inf.size <= m.length * inf.size:=nk _ (by omega)
   rw [kR,kG] at this
   rw [hel,hlen];exact this
  show (wEp cur.toList (k * inf.size) (enc v)).take _=_
  rw [<- h2,wGW _ _ _ _ h3,g5]
  have hx:m[k]?=some m[k]:=nP hkm
  have:=wEx (f:=enc) hel (vs:=enc v) (off:=0) m k _ v hx (by rw [hel];omega) (by
   have hv:(enc m[k]).length=(enc v).length:=by rw [hel,hel]
   rw [wIc _ _ _ (by omega),List.take_zero,kE,nV,<- hv,List.drop_length,kF])
  simpa using this
end
theorem wMc {α:Type} {m xs:List α} {k:Nat} (h:Go.KL.cut m 0 (k:Int)=some xs):xs.length=k:=by
 obtain ⟨_,_,_,_,hn⟩:=wHx h
 rw [hn];simp
end Go.KL
namespace Go.KL
open Go.RowKit
section
variable {N:Nat} {P:Program} {l:List Oper} {Q:wEM} {D:List Deferred} {ks:List Nat} {s:Sch} {σ:Env} {w:World} {B:Base} {U:PHeap} {L:List Res} {i d:Nat} {o:Oper}
theorem wJd (v:Value) (k n:Nat) (hk:0 < k):madeCells (nl k v) n=(hJ n v).toArray:=by
 apply Array.ext'
 simp only [madeCells]
 apply ny
 ·simp
 ·intro i h1 h2
  simp at h1 ⊢
  have hm:i % k < (nl k v).size:=by simpa using Nat.mod_lt i hk
  rw [getElem!_pos (nl k v) (i % k) hm]
  simp
theorem wFd {α:Type} {enc:α->List Value} {z:α} {v:Value} {k:Nat} (h:enc z=hJ k v) (n:Nat):nR enc (hJ n z)=hJ (n * k) v:=by
 induction n with
 | zero=>simp
 | succ n ih=>rw [List.replicate_succ,nu,ih,h,List.replicate_append_replicate,kR,kG,Nat.add_comm]
theorem OKS.makeSliceZ {α:Type} {t e:TypeId} {inf:TypeInfo} {x y:Operand} {n:Int} {v u:Value} {enc:α->List Value} {z:α} {xs:List α} {sz:Nat} (ho:l[i]?=some o) (hd:o.dst=some d) (hN:Nat.blt d N=true) (hw:wanted l σ o=true) (hop:o.op=.makeSlice t x y)
  (ht:P.underlying t=some (.slice e)) (hi:P.info? e=some inf) (hz:inf.zero=some u) (hc:u.cells=nl sz v) (hs:inf.size=sz) (henc:enc z=hJ sz v) (hsz:0 < sz) (hb:sz <= 16) (hx:ev σ x=.int .i64 n) (hy:ev σ y=.int .i64 n) (hm:mkz inf.bytes n z=some xs) (hS:St B U L w)
  (k:∀ w' b,St B U (.row (some ⟨b,0,none⟩) xs.length e sz (nR enc xs) :: L) w'->OKS N P l Q D ks s (upd σ d (.slice (some ⟨b,0,none⟩) xs.length xs.length)) w'):OKS N P l Q D ks (.fx i s .stop) σ w:=by
 unfold mkz at hm
 split at hm
 ·rename_i h
  obtain ⟨h0,h1,h2⟩:=h
  cases hm
  obtain ⟨m,rfl⟩:=kD h0
  have hr:=run_make (P:=P) w t e inf _ ht hi hz .i64 .i64 (m:Int) (m:Int) (by omega) (by omega) h2 (by omega)
  simp only [hs,hH,hc,wJd v sz (m * sz) hsz] at hr
  simp only [hH,List.length_replicate,wFd henc] at k
  have hmax:m <= maxLen:=by
   have h16:(16777216:Nat) <= maxLen:=by decide
   omega
  refine OKS.v (v:=.slice (some ⟨w.heap.size,0,none⟩) m m) (w':=w.alloc (.cells (hJ (m * sz) v).toArray e)) ho hd hN hw ⟨by rw [hop];rfl,?_⟩ (.inr (wBk w _))
   (k _ _ (hS.new (wBk w _) (.inr ⟨_,(hJ (m * sz) v).toArray,rfl,wEw w _ e,by simp,hmax,by simp,by simp⟩) rfl (nQ _)))
  simp [execOp,hop,hx,hy,hr,Result.andThen]
 ·cases hm
end
end Go.KL
namespace Go.KL.Net
structure Ed where
 a:Nat
 b:Nat
 c:Int
def wGO (es:List Ed) (x:Nat->Int):Prop:=∀ e ∈ es,x e.b <= x e.a + e.c
theorem wLf {P:Int->Prop} {B:Int} (h:∃ m,P m) (hB:∀ m,P m->m <= B):∃ m,P m/\∀ k,P k->k <= m:=by
 have key:∀ (d:Nat) (m:Int),P m->(B - m).toNat <= d->∃ m,P m/\∀ k,P k->k <= m:=by
  intro d
  induction d with
  | zero =>
   intro m hm hd
   exact ⟨m,hm,fun k hk=>by have:=hB k hk;omega⟩
  | succ d ih =>
   intro m hm hd
   rcases kO (∃ k,P k/\m < k) with ⟨k,hk,hlt⟩ | h
   ·exact ih k hk (by have:=hB k hk;omega)
   ·exact ⟨m,hm,fun k hk=>by
     rcases kP m k with c | c
     ·exact absurd ⟨k,hk,c⟩ h
     ·exact c⟩
 obtain ⟨m,hm⟩:=h
 exact key _ m hm (nQ _)
structure Con (n:Nat) (R:Int) (es:List Ed):Prop where
 ends:∀ e ∈ es,e.a < n/\e.b < n
 near:∀ x,wGO es x->∀ a b,a < n->b < n->x b - x a <= R
 all:∀ (S:Nat->Prop) (i:Nat),i < n->S i->(∀ e ∈ es,S e.a->S e.b)->∀ v,v < n->S v
structure Most (n:Nat) (es:List Ed) (top:Nat->Int) (δ:Nat->Int):Prop where
 ok:wGO es δ
 le:∀ v,v < n->δ v <= top v
 gr:∀ x,wGO es x->(∀ v,v < n->x v <= top v)->∀ v,v < n->x v <= δ v
theorem wMn {es:List Ed} {x:Nat->Int} (h:wGO es x) (k:Int):wGO es fun v=>x v + k:=fun e he=>by have:=h e he;simp only;omega
theorem wKI {n:Nat} {R:Int} {es:List Ed} (C:Con n R es) {x:Nat->Int} (hx:wGO es x) {top:Nat->Int} {i:Nat} (hi:i < n) (h0:top i=0) (hp:∀ v,v < n->0 <= top v):∃ δ,Most n es top δ:=by
  have ex:∀ v,∃ m:Int,(v < n->(∃ y,wGO es y/\(∀ u,u < n->y u <= top u)/\y v=m)/\∀ y,wGO es y->(∀ u,u < n->y u <= top u)->y v <= m):=by
    intro v
    by_cases hv:v < n
    · obtain ⟨m,hm,hm2⟩:=wLf (P:=fun m=>∃ y,wGO es y/\(∀ u,u < n->y u <= top u)/\y v=m) (B:=R) ⟨_,fun u=>x u + (-(x i + R)),wMn hx _,fun u hu=>by
          have:=C.near x hx i u hi hu
          have:=hp u hu
          simp only
          omega,rfl⟩ (by
          rintro m ⟨y,hy,hy2,rfl⟩
          have:=C.near y hy i v hi hv
          have:=hy2 i hi
          omega)
      exact ⟨m,fun _=>⟨hm,fun y hy hy2=>hm2 _ ⟨y,hy,hy2,rfl⟩⟩⟩
    · exact ⟨0,fun h=>absurd h hv⟩
  obtain ⟨δ,sp⟩:=Classical.axiomOfChoice ex
  refine ⟨δ,fun e he=>?_,fun v hv=>?_,fun y hy hy2 v hv=>(sp v hv).2 y hy hy2⟩
  · obtain ⟨h1,h2⟩:=C.ends e he
    obtain ⟨⟨y,hy,hy2,hy3⟩,_⟩:=sp e.b h2
    have:=(sp e.a h1).2 y hy hy2
    have:=hy e he
    omega
  · obtain ⟨⟨y,hy,hy2,hy3⟩,_⟩:=sp v hv
    have:=hy2 v hv
    omega
theorem Most.hi {n:Nat} {R:Int} {es:List Ed} (C:Con n R es) {top δ:Nat->Int} (M:Most n es top δ) {i:Nat} (hi:i < n) (h0:top i=0):∀ v,v < n->δ v <= R:=fun v hv=>by
 have:=C.near δ M.ok i v hi hv
 have:=M.le i hi
 omega
theorem Most.tight {n:Nat} {es:List Ed} {top δ:Nat->Int} (M:Most n es top δ) (hes:∀ e ∈ es,e.a < n/\e.b < n) (low:Nat->Int) (h0:∀ v,v < n->low v <= top v) (hT:∃ v,v < n/\δ v < low v) (hge:∀ v,v < n->δ v <= low v) :
  ∃ e ∈ es,low e.a=δ e.a/\δ e.b < low e.b/\δ e.b=δ e.a + e.c:=by
 rcases kO (∃ e ∈ es,low e.a=δ e.a/\δ e.b < low e.b/\δ e.b=δ e.a + e.c) with h | h
 ·exact h
 ·exfalso
  obtain ⟨v,hv,hlt⟩:=hT
  have hx:wGO es (fun u=>if δ u < low u then δ u + 1 else δ u):=by
   intro e he
   obtain ⟨h1,h2⟩:=hes e he
   have a:=M.ok e he
   have b:=hge e.a h1
   have c:=hge e.b h2
   simp only
   by_cases e1:δ e.b < low e.b
   ·by_cases e2:δ e.a < low e.a
    ·rw [if_pos e1,if_pos e2];omega
    ·rw [if_pos e1,if_neg e2]
     by_cases e3:δ e.b=δ e.a + e.c
     ·exact absurd ⟨e,he,by omega,e1,e3⟩ h
     ·omega
   ·rw [if_neg e1]
    split <;> omega
  have:=M.gr _ hx (fun u hu=>by
   have:=M.le u hu
   have:=h0 u hu
   show (if δ u < low u then δ u + 1 else δ u) <= top u
   split <;> omega) v hv
  have this:(if δ v < low v then δ v + 1 else δ v) <= δ v:=this
  rw [if_pos hlt] at this
  omega
theorem wJL (p q:Nat->Bool) (hpq:∀ v,p v=true->q v=true):∀ (l:List Nat),(∃ v ∈ l,p v=false/\q v=true)->l.countP p < l.countP q
 | [],⟨v,h,_⟩=>by cases h
 | a :: l,⟨v,h,hp,hq⟩=>by
  have mono:∀ l:List Nat,l.countP p <= l.countP q:=fun l=>List.countP_mono_left fun v _ h=>hpq v h
  rw [List.countP_cons,List.countP_cons]
  rcases np.1 h with rfl | h
  ·have:=mono l
   simp only [hp,hq,if_true,nK,if_false]
   omega
  ·have:=wJL p q hpq l ⟨v,h,hp,hq⟩
   have:(if p a=true then 1 else 0) <= (if q a=true then 1 else 0):=by
    cases e:p a with
    | true=>rw [hpq a e];simp
    | false=>simp
   omega
def wMN (n:Nat) (δ low:Nat->Int):Nat:=(nJ n).countP fun v=>decide (low v=δ v)
theorem wLg (n:Nat) (δ low:Nat->Int):wMN n δ low <= n:=by
 have:=List.countP_le_length (p:=fun v=>decide (low v=δ v)) (l:=nJ n)
 rw [List.length_range] at this
 exact this
theorem wLh {n:Nat} {δ low low':Nat->Int} (h1:∀ v,v < n->δ v <= low' v) (h2:∀ v,v < n->low' v <= low v) {v:Nat} (hv:v < n) (a:δ v < low v) (b:low' v=δ v):wMN n δ low < wMN n δ low':=by
 have:=wJL (fun v=>decide (low v=δ v)) (fun v=>decide (low' v=δ v) || !decide (v < n)) (fun u hu=>by
  have hu':=of_decide_eq_true hu
  by_cases hun:u < n
  ·have:=h1 u hun
   have:=h2 u hun
   simp only [Bool.or_eq_true,decide_eq_true_eq]
   exact .inl (by omega)
  ·simp [hun]) (nJ n) ⟨v,kJ.2 hv,decide_eq_false (by omega),by simp [b]⟩
 have e:(nJ n).countP (fun v=>decide (low' v=δ v) || !decide (v < n))=(nJ n).countP (fun v=>decide (low' v=δ v)):=by
  apply List.countP_congr
  intro u hu
  have:u < n:=kJ.1 hu
  simp [this]
 unfold wMN
 omega
structure IsD (n:Nat) (es:List Ed) (i:Nat) (f:Nat->Int):Prop where
 ok:wGO es f
 zero:f i=0
 gr:∀ x,wGO es x->∀ v,v < n->x v - x i <= f v
end Go.KL.Net
namespace Go.KL
variable {S S' B B' α:Type}
theorem wGP {body:Nat->S->Option (S ⊕ B)} (I:Nat->S->Prop) (Z:B->Prop):∀ (m k:Nat) (s:S),I k s ->
  (∀ i s,k <= i->i < k + m->I i s->(∃ s',body i s=some (.inl s')/\I (i + 1) s') \/ ∃ b,body i s=some (.inr b)/\Z b) ->
  (∃ s',forN body m k s=some (.inl s')/\I (k + m) s') \/ ∃ b,forN body m k s=some (.inr b)/\Z b
 | 0,k,s,h,_=>.inl ⟨s,rfl,h⟩
 | m + 1,k,s,h,hb=>by
  simp only [forN]
  rcases hb k s (nQ _) (by omega) h with ⟨s',h1,h2⟩ | ⟨b,h1,h2⟩
  ·rw [h1]
   have:=wGP I Z m (k + 1) s' h2 fun i s h2 h3 h4=>hb i s (by omega) (by omega) h4
   rwa [show k + 1 + m=k + (m + 1) from by omega] at this
  ·rw [h1];exact .inr ⟨b,rfl,h2⟩
theorem wFC {body:Nat->S->Option S} (I:Nat->S->Prop):∀ (m k:Nat) (s:S),I k s ->
  (∀ i s,k <= i->i < k + m->I i s->∃ s',body i s=some s'/\I (i + 1) s')->∃ s',forN' body m k s=some s'/\I (k + m) s'
 | 0,k,s,h,_=>⟨s,rfl,h⟩
 | m + 1,k,s,h,hb=>by
  simp only [forN']
  obtain ⟨s',h1,h2⟩:=hb k s (nQ _) (by omega) h
  rw [h1]
  have:=wFC I m (k + 1) s' h2 fun i s h2 h3 h4=>hb i s (by omega) (by omega) h4
  rwa [show k + 1 + m=k + (m + 1) from by omega] at this
theorem wDu {body:Nat->S->Option (S ⊕ B)} {n:Nat} {s:S} (hn:n <= 9223372036854775807):wEg 0 (n:Int) body s=forN body n 0 s:=by
 unfold wEg
 rw [if_pos (by omega),show ((n:Int) - 0).toNat=n from by omega]
theorem wEc {body:Nat->S->Option S} {n:Nat} {s:S} (hn:n <= 9223372036854775807):wCJ 0 (n:Int) body s=forN' body n 0 s:=by
 unfold wCJ
 rw [if_pos (by omega),show ((n:Int) - 0).toNat=n from by omega]
theorem wEo {R:Type} {l:List α} {g:α->Option (Unit ⊕ R)} {p:α->Bool} {z:R} {K:Unit->Option R} (hg:∀ a ∈ l,g a=if p a=true then some (.inl ()) else some (.inr z)) (hn:l.length <= 9223372036854775807) :
  jn (wEg 0 (↑l.length:Int) (fun k (_:Unit)=>(idx l (↑k:Int)).bind g) ()) K=if l.all p=true then K () else some z:=by
 rw [wDu hn]
 have key:∀ (m k:Nat),k + m=l.length->jn (forN (fun k (_:Unit)=>(idx l (↑k:Int)).bind g) m k ()) K=if (l.drop k).all p=true then K () else some z:=by
  intro m
  induction m with
  | zero=>intro k hk;rw [kH (by omega)];rfl
  | succ m ih =>
   intro k hk
   have hlt:k < l.length:=by omega
   have e:l.drop k=l[k] :: l.drop (k + 1):=nw hlt
   rw [e,nZ,forN,wJt,nP hlt]
   simp only [hD,hg _ (List.getElem_mem hlt)]
   by_cases h:p l[k]=true
   ·rw [h]
    simp only [if_true,Bool.true_and]
    exact ih (k + 1) (by omega)
   ·rw [if_neg h]
    have:p l[k]=false:=by simpa using h
    simp only [this,Bool.false_and,wIW,nK,if_false]
 exact key l.length 0 (by omega)
theorem wEq {bytes:Nat} {l m:List α} (h:(l.length + m.length) * bytes <= 140737488355328):app bytes l m=some (l ++ m):=if_pos h
end Go.KL
namespace Go.KL
variable {S B R α β:Type}
theorem wJM {body:Nat->S->Option (S ⊕ B)} (s:Nat->S):∀ (m k:Nat),(∀ i,k <= i->i < k + m->body i (s i)=some (.inl (s (i + 1))))->forN body m k (s k)=some (.inl (s (k + m)))
 | 0,_,_=>rfl
 | m + 1,k,h=>by
  rw [forN,h k (nQ _) (by omega)]
  have:=wJM s m (k + 1) fun i h1 h2=>h i (by omega) (by omega)
  rw [show k + 1 + m=k + (m + 1) by omega] at this
  exact this
theorem wIE {body:Nat->S->Option S} (s:Nat->S):∀ (m k:Nat),(∀ i,k <= i->i < k + m->body i (s i)=some (s (i + 1)))->forN' body m k (s k)=some (s (k + m))
 | 0,_,_=>rfl
 | m + 1,k,h=>by
  rw [forN',h k (nQ _) (by omega)]
  have:=wIE s m (k + 1) fun i h1 h2=>h i (by omega) (by omega)
  rw [show k + 1 + m=k + (m + 1) by omega] at this
  exact this
theorem wGc {body:Nat->S->Option S} {n:Nat} {s0:S} (s:Nat->S) (h0:s 0=s0) (hn:n <= 9223372036854775807) (h:∀ i,i < n->body i (s i)=some (s (i + 1))):wCJ 0 (n:Int) body s0=some (s n):=by
 rw [wEc hn,<- h0]
 have:=wIE s n 0 fun i _ hi=>h i (by omega)
 rwa [nV] at this
theorem wKp {body:Nat->S->Option (S ⊕ B)} {n:Nat} {s0:S} (s:Nat->S) (h0:s 0=s0) (hn:n <= 9223372036854775807) (h:∀ i,i < n->body i (s i)=some (.inl (s (i + 1)))):wEg 0 (n:Int) body s0=some (.inl (s n)):=by
 rw [wDu hn,<- h0]
 have:=wJM s n 0 fun i _ hi=>h i (by omega)
 rwa [nV] at this
theorem wEd {body:Nat->Unit->Option (Unit ⊕ B)} {n:Nat} (hn:n <= 9223372036854775807) (h:∀ i,i < n->body i ()=some (.inl ())):wEg 0 (n:Int) body ()=some (.inl ()):=wKp (fun _=>()) rfl hn h
theorem wCZ [Inhabited α] {l:List α} {k:Nat} (h:k < l.length):idx l (k:Int)=some (gd l k):=by
 rw [wJt]
 exact wBy h
theorem wCQ [Inhabited α] {l:List α} {k:Nat} (h:k < l.length):gd l k ∈ l:=kK (wBy h)
theorem wGA [Inhabited α] {l:List α} {k:Nat} (h:k < l.length):l.take (k + 1)=l.take k ++ [gd l k]:=by
 rw [List.take_add_one,wBy h]
 rfl
theorem wLi [Inhabited α] {l:List α} {k:Nat} (h:k < l.length):l.drop k=gd l k :: l.drop (k + 1):=by
 have:=wBy h
 rw [nP h] at this
 rw [nw h,nU this]
theorem wDp [Inhabited α] {l m:List α} {k:Nat} (h:k < l.length):gd (l ++ m) k=gd l k:=by
 have h1:=wBy (xs:=l ++ m) (k:=k) (by rw [nN];omega)
 rw [nh h,wBy h] at h1
 exact (nU h1).symm
theorem wGQ [Inhabited α] (l m:List α) (x:α):gd (l ++ x :: m) l.length=x:=by
 have h1:=wBy (xs:=l ++ x :: m) (k:=l.length) (by simp)
 rw [nc (nQ _),Nat.sub_self] at h1
 exact (nU h1).symm
theorem wMo [Inhabited α] {l m:List α} (h:l.length=m.length) (hk:∀ k,k < l.length->gd l k=gd m k):l=m:=by
 apply kQ
 intro k
 rcases kA k l.length with h1 | h1
 ·rw [wBy h1,wBy (by omega),hk k h1]
 ·rw [nW h1,nW (by omega)]
end Go.KL
namespace Go.KL
variable {S B α:Type}
theorem wJN {body:S->Option (S ⊕ B)} (I:Nat->S->Prop) (Z:B->Prop) (m:Nat) (step:∀ i s,i <= m->I i s->(i < m/\∃ s',body s=some (.inl s')/\I (i + 1) s') \/ ∃ b,body s=some (.inr b)/\Z b) {s0:S} (h0:I 0 s0) (hm:m < 1000000):∃ b,iter body big s0=some b/\Z b:=by
 have key:∀ (d i:Nat) (s:S),i + d=m->I i s->∀ F,d < F->∃ b,iter body F s=some b/\Z b:=by
  intro d
  induction d with
  | zero =>
   intro i s hi hI F hF
   obtain ⟨F,rfl⟩:∃ G,F=G + 1:=⟨F - 1,by omega⟩
   rcases step i s (by omega) hI with ⟨h,_⟩ | ⟨b,h1,h2⟩
   ·omega
   ·exact ⟨b,by rw [iter,h1],h2⟩
  | succ d ih =>
   intro i s hi hI F hF
   obtain ⟨F,rfl⟩:∃ G,F=G + 1:=⟨F - 1,by omega⟩
   rcases step i s (by omega) hI with ⟨_,s',h1,h2⟩ | ⟨b,h1,h2⟩
   ·obtain ⟨b,h3,h4⟩:=ih (i + 1) s' (by omega) h2 F (by omega)
    exact ⟨b,by rw [iter,h1];exact h3,h4⟩
   ·exact ⟨b,by rw [iter,h1],h2⟩
 exact key m 0 s0 (by omega) h0 big (by unfold big;omega)
theorem wIi {body:S->Option (S ⊕ B)} (I:Nat->S->Prop) {b:B} (m:Nat) {s0:S} (h0:I 0 s0) (hm:m < 1000000) (step:∀ i s,i <= m->I i s->(i < m/\∃ s',body s=some (.inl s')/\I (i + 1) s') \/ body s=some (.inr b)):iter body big s0=some b:=by
 obtain ⟨c,h1,h2⟩:=wJN (body:=body) I (fun c=>c=b) m (fun i s hi hI=>by
  rcases step i s hi hI with h | h
  ·exact .inl h
  ·exact .inr ⟨b,h,rfl⟩) h0 hm
 rw [h1,h2]
theorem wHM [Inhabited α] {l:List α} {i k:Nat} {x:α} (hi:i < l.length) (hk:k < l.length):gd (l.set i x) k=if k=i then x else gd l k:=by
 have h1:=wBy (xs:=l.set i x) (k:=k) (by rw [nM];exact hk)
 rw [List.getElem?_set] at h1
 by_cases e:i=k
 ·subst e
  rw [if_pos rfl,if_pos hi] at h1
  rw [if_pos rfl]
  exact (nU h1).symm
 ·rw [if_neg e,wBy hk] at h1
  rw [if_neg (fun h=>e h.symm)]
  exact (nU h1).symm
theorem wIF [Inhabited α] {l:List α} {k:Nat} (h:k < l.length):gd l k=l[k]:=by
 have:=wBy h
 rw [nP h] at this
 exact (nU this).symm
theorem wKq [Inhabited α] {l:List α} (hl:l.length <= 100000):iter (fun (l11,x12,x13) =>
  if x12 < x13 then
   (chk x13 l11.length).bind fun _ =>
   (chk x12 l11.length).bind fun _ =>
   (chk x13 (nD l11 x12.toNat (gd l11 x13.toNat)).length).bind fun _ =>
   some (.inl ((nD (nD l11 x12.toNat (gd l11 x13.toNat)) x13.toNat (gd l11 x12.toNat)),w64 (x12 + 1),w64 (x13 - 1)))
  else
   esc (some l11)) big (l,(0:Int),w64 ((↑l.length:Int) - 1))=some l.reverse:=by
 obtain ⟨b,h1,h2⟩:=wJN (S:=List α × Int × Int) (B:=List α) (body:=fun (l11,x12,x13) =>
  if x12 < x13 then
   (chk x13 l11.length).bind fun _ =>
   (chk x12 l11.length).bind fun _ =>
   (chk x13 (nD l11 x12.toNat (gd l11 x13.toNat)).length).bind fun _ =>
   some (.inl ((nD (nD l11 x12.toNat (gd l11 x13.toNat)) x13.toNat (gd l11 x12.toNat)),w64 (x12 + 1),w64 (x13 - 1)))
  else
   esc (some l11))
  (fun i s=>s.1.length=l.length/\s.2.1=i/\s.2.2=(l.length:Int) - 1 - i/\∀ k,k < l.length->gd s.1 k=if k < i \/ l.length - i <= k then gd l (l.length - 1 - k) else gd l k) (fun b=>b=l.reverse) (l.length / 2)
  (by
   rintro i ⟨c,a,b⟩ hi ⟨g1,g2,g3,g4⟩
   simp only at g1 g2 g3 g4
   subst g2 g3
   by_cases hlt:i < l.length / 2
   ·left
    refine ⟨hlt,?_⟩
    have hA:((i:Int)).toNat=i:=by omega
    have hB:((l.length:Int) - 1 - i).toNat=l.length - 1 - i:=by omega
    refine ⟨((c.set i (gd c (l.length - 1 - i))).set (l.length - 1 - i) (gd c i),(i:Int) + 1,(l.length:Int) - 1 - i - 1),?_,?_,by simp,by show (l.length:Int) - 1 - i - 1=_;omega,fun k hk=>?_⟩
    ·simp only
     rw [if_pos (by omega),wDN (by omega) (by omega),hD,wDN (by omega) (by omega),hD,nM,wDN (by omega) (by omega),hD,hA,hB,wAU (by omega) (by omega),wAU (by omega) (by omega)]
    ·simp only [nM];exact g1
    ·simp only
     rw [wHM (by rw [nM];omega) (by rw [nM];omega),wHM (by omega) (by omega)]
     by_cases e1:k=l.length - 1 - i
     ·rw [if_pos e1,if_pos (by omega),g4 i (by omega),if_neg (by omega)]
      congr 1
      omega
     ·rw [if_neg e1]
      by_cases e2:k=i
      ·rw [if_pos e2,if_pos (by omega),g4 _ (by omega),if_neg (by omega)]
       congr 1
       omega
      ·rw [if_neg e2,g4 k hk]
       by_cases e3:k < i \/ l.length - i <= k
       ·rw [if_pos e3,if_pos (by omega)]
       ·rw [if_neg e3,if_neg (by omega)]
   ·right
    refine ⟨c,by simp only;rw [if_neg (by omega)];rfl,?_⟩
    apply kQ
    intro k
    rcases kA k l.length with hk | hk
    ·rw [wBy (by omega),List.getElem?_reverse hk,wBy (by omega),g4 k hk]
     congr 1
     split
     ·rfl
     ·congr 1
      omega
    ·rw [nW (by omega),nW (by rw [List.length_reverse];omega)])
  (s0:=(l,0,w64 ((↑l.length:Int) - 1))) ⟨rfl,rfl,by show w64 _=_;rw [wAU (by omega) (by omega)];omega,fun k hk=>by rw [if_neg (by omega)]⟩ (by omega)
 rw [h1,h2]
end Go.KL
namespace Go.Proofs.Ytlnfbjphfoipaaa
open Go.KL Go.KL.Net
structure wLj (n:Nat) (e:wAX):Prop where
 f0:0 <= e.from_
 f1:e.from_ < n
 t0:0 <= e.to_
 t1:e.to_ < n
 c0:-400000 <= e.count
 c1:e.count <= 400000
def ed (p:Bool) (e:wAX):Ed:=if p then ⟨e.to_.toNat,e.from_.toNat,e.count⟩ else ⟨e.from_.toNat,e.to_.toNat,e.count⟩
abbrev SS:=List Int × List Int × Int
def spB (es:List wAX) (p2:Bool):Nat->SS->Option SS:=fun k1375 (l1372,l1373,x1374) =>
      ((idx es (↑k1375:Int)).bind fun x1412 =>
      if p2=true then
        (chk x1412.to_ l1372.length).bind fun _ =>
        if (gd l1372 x1412.to_.toNat) < 1125899906842624 then
          (chk x1412.from_ l1372.length).bind fun _ =>
          if (w64 ((gd l1372 x1412.to_.toNat) + x1412.count)) < (gd l1372 x1412.from_.toNat) then
            ((chk x1412.from_ l1373.length).bind fun _ =>
            some ()).bind fun _ =>
            some ((nD l1372 x1412.from_.toNat (w64 ((gd l1372 x1412.to_.toNat) + x1412.count))),(nD l1373 x1412.from_.toNat (↑k1375:Int)),x1412.from_)
          else
            some (l1372,l1373,x1374)
        else
          some (l1372,l1373,x1374)
      else
        (chk x1412.from_ l1372.length).bind fun _ =>
        if (gd l1372 x1412.from_.toNat) < 1125899906842624 then
          (chk x1412.to_ l1372.length).bind fun _ =>
          if (w64 ((gd l1372 x1412.from_.toNat) + x1412.count)) < (gd l1372 x1412.to_.toNat) then
            ((chk x1412.to_ l1373.length).bind fun _ =>
            some ()).bind fun _ =>
            some ((nD l1372 x1412.to_.toNat (w64 ((gd l1372 x1412.from_.toNat) + x1412.count))),(nD l1373 x1412.to_.toNat (↑k1375:Int)),x1412.to_)
          else
            some (l1372,l1373,x1374)
        else
          some (l1372,l1373,x1374)).bind fun (l1406,l1407,x1408) =>
      some (l1406,l1407,x1408)
theorem wKJ {n:Nat} {es:List wAX} (hes:∀ e ∈ es,wLj n e) {p:Bool} {k:Nat} (hk:k < es.length) {far by_:List Int} {last:Int} (hf:far.length=n) (hb:by_.length=n) {M:Int} (hM:M <= 1000000000000000) (h0:0 <= M) (hr:∀ v,v < n->gd far v=1125899906842624 \/ (-M <= gd far v/\gd far v <= M)) :
  (ed p (gd es k)).a < n/\(ed p (gd es k)).b < n /\
  spB es p k (far,by_,last)=some (if gd far (ed p (gd es k)).a < 1125899906842624/\gd far (ed p (gd es k)).a + (ed p (gd es k)).c < gd far (ed p (gd es k)).b then
   (far.set (ed p (gd es k)).b (gd far (ed p (gd es k)).a + (ed p (gd es k)).c),by_.set (ed p (gd es k)).b (k:Int),((ed p (gd es k)).b:Int)) else (far,by_,last)):=by
 obtain ⟨f0,f1,t0,t1,c0,c1⟩:=hes _ (wCQ hk)
 have hw:∀ a:Int,0 <= a->a < n->gd far a.toNat < 1125899906842624->w64 (gd far a.toNat + (gd es k).count)=gd far a.toNat + (gd es k).count:=fun a h1 h2 h3=>by
  rcases hr a.toNat (by omega) with c | c
  ·omega
  ·exact wAU (by omega) (by omega)
 unfold spB ed
 rw [wCZ hk]
 cases p with
 | true =>
  refine ⟨by simp only [if_true];omega,by simp only [if_true];omega,?_⟩
  simp only [hD,if_true]
  rw [wDN t0 (by omega),hD]
  by_cases a:gd far (gd es k).to_.toNat < 1125899906842624
  ·rw [if_pos a,wDN f0 (by omega),hD,hw _ t0 t1 a]
   by_cases b:gd far (gd es k).to_.toNat + (gd es k).count < gd far (gd es k).from_.toNat
   ·rw [if_pos b,wDN f0 (by omega),if_pos ⟨a,b⟩]
    simp only [hD]
    rw [show (((gd es k).from_.toNat:Nat):Int)=(gd es k).from_ by omega]
   ·rw [if_neg b,if_neg (fun h=>b h.2)];rfl
  ·rw [if_neg a,if_neg (fun h=>a h.1)];rfl
 | false =>
  refine ⟨by simp only [nK,if_false];omega,by simp only [nK,if_false];omega,?_⟩
  simp only [hD,nK,if_false]
  rw [wDN f0 (by omega),hD]
  by_cases a:gd far (gd es k).from_.toNat < 1125899906842624
  ·rw [if_pos a,wDN t0 (by omega),hD,hw _ f0 f1 a]
   by_cases b:gd far (gd es k).from_.toNat + (gd es k).count < gd far (gd es k).to_.toNat
   ·rw [if_pos b,wDN t0 (by omega),if_pos ⟨a,b⟩]
    simp only [hD]
    rw [show (((gd es k).to_.toNat:Nat):Int)=(gd es k).to_ by omega]
   ·rw [if_neg b,if_neg (fun h=>b h.2)];rfl
  ·rw [if_neg a,if_neg (fun h=>a h.1)];rfl
structure Ps (n:Nat) (es:List wAX) (p:Bool) (far:List Int) (M:Int) (i:Nat) (s:SS):Prop where
 fl:s.1.length=n
 bl:s.2.1.length=n
 rg:∀ v,v < n->gd s.1 v=1125899906842624 \/ (-(M + 400000 * (i:Int)) <= gd s.1 v/\gd s.1 v <= M + 400000 * (i:Int))
 le:∀ v,v < n->gd s.1 v <= gd far v
 ch:(s.2.2=-1/\s.1=far/\∀ e ∈ es.take i,gd far (ed p e).a < 1125899906842624->gd far (ed p e).b <= gd far (ed p e).a + (ed p e).c) \/ (0 <= s.2.2/\s.2.2 < n/\∃ v,v < n/\gd s.1 v < gd far v)
 fe:∀ x,wGO (es.map (ed p)) x->(∀ v,v < n->x v <= gd far v)->∀ v,v < n->x v <= gd s.1 v
 st:∀ δ,wGO (es.map (ed p)) δ->(∀ v,v < n->δ v <= gd far v)->(∀ v,v < n->δ v < 1125899906842624)->∀ e ∈ es.take i,gd far (ed p e).a=δ (ed p e).a->δ (ed p e).b=δ (ed p e).a + (ed p e).c->gd s.1 (ed p e).b=δ (ed p e).b
theorem wKK {n:Nat} {es:List wAX} (hes:∀ e ∈ es,wLj n e) (hl:es.length <= 1000) (p:Bool) {far by_:List Int} (hf:far.length=n) (hb:by_.length=n) {M:Int} (hM:M <= 900000000000000) (h0:0 <= M) (hr:∀ v,v < n->gd far v=1125899906842624 \/ (-M <= gd far v/\gd far v <= M)) :
  ∃ s,wCJ 0 (↑es.length:Int) (spB es p) (far,by_,-1)=some s/\Ps n es p far M es.length s:=by
 rw [wEc (by omega)]
 obtain ⟨s,e,P⟩:=wFC (body:=spB es p) (fun i s=>Ps n es p far M i s) es.length 0 (far,by_,-1)
  ⟨hf,hb,fun v hv=>by have:=hr v hv;simp only;omega,fun _ _=>nm _,.inl ⟨rfl,rfl,fun e he=>by simp at he⟩,fun _ _ h=>h,fun _ _ _ _ e he=>by simp at he⟩ (by
  rintro i ⟨f,b,last⟩ _ hi P
  have hi':i < es.length:=by omega
  obtain ⟨fl,bl,rg,le,ch,fe,st⟩:=P
  simp only at fl bl rg le ch fe st
  obtain ⟨ha,hbb,e⟩:=wKJ hes (p:=p) hi' (last:=last) fl bl (M:=M + 400000 * (i:Int)) (by omega) (by omega) rg
  have hm:=wCQ hi'
  have hok:=hes _ hm
  have hc:-400000 <= (ed p (gd es i)).c/\(ed p (gd es i)).c <= 400000:=by
   have:=hok.c0;have:=hok.c1
   unfold ed
   split <;> exact ⟨by assumption,by assumption⟩
  have hfe:∀ x,wGO (es.map (ed p)) x->x (ed p (gd es i)).b <= x (ed p (gd es i)).a + (ed p (gd es i)).c:=fun x hx=>hx _ (nS.2 ⟨_,hm,rfl⟩)
  have hends:∀ e ∈ es.take i,(ed p e).a < n/\(ed p e).b < n:=fun e he=>by
   obtain ⟨a1,a2,a3,a4,_,_⟩:=hes e (List.mem_of_mem_take he)
   unfold ed
   split <;> (simp only;omega)
  generalize hE:ed p (gd es i)=E at ha hbb e hc hfe
  rw [e]
  by_cases c:gd f E.a < 1125899906842624/\gd f E.a + E.c < gd f E.b
  ·rw [if_pos c]
   obtain ⟨c1,c2⟩:=c
   have rga:-(M + 400000 * (i:Int)) <= gd f E.a/\gd f E.a <= M + 400000 * (i:Int):=by
    rcases rg E.a ha with q | q
    ·omega
    ·exact q
   have hg:∀ v,v < n->gd (f.set E.b (gd f E.a + E.c)) v=if v=E.b then gd f E.a + E.c else gd f v:=fun v hv=>wHM (by omega) (by omega)
   refine ⟨_,rfl,by simp [fl],by simp [bl],fun v hv=>?_,fun v hv=>?_,.inr ⟨by simp only;omega,by simp only;omega,E.b,hbb,?_⟩,fun x hx hxt v hv=>?_,fun δ hδ h1 h2 e' he' g1 g2=>?_⟩
   ·simp only
    rw [hg v hv]
    split
    ·right;omega
    ·rcases rg v hv with q | q
     ·exact .inl q
     ·right;omega
   ·simp only
    rw [hg v hv]
    split
    ·rename_i h;have:=le E.b hbb;rw [h];omega
    ·exact le v hv
   ·simp only
    rw [hg _ hbb,if_pos rfl]
    have:=le E.b hbb
    omega
   ·simp only
    rw [hg v hv]
    have:=fe x hx hxt
    split
    ·rename_i h
     have a1:=this E.a ha
     have a2:=hfe x hx
     rw [h];omega
    ·exact this v hv
   ·have lo:=fe δ hδ h1
    simp only
    rw [wGA hi'] at he'
    rcases nT.1 he' with he' | he'
    ·have old:=st δ hδ h1 h2 e' he' g1 g2
     rw [hg _ (hends e' he').2]
     split
     ·rename_i h
      have a1:=lo E.a ha
      have a2:=hfe δ hδ
      rw [h] at old ⊢
      omega
     ·exact old
    ·have:=nL.1 he'
     subst this
     rw [hE] at g1 g2 ⊢
     rw [hg _ hbb,if_pos rfl]
     have a1:=lo E.a ha
     have a2:=le E.a ha
     omega
  ·rw [if_neg c]
   refine ⟨_,rfl,fl,bl,fun v hv=>?_,le,?_,fe,fun δ hδ h1 h2 e' he' g1 g2=>?_⟩
   ·rcases rg v hv with q | q
    ·exact .inl q
    ·right;simp only;omega
   ·simp only
    rcases ch with ⟨q1,q2,q3⟩ | q
    ·refine .inl ⟨q1,q2,fun e' he' g=>?_⟩
     rw [wGA hi'] at he'
     rcases nT.1 he' with he' | he'
     ·exact q3 e' he' g
     ·have:=nL.1 he'
      subst this
      rw [hE] at g ⊢
      rw [q2] at c
      rcases kP (gd far E.a + E.c) (gd far E.b) with d | d
      ·exact absurd ⟨g,d⟩ c
      ·exact d
    ·exact .inr q
   ·have lo:=fe δ hδ h1
    rw [wGA hi'] at he'
    rcases nT.1 he' with he' | he'
    ·exact st δ hδ h1 h2 e' he' g1 g2
    ·have:=nL.1 he'
     subst this
     rw [hE] at g1 g2 ⊢
     simp only
     have a1:=lo E.a ha
     have a2:=le E.a ha
     have a3:=lo E.b hbb
     have a4:=h2 E.a ha
     have fa:gd f E.a=δ E.a:=by omega
     rw [fa] at c
     rcases kP (δ E.a + E.c) (gd f E.b) with d | d
     ·exact absurd ⟨a4,d⟩ c
     ·omega)
 rw [nV] at P
 exact ⟨s,e,P⟩
end Go.Proofs.Ytlnfbjphfoipaaa
namespace Go.Proofs.Ytlnfbjphfoipaaa
open Go.KL Go.KL.Net
theorem wFG {α:Type} [Inhabited α] (l:List α) (k:Nat):gd l k=(l[k]?).getD default:=by unfold gd;rw [List.getD_eq_getElem?_getD]
theorem wKL {α:Type} {m ys:List α} {a:Nat} (h:a <= m.length):(cpy m a ys).length=m.length:=by
 unfold cpy
 simp only [nN,nE,nj]
 omega
theorem wLP {α:Type} [Inhabited α] {m ys:List α} {a j:Nat} (h:a <= m.length) (hj:j < m.length):gd (cpy m a ys) j=if j < a then gd m j else if j < a + ys.length then gd ys (j - a) else gd m j:=by
 rw [wFG,wFG,wFG]
 unfold cpy
 rw [nv]
 by_cases c:j < a
 ·rw [if_pos c,nh (by rw [nE];omega),nn,if_pos c]
 ·rw [if_neg c,nc (by rw [nE];omega),nE,Nat.min_eq_left h]
  by_cases d:j < a + ys.length
  ·rw [if_pos d,nh (by rw [nE];omega),nn,if_pos (by omega)]
  ·rw [if_neg d,nc (by rw [nE];omega),nE,List.getElem?_drop,Nat.min_eq_right (by omega)]
   congr 2
   omega
theorem wFl (x:Int) {n:Nat} (h1:1 <= n) (h2:n <= 1000):wBH [x] (n:Int)=some (hJ n x):=by
 unfold wBH wDT
 have e1:wKd (([x]:List Int).length:Int)=1:=rfl
 have e2:wKd (n:Int)=n:=by unfold wKd;omega
 rw [if_neg (by omega),e1,e2,if_pos (by omega),hD]
 simp only
 rw [show (1:Int) * (n:Int) / 18446744073709551616=0 by omega,show (1:Int) * (n:Int) % 18446744073709551616=n by omega,if_neg (by omega),hD,decide_eq_false (by omega),if_neg (by simp),wAU (by omega) (by omega),mkz,if_pos (by omega),hD,wKf,if_pos (by simp),hD]
 have hlen:(hJ (n:Int).toNat (0:Int)).length=n:=by simp
 generalize hJ (n:Int).toNat (0:Int)=z at hlen
 have e3:((min ([x]:List Int).length z.length:Nat):Int)=1:=by simp only [nX];omega
 refine wIi (I:=fun i (s:List Int × Int)=>s.1.length=n/\(i:Int) + 1 <= s.2/\s.2 <= n/\∀ j,j < s.2.toNat->gd s.1 j=x) n ⟨by rw [wKL (by simp)];exact hlen,by simp only;omega,by simp only;omega,fun j hj=>?_⟩ (by omega) ?_
 ·simp only at hj ⊢
  rw [wLP (by simp) (by omega),if_neg (by simp),if_pos (by simp only [nX];omega)]
  have:j=0:=by omega
  subst this
  rfl
 ·rintro i ⟨l,k⟩ hi ⟨q1,q2,q3,q4⟩
  simp only at q1 q2 q3 q4 ⊢
  by_cases c:k < (l.length:Int)
  ·left
   refine ⟨by omega,?_⟩
   have hd:(List.take ((l.length:Int).toNat - k.toNat) (List.drop k.toNat l)).length=l.length - k.toNat:=by
    rw [nE,nj];omega
   have ht:(List.take (k.toNat - (0:Int).toNat) (List.drop (0:Int).toNat l))=l.take k.toNat:=by simp
   rw [if_pos c,cut,if_pos (by omega),hD,cut,if_pos (by omega),hD,wKf,if_pos (by omega),hD,ht,hd,nE]
   rw [wAU (by omega) (by omega)]
   refine ⟨_,rfl,by simp only;rw [wKL (by omega)];exact q1,by simp only;omega,by simp only;omega,fun j hj=>?_⟩
   simp only at hj ⊢
   rw [wLP (by omega) (by omega),nE]
   by_cases d:j < k.toNat
   ·rw [if_pos d];exact q4 j d
   ·rw [if_neg d,if_pos (by omega)]
    have:=q4 (j - k.toNat) (by omega)
    rw [wFG] at this ⊢
    rw [nn,if_pos (by omega)]
    exact this
  ·right
   rw [if_neg c,wKe]
   have:l=hJ n x:=wMo (by simp [q1]) fun j hj=>by
    rw [q4 j (by omega),wIF (by simpa [q1] using hj)];simp
   rw [this]
def wGG (i:Int) (v:Nat):Int:=if i < 0 \/ (v:Int)=i then 0 else 1125899906842624
theorem wLQ (i:Int) (v:Nat):0 <= wGG i v/\wGG i v <= 1125899906842624:=by unfold wGG;split <;> omega
theorem wKM {n:Nat} (i:Int) {l:List Int} (hl:l.length=n) (hn:n <= 1000) (h0:∀ v,v < n->gd l v=1125899906842624):∃ y,(wCJ 0 (↑l.length:Int) (fun k1254 l1253 =>
  if i < 0 then
   (chk (↑k1254:Int) l1253.length).bind fun _ =>
   some (nD l1253 k1254 0)
  else
   if (↑k1254:Int)=i then
    (chk (↑k1254:Int) l1253.length).bind fun _ =>
    some (nD l1253 k1254 0)
   else
    some l1253) l)=some y/\y.length=n/\∀ v,v < n->gd y v=wGG i v:=by
 rw [wEc (by omega)]
 obtain ⟨y,e,y1,y2⟩:=wFC (body:=fun (k1254:Nat) (l1253:List Int) =>
  if i < 0 then
   (chk (↑k1254:Int) l1253.length).bind fun _ =>
   some (nD l1253 k1254 0)
  else
   if (↑k1254:Int)=i then
    (chk (↑k1254:Int) l1253.length).bind fun _ =>
    some (nD l1253 k1254 0)
   else
    some l1253) (fun k s=>s.length=n/\∀ v,v < n->gd s v=if v < k then wGG i v else 1125899906842624) l.length 0 l ⟨hl,fun v hv=>by rw [if_neg (by omega)];exact h0 v hv⟩ (by
  rintro k s _ hk ⟨s1,s2⟩
  have hk':k < n:=by omega
  have hset:∀ v,v < n->gd (s.set k 0) v=if v=k then 0 else gd s v:=fun v hv=>wHM (by omega) (by omega)
  by_cases c:i < 0 \/ (k:Int)=i
  ·have hb:(if i < 0 then (chk (↑k:Int) s.length).bind fun _=>some (nD s k 0) else if (↑k:Int)=i then (chk (↑k:Int) s.length).bind fun _=>some (nD s k 0) else some s)=some (s.set k 0):=by
    rw [wDN (by omega) (by omega)]
    rcases c with c | c
    ·rw [if_pos c];rfl
    ·rw [if_pos c]
     split <;> rfl
   refine ⟨_,hb,by simp [s1],fun v hv=>?_⟩
   rw [hset v hv]
   by_cases e:v=k
   ·subst e
    rw [if_pos rfl,if_pos (by omega),wGG,if_pos c]
   ·rw [if_neg e,s2 v hv]
    by_cases d:v < k
    ·rw [if_pos d,if_pos (by omega)]
    ·rw [if_neg d,if_neg (by omega)]
  ·refine ⟨s,by rw [if_neg (fun h=>c (.inl h)),if_neg (fun h=>c (.inr h))],s1,fun v hv=>?_⟩
   rw [s2 v hv]
   by_cases d:v < k
   ·rw [if_pos d,if_pos (by omega)]
   ·by_cases e:v=k
    ·subst e
     rw [if_neg (by omega),if_pos (by omega),wGG,if_neg c]
    ·rw [if_neg d,if_neg (by omega)])
 rw [nV] at y2
 exact ⟨y,e,y1,fun v hv=>by rw [y2 v hv,if_pos (by omega)]⟩
structure SpT (n:Nat) (es:List Ed) (i:Int) (far:List Int):Prop where
 fl:far.length=n
 rl:∀ e ∈ es,gd far e.a < 1125899906842624->gd far e.b <= gd far e.a + e.c
 rg:∀ v,v < n->gd far v=1125899906842624 \/ (-400000000000 <= gd far v/\gd far v <= 400000000000)
 le:∀ v,v < n->gd far v <= wGG i v
 fe:∀ x,wGO es x->(∀ v,v < n->x v <= wGG i v)->∀ v,v < n->x v <= gd far v
structure SpI (n:Nat) (es:List Ed) (i:Int) (t:Nat) (s:SS):Prop where
 fl:s.1.length=n
 bl:s.2.1.length=n
 rg:∀ v,v < n->gd s.1 v=1125899906842624 \/ (-(400000000 * (t:Int)) <= gd s.1 v/\gd s.1 v <= 400000000 * (t:Int))
 le:∀ v,v < n->gd s.1 v <= wGG i v
 fe:∀ x,wGO es x->(∀ v,v < n->x v <= wGG i v)->∀ v,v < n->x v <= gd s.1 v
 st:∀ δ,Most n es (wGG i) δ->(∀ v,v < n->δ v < 1125899906842624)->t <= wMN n δ fun v=>gd s.1 v
 la:t=0 \/ (0 <= s.2.2/\s.2.2 < n)
theorem wIG {d:wAY} {n:Nat} (hn:d.number.length=n) (h1:1 <= n) (h2:n <= 500) (hes:∀ e ∈ d.edges,wLj n e) (hl:d.edges.length <= 1000) (i:Int) (p:Bool) :
  ∃ f last ok,wAZ d i p=some (f,last,ok)/\f.by_.length=n/\f.far.length=n/\(ok=true->SpT n (d.edges.map (ed p)) i f.far)/\(ok=false->0 <= last/\last < n/\∀ δ,Most n (d.edges.map (ed p)) (wGG i) δ->¬ ∀ v,v < n->δ v < 1125899906842624):=by
 unfold wAZ
 rw [hn,wFl _ h1 (by omega),hD,wFl _ h1 (by omega),hD,hD]
 simp only
 obtain ⟨y,e1,y1,y2⟩:=wKM (n:=n) i (l:=hJ n 1125899906842624) (by simp) (by omega) (fun v hv=>by rw [wIF (by simpa using hv)];simp)
 rw [e1,hD,wAU (by omega) (by omega)]
 have hn1:((n:Int) + 1)=((n + 1:Nat):Int):=by omega
 rw [hn1,wDu (by omega)]
 have hmap:∀ e ∈ d.edges.map (ed p),e.a < n/\e.b < n:=fun e he=>by
  obtain ⟨q,hq,rfl⟩:=nS.1 he
  obtain ⟨a1,a2,a3,a4,_,_⟩:=hes q hq
  unfold ed
  split <;> (simp only;omega)
 rcases wGP (B:=wAe × Int × Bool) (body:=fun (k1336:Nat) ((l1333,l1334,x1335):SS) =>
  (wCJ 0 (↑d.edges.length:Int) (spB d.edges p) (l1333,l1334,-1)).bind fun (y1380,y1381,y1382) =>
  if y1382 < 0 then
   esc (some ((⟨y1380,y1381⟩:wAe),0,true))
  else
   some (.inl (y1380,y1381,y1382))) (fun t s=>SpI n (d.edges.map (ed p)) i t s) (fun b=>b.2.2=true/\b.1.by_.length=n/\SpT n (d.edges.map (ed p)) i b.1.far) (n + 1) 0 (y,hJ n (-1),-1)
  ⟨y1,by simp,fun v hv=>by simp only;rw [y2 v hv];unfold wGG;split <;> omega,fun v hv=>by simp only;rw [y2 v hv];exact nm _,fun x _ hx v hv=>by simp only;rw [y2 v hv];exact hx v hv,fun _ _ _=>Nat.zero_le _,.inl rfl⟩ (by
   rintro t ⟨far,by_,last⟩ _ ht ⟨fl,bl,rg,le,fe,st,la⟩
   simp only at fl bl rg le fe st
   obtain ⟨⟨far',by',last'⟩,e,P⟩:=wKK hes hl p fl bl (M:=400000000 * (t:Int)) (by omega) (by omega) rg
   obtain ⟨gl,ql,qg,qle,ch,qfe,qst⟩:=P
   simp only at gl ql qg qle ch qfe qst
   simp only
   rw [e,hD]
   simp only
   rcases ch with ⟨c1,c2,c3⟩ | ⟨c1,c2,v,hv,c3⟩
   ·right
    subst c1
    rw [if_pos (by omega)]
    refine ⟨_,rfl,rfl,ql,gl,fun e' he' hlt=>?_,fun v hv=>?_,fun v hv=>Int.le_trans (qle v hv) (le v hv),fun x hx hxt v hv=>qfe x hx (fe x hx hxt) v hv⟩
    ·obtain ⟨q,hq,rfl⟩:=nS.1 he'
     simp only at hlt ⊢
     rw [c2] at hlt ⊢
     rw [nY] at c3
     exact c3 q hq hlt
    ·simp only
     rw [c2]
     rcases rg v hv with q | q
     ·exact .inl q
     ·right;omega
   ·left
    rw [if_neg (by omega)]
    refine ⟨_,rfl,gl,ql,fun v hv=>?_,fun v hv=>Int.le_trans (qle v hv) (le v hv),fun x hx hxt v hv=>qfe x hx (fe x hx hxt) v hv,fun δ M hδ=>?_,.inr ⟨c1,c2⟩⟩
    ·simp only
     rcases qg v hv with q | q
     ·exact .inl q
     ·right;omega
    ·have old:=st δ M hδ
     have lo:=fe δ M.ok M.le
     have lo':=qfe δ M.ok lo
     simp only
     obtain ⟨e',he',g1,g2,g3⟩:=M.tight hmap (fun u=>gd far u) (fun u hu=>le u hu) ⟨v,hv,by have:=lo' v hv;omega⟩ lo
     obtain ⟨q,hq,rfl⟩:=nS.1 he'
     rw [nY] at qst
     have h5:=qst δ M.ok lo hδ q hq g1 g3
     have:=wLh (n:=n) (δ:=δ) (low:=fun u=>gd far u) (low':=fun u=>gd far' u) lo' (fun u hu=>qle u hu) (hmap _ he').2 g2 h5
     omega) with ⟨⟨far,by_,last⟩,e,I⟩ | ⟨⟨f,last,ok⟩,e,h3,h4,h5⟩
 ·refine ⟨⟨far,by_⟩,last,false,?_,I.bl,I.fl,(fun h=>by cases h),fun _=>?_⟩
  ·show jn (forN _ (n + 1) 0 (y,hJ n (-1),-1)) _=_
   erw [e]
   rfl
  ·have hla:=I.la
   simp only at hla
   refine ⟨by omega,by omega,fun δ M hδ=>?_⟩
   have h6:0 + (n + 1) <= wMN n δ fun v=>gd far v:=I.st δ M hδ
   have:=wLg n δ fun v=>gd far v
   omega
 ·simp only at h3 h4 h5
  subst h3
  refine ⟨f,last,true,?_,h4,h5.fl,fun _=>h5,fun h=>by cases h⟩
  show jn (forN _ (n + 1) 0 (y,hJ n (-1),-1)) _=_
  erw [e]
  rfl
theorem SpT.fin {n:Nat} {R:Int} {es:List Ed} (C:Con n R es) (hc:∀ e ∈ es,e.c <= 400000) {i:Int} {far:List Int} (S:SpT n es i far) {k:Nat} (hk:k < n) (h0:wGG i k=0):∀ v,v < n->gd far v < 1125899906842624 :=
 C.all (fun v=>v < n->gd far v < 1125899906842624) k hk (fun _=>by have:=S.le k hk;omega) (fun e he h _=>by
  obtain ⟨h1,h2⟩:=C.ends e he
  have a:=h h1
  have b:=S.rl e he a
  have c:=hc e he
  rcases S.rg e.a h1 with q | q <;> omega) |> fun h v hv=>h v hv hv
theorem SpT.feas {n:Nat} {R:Int} {es:List Ed} (C:Con n R es) (hc:∀ e ∈ es,e.c <= 400000) {i:Int} {far:List Int} (S:SpT n es i far) {k:Nat} (hk:k < n) (h0:wGG i k=0):wGO es fun v=>gd far v :=
 fun e he=>S.rl e he (S.fin C hc hk h0 e.a (C.ends e he).1)
theorem SpT.isD {n:Nat} {R:Int} (hR:R <= 1000000000000) {es:List Ed} (C:Con n R es) (hc:∀ e ∈ es,e.c <= 400000) {i:Nat} (hi:i < n) {far:List Int} (S:SpT n es i far):IsD n es i fun v=>gd far v:=by
 have t0:wGG i i=0:=by unfold wGG;rw [if_pos (.inr rfl)]
 have F:=S.feas C hc hi t0
 have gr:∀ x,wGO es x->∀ v,v < n->x v - x i <= gd far v:=fun x hx v hv=>by
  have:=S.fe (fun u=>x u + (-(x i))) (wMn hx _) (fun u hu=>by
   show x u + (-(x i)) <= _
   have:=C.near x hx i u hi hu
   unfold wGG
   split
   ·rename_i h
    rcases h with h | h
    ·omega
    ·have:u=i:=by omega
     subst this;omega
   ·omega) v hv
  have this:x v + (-(x i)) <= gd far v:=this
  omega
 have h1:=gr _ F i hi
 have h2:=S.le i hi
 exact ⟨F,by show gd far i=0;omega,gr⟩
end Go.Proofs.Ytlnfbjphfoipaaa
namespace Go.KL
def wGK (q:Nat->Bool):Nat->Nat->Bool
 | 0,_=>true
 | m + 1,k=>q k && wGK q m (k + 1)
theorem wBO (q:Nat->Bool):∀ m k,wGK q m k=true ↔ ∀ i,k <= i->i < k + m->q i=true
 | 0,k=>⟨fun _ i h1 h2=>by omega,fun _=>rfl⟩
 | m + 1,k=>by
  rw [wGK,nB,wBO q m (k + 1)]
  constructor
  ·rintro ⟨h1,h2⟩ i h3 h4
   by_cases e:i=k
   ·exact e ▸ h1
   ·exact h2 i (by omega) (by omega)
  ·exact fun h=>⟨h k (by omega) (by omega),fun i h1 h2=>h i (by omega) (by omega)⟩
theorem wHN {q q':Nat->Bool}:∀ m k,(∀ i,k <= i->i < k + m->q i=q' i)->wGK q m k=wGK q' m k
 | 0,_,_=>rfl
 | m + 1,k,h=>by rw [wGK,wGK,h k (by omega) (by omega),wHN m (k + 1) fun i h1 h2=>h i (by omega) (by omega)]
end Go.KL
namespace Go.Proofs.Ytlnfbjphfoipaaa
open Go.KL Go.KL.Net
structure RC (r:wAC):Prop where
 n:1 <= r.Starts.length/\r.Starts.length <= 8
 m:r.Splits.length <= 7
 c:r.Clocks.length <= 4
 q:r.Readings.length <= 40
 st:∀ s ∈ r.Starts,0 <= s/\s <= 360000
 sp:∀ s ∈ r.Splits,s.Lo <= s.Hi/\0 <= s.Lo/\s.Hi <= 360000
 ck:∀ s ∈ r.Clocks,(s.Offset.Lo <= s.Offset.Hi/\-36000 <= s.Offset.Lo/\s.Offset.Hi <= 36000)/\0 <= s.Error/\s.Error <= 600
 rt:∀ x ∈ r.Readings,0 <= x.Time/\x.Time <= 360000
 ru:∀ x ∈ r.Readings,0 <= x.Skier/\x.Skier < r.Starts.length/\0 <= x.Mat/\x.Mat <= r.Splits.length/\0 <= x.Clock/\x.Clock < r.Clocks.length
def zp:wAH:=⟨-1,0⟩
def wEt (r:wAC) (p:wAH):Prop:=p=zp \/ (0 <= p.skier/\p.skier < r.Starts.length/\0 <= p.mat/\p.mat <= r.Splits.length) \/ (p.skier=-1/\1 <= p.mat/\p.mat <= r.Clocks.length)
def wDM (r:wAC) (x:wAD):Prop :=
 (x.Kind=0/\0 <= x.Skier/\x.Skier < r.Starts.length/\x.Index=0) \/ (x.Kind=1/\0 <= x.Skier/\x.Skier < r.Starts.length/\0 <= x.Index/\x.Index < r.Splits.length) \/
 (x.Kind=2/\x.Skier=0/\0 <= x.Index/\x.Index < r.Clocks.length) \/ (x.Kind=3/\x.Skier=0/\0 <= x.Index/\x.Index < r.Readings.length)
abbrev Pt:=wAH
def wEC (r:wAC) (x:wAD):Pt × Pt × Int × Int :=
 if x.Kind=0 then (zp,⟨x.Skier,0⟩,gd r.Starts x.Skier.toNat,-gd r.Starts x.Skier.toNat)
 else if x.Kind=1 then (⟨x.Skier,x.Index⟩,⟨x.Skier,x.Index + 1⟩,(gd r.Splits x.Index.toNat).Hi,-(gd r.Splits x.Index.toNat).Lo)
 else if x.Kind=2 then (zp,⟨-1,1 + x.Index⟩,-(gd r.Clocks x.Index.toNat).Offset.Lo,(gd r.Clocks x.Index.toNat).Offset.Hi)
 else (⟨-1,1 + (gd r.Readings x.Index.toNat).Clock⟩,⟨(gd r.Readings x.Index.toNat).Skier,(gd r.Readings x.Index.toNat).Mat⟩,(gd r.Readings x.Index.toNat).Time + (gd r.Clocks (gd r.Readings x.Index.toNat).Clock.toNat).Error,(gd r.Clocks (gd r.Readings x.Index.toNat).Clock.toNat).Error - (gd r.Readings x.Index.toNat).Time)
def wCS (r:wAC) (x:wAD):Pt × Pt × Int:=if x.Up=true then ((wEC r x).1,(wEC r x).2.1,(wEC r x).2.2.1) else ((wEC r x).2.1,(wEC r x).1,(wEC r x).2.2.2)
theorem wCR {α:Type} [Inhabited α] {l:List α} {i:Int} (h0:0 <= i) (h1:i < l.length):idx l i=some (gd l i.toNat):=by
 obtain ⟨k,rfl⟩:=kD h0
 rw [wCZ (by omega)]
 rfl
theorem wCm {α:Type} [Inhabited α] {l:List α} {i:Int} (h0:0 <= i) (h1:i < l.length):gd l i.toNat ∈ l:=wCQ (by omega)
theorem wHe {r:wAC} (C:RC r) {x:wAD} (h:wDM r x):wAw r x=some (wCS r x):=by
 unfold wAw wAt wDg wDh wDj wDk wDm wDn wDR wDS wBP wBN
 have hm:=C.m;have hc:=C.c;have hq:=C.q;have hn:=C.n
 rcases h with ⟨k,a,b,c⟩ | ⟨k,a,b,c,d⟩ | ⟨k,a,c,d⟩ | ⟨k,a,c,d⟩
 ·have g:=C.st _ (wCm a b)
  have e4:wEC r x=(zp,⟨x.Skier,0⟩,gd r.Starts x.Skier.toNat,-gd r.Starts x.Skier.toNat):=if_pos k
  have w:w64 (-gd r.Starts x.Skier.toNat)=-gd r.Starts x.Skier.toNat:=wAU (by omega) (by omega)
  rw [if_pos k,wCR a b]
  simp only [hD]
  rw [w]
  unfold wCS
  rw [e4]
  split <;> rfl
 ·have g:=C.sp _ (wCm c d)
  have e4:wEC r x=(⟨x.Skier,x.Index⟩,⟨x.Skier,x.Index + 1⟩,(gd r.Splits x.Index.toNat).Hi,-(gd r.Splits x.Index.toNat).Lo):=(if_neg (by omega)).trans (if_pos k)
  have w:w64 (-(gd r.Splits x.Index.toNat).Lo)=-(gd r.Splits x.Index.toNat).Lo:=wAU (by omega) (by omega)
  have w2:w64 (x.Index + 1)=x.Index + 1:=wAU (by omega) (by omega)
  rw [if_neg (by omega),if_pos k,wCR c d]
  simp only [hD]
  rw [w,w2]
  unfold wCS
  rw [e4]
  split <;> rfl
 ·have g:=C.ck _ (wCm c d)
  have e4:wEC r x=(zp,⟨-1,1 + x.Index⟩,-(gd r.Clocks x.Index.toNat).Offset.Lo,(gd r.Clocks x.Index.toNat).Offset.Hi):=(if_neg (by omega)).trans ((if_neg (by omega)).trans (if_pos k))
  have w:w64 (-(gd r.Clocks x.Index.toNat).Offset.Lo)=-(gd r.Clocks x.Index.toNat).Offset.Lo:=wAU (by omega) (by omega)
  have w2:w64 (1 + x.Index)=1 + x.Index:=wAU (by omega) (by omega)
  rw [if_neg (by omega),if_neg (by omega),if_pos k,wCR c d]
  simp only [hD]
  rw [w,w2]
  unfold wCS
  rw [e4]
  split <;> rfl
 ·have g:=C.rt _ (wCm c d)
  have u:=C.ru _ (wCm c d)
  have gc:=C.ck _ (wCm u.2.2.2.2.1 u.2.2.2.2.2)
  have e4:wEC r x=(⟨-1,1 + (gd r.Readings x.Index.toNat).Clock⟩,⟨(gd r.Readings x.Index.toNat).Skier,(gd r.Readings x.Index.toNat).Mat⟩,(gd r.Readings x.Index.toNat).Time + (gd r.Clocks (gd r.Readings x.Index.toNat).Clock.toNat).Error,(gd r.Clocks (gd r.Readings x.Index.toNat).Clock.toNat).Error - (gd r.Readings x.Index.toNat).Time):=(if_neg (by omega)).trans ((if_neg (by omega)).trans (if_neg (by omega)))
  rw [if_neg (by omega),if_neg (by omega),if_neg (by omega),if_pos k,wCR c d]
  simp only [hD]
  rw [wCR u.2.2.2.2.1 u.2.2.2.2.2]
  simp only [hD]
  generalize gd r.Readings x.Index.toNat=X at *
  generalize gd r.Clocks X.Clock.toNat=Y at *
  have w:w64 (X.Time + Y.Error)=X.Time + Y.Error:=wAU (by omega) (by omega)
  have w2:w64 (1 + X.Clock)=1 + X.Clock:=wAU (by omega) (by omega)
  have w3:w64 (Y.Error - X.Time)=Y.Error - X.Time:=wAU (by omega) (by omega)
  rw [w,w2,w3]
  unfold wCS
  rw [e4]
  split <;> rfl
theorem wDb {r:wAC} (C:RC r) {x:wAD} (h:wDM r x):wEt r (wCS r x).1/\wEt r (wCS r x).2.1/\-400000 <= (wCS r x).2.2/\(wCS r x).2.2 <= 400000:=by
 have key:wEt r (wEC r x).1/\wEt r (wEC r x).2.1/\(-400000 <= (wEC r x).2.2.1/\(wEC r x).2.2.1 <= 400000)/\(-400000 <= (wEC r x).2.2.2/\(wEC r x).2.2.2 <= 400000):=by
  have hn:=C.n
  unfold wEC
  rcases h with ⟨k,a,b,c⟩ | ⟨k,a,b,c,d⟩ | ⟨k,a,c,d⟩ | ⟨k,a,c,d⟩
  ·have g:=C.st _ (wCm a b)
   rw [if_pos k]
   exact ⟨.inl rfl,.inr (.inl ⟨a,b,by simp only;omega,by simp only;omega⟩),by simp only;omega,by simp only;omega⟩
  ·have g:=C.sp _ (wCm c d)
   rw [if_neg (by omega),if_pos k]
   exact ⟨.inr (.inl ⟨a,b,by simp only;omega,by simp only;omega⟩),.inr (.inl ⟨a,b,by simp only;omega,by simp only;omega⟩),by simp only;omega,by simp only;omega⟩
  ·have g:=C.ck _ (wCm c d)
   rw [if_neg (by omega),if_neg (by omega),if_pos k]
   exact ⟨.inl rfl,.inr (.inr ⟨rfl,by simp only;omega,by simp only;omega⟩),by simp only;omega,by simp only;omega⟩
  ·have g:=C.rt _ (wCm c d)
   have u:=C.ru _ (wCm c d)
   have gc:=C.ck _ (wCm u.2.2.2.2.1 u.2.2.2.2.2)
   rw [if_neg (by omega),if_neg (by omega),if_neg (by omega)]
   exact ⟨.inr (.inr ⟨rfl,by simp only;omega,by simp only;omega⟩),.inr (.inl ⟨u.1,u.2.1,u.2.2.1,u.2.2.2.1⟩),by simp only;omega,by simp only;omega⟩
 obtain ⟨h1,h2,h3,h4⟩:=key
 unfold wCS
 split
 ·exact ⟨h1,h2,h3⟩
 ·exact ⟨h2,h1,h4⟩
def two (kind skier i:Nat):List wAD:=[⟨kind,skier,i,true⟩,⟨kind,skier,i,false⟩]
def wIH (kind skier m:Nat):List wAD:=(nJ m).flatMap (two kind skier)
def skL (kind ns m:Nat):List wAD:=(nJ ns).flatMap fun s=>wIH kind s m
def wHf (r:wAC):List wAD:=skL 0 r.Starts.length 1 ++ (skL 1 r.Starts.length r.Splits.length ++ (skL 2 1 r.Clocks.length ++ skL 3 1 r.Readings.length))
theorem wLk {kind ns m:Nat} {x:wAD}:x ∈ skL kind ns m ↔ x.Kind=kind/\0 <= x.Skier/\x.Skier < ns/\0 <= x.Index/\x.Index < m:=by
 unfold skL wIH two
 simp only [List.mem_flatMap,kJ,np,List.not_mem_nil,or_false]
 constructor
 ·rintro ⟨s,hs,i,hi,rfl | rfl⟩ <;> exact ⟨rfl,by simp only;omega,by simp only;omega,by simp only;omega,by simp only;omega⟩
 ·rintro ⟨a,b,c,d,e⟩
  refine ⟨x.Skier.toNat,by omega,x.Index.toNat,by omega,?_⟩
  obtain ⟨k,s,i,u⟩:=x
  simp only at a b c d e
  subst a
  rw [nH b,nH d]
  cases u <;> simp
theorem wDV {r:wAC} {x:wAD}:x ∈ wHf r ↔ wDM r x:=by
 unfold wHf wDM
 simp only [nT,wLk]
 omega
theorem wLl (kind ns m:Nat):(skL kind ns m).length=2 * m * ns:=by
 unfold skL wIH
 rw [kM]
 have:∀ s:Nat,((nJ m).flatMap (two kind s)).length=2 * m:=fun s=>by
  rw [kM]
  have e:(nJ m).map (fun a=>(two kind s a).length)=hJ m 2:=by
   apply ny (by simp)
   intro i h1 h2
   simp [two]
  rw [e,kI]
  omega
 have e:(nJ ns).map (fun s=>((nJ m).flatMap (two kind s)).length)=hJ ns (2 * m):=by
  apply ny (by simp)
  intro i h1 h2
  simp [this]
 rw [e,kI,Nat.mul_comm]
theorem wII {r:wAC} (C:RC r):(wHf r).length <= 216:=by
 unfold wHf
 simp only [nN,wLl]
 have hm:=C.m;have hc:=C.c;have hq:=C.q;have hn:=C.n
 have h1:2 * r.Splits.length * r.Starts.length <= 14 * 8:=Nat.mul_le_mul (by omega) hn.2
 omega
section
variable {S E:Type}
def wHO (f:S->wAD->Option (S ⊕ E)):List wAD->S->Option (S ⊕ E)
 | [],s=>some (.inl s)
 | x :: l,s=>(f s x).bind fun y=>match y with
  | .inl s'=>wHO f l s'
  | .inr e=>some (.inr e)
theorem wJO (f:S->wAD->Option (S ⊕ E)):∀ (l m:List wAD) (s:S),wHO f (l ++ m) s=(wHO f l s).bind fun y=>match y with
  | .inl s'=>wHO f m s'
  | .inr e=>some (.inr e)
 | [],_,_=>rfl
 | x :: l,m,s=>by
  rw [kB,wHO,wHO]
  cases f s x with
  | none=>rfl
  | some y=>cases y with
   | inl s'=>exact wJO f l m s'
   | inr e=>rfl
def lif {B:Type} (k:E->B) (x:Option (S ⊕ E)):Option (S ⊕ B):=x.bind fun y=>match y with
 | .inl s=>some (.inl s)
 | .inr e=>some (.inr (k e))
theorem wGR {B:Type} (k:E->B) {body:Nat->S->Option (S ⊕ B)} {f:S->wAD->Option (S ⊕ E)} {L:Nat->List wAD}:∀ (m i:Nat) (s:S),(∀ j s,i <= j->j < i + m->body j s=lif k (wHO f (L j) s))->forN body m i s=lif k (wHO f ((List.range' i m).flatMap L) s)
 | 0,_,_,_=>rfl
 | m + 1,i,s,h=>by
  rw [forN,h i s (nQ _) (by omega),List.range'_succ,nu,wJO]
  cases wHO f (L i) s with
  | none=>rfl
  | some y=>cases y with
   | inl s'=>exact wGR k m (i + 1) s' fun j s h1 h2=>h j s (by omega) (by omega)
   | inr e=>rfl
theorem wLR {B:Type} (k:E->B) (x:Option (S ⊕ E)):jn (lif (fun e=>(.inr (k e):S ⊕ B)) x) (fun y=>some (.inl y))=lif k x:=by
 cases x with
 | none=>rfl
 | some y=>cases y <;> rfl
theorem wMp (x:Option (S ⊕ E)):jn (lif (fun e=>(.inr e:S ⊕ E)) x) (fun y=>some (.inl y))=x:=by
 cases x with
 | none=>rfl
 | some y=>cases y <;> rfl
theorem wMq (f:S->wAD->Option (S ⊕ E)) (kind skier i:Nat) (s:S):((f s (⟨(kind:Int),(skier:Int),(i:Int),true⟩:wAD)).bind fun yr141 =>
          match yr141 with
          | .inl s151 =>
            (f s151 (⟨(kind:Int),(skier:Int),(i:Int),false⟩:wAD)).bind fun yr154 =>
            match yr154 with
            | .inl s164 =>
              some (.inl s164)
            | .inr s164 =>
              esc (esc (esc (some (.inr s164))))
          | .inr s151 =>
            esc (esc (esc (some (.inr s151)))))=lif (fun e=>(.inr (.inr (.inr e)):S ⊕ (S ⊕ (S ⊕ E)))) (wHO f (two kind skier i) s):=by
  unfold two
  rw [wHO]
  cases f s (⟨(kind:Int),(skier:Int),(i:Int),true⟩:wAD) with
  | none=>rfl
  | some y=>cases y with
    | inr e=>rfl
    | inl s' =>
      simp only [hD]
      rw [wHO]
      cases f s' (⟨(kind:Int),(skier:Int),(i:Int),false⟩:wAD) with
      | none=>rfl
      | some y=>cases y <;> rfl
theorem wIJ (f:S->wAD->Option (S ⊕ E)) (s0:S) {r:wAC} (C:RC r):wBh f s0 r=wHO f (wHf r) s0:=by
  unfold wBh
  have hm:=C.m;have hc:=C.c;have hq:=C.q;have hn:=C.n
  have inner:∀ (kind skier m:Nat) (s:S),m <= 1000->(wEg 0 (m:Int) (fun k113 s111 =>
          (f s111 (⟨(kind:Int),(skier:Int),(↑k113:Int),true⟩:wAD)).bind fun yr141 =>
          match yr141 with
          | .inl s151 =>
            (f s151 (⟨(kind:Int),(skier:Int),(↑k113:Int),false⟩:wAD)).bind fun yr154 =>
            match yr154 with
            | .inl s164 =>
              some (.inl s164)
            | .inr s164 =>
              esc (esc (esc (some (.inr s164))))
          | .inr s151 =>
            esc (esc (esc (some (.inr s151))))) s)=lif (fun e=>(.inr (.inr (.inr e)):S ⊕ (S ⊕ (S ⊕ E)))) (wHO f (wIH kind skier m) s):=fun kind skier m s hm=>by
    rw [wDu (by omega),wGR (fun e=>(.inr (.inr (.inr e)):S ⊕ (S ⊕ (S ⊕ E)))) (f:=f) (L:=two kind skier) m 0 s fun j s _ _=>wMq f kind skier j s,<- kL]
    rfl
  have skier:∀ (kind ns m:Nat) (s:S),ns <= 1000->m <= 1000->(jn (wEg 0 (ns:Int) (fun k78 s76 =>
        jn (wEg 0 (m:Int) (fun k113 s111 =>
          (f s111 (⟨(kind:Int),(↑k78:Int),(↑k113:Int),true⟩:wAD)).bind fun yr141 =>
          match yr141 with
          | .inl s151 =>
            (f s151 (⟨(kind:Int),(↑k78:Int),(↑k113:Int),false⟩:wAD)).bind fun yr154 =>
            match yr154 with
            | .inl s164 =>
              some (.inl s164)
            | .inr s164 =>
              esc (esc (esc (some (.inr s164))))
          | .inr s151 =>
            esc (esc (esc (some (.inr s151))))) s76) fun y195 =>
        some (.inl y195)) s) fun y219 =>
      some (.inl y219))=lif (fun e=>(.inr e:S ⊕ E)) (wHO f (skL kind ns m) s):=fun kind ns m s hns hm=>by
    rw [wDu (by omega),wGR (fun e=>(.inr (.inr e):S ⊕ (S ⊕ E))) (f:=f) (L:=fun q=>wIH kind q m) ns 0 s fun j s _ _=>by rw [inner kind j m s hm,wLR],wLR,<- kL]
    rfl
  unfold wEg
  rw [if_pos (by omega)]
  show jn (forN _ 4 0 s0) _=_
  rw [wGR (fun e=>(.inr e:S ⊕ E)) (f:=f) (L:=fun k=>if k=0 then skL 0 r.Starts.length 1 else if k=1 then skL 1 r.Starts.length r.Splits.length else if k=2 then skL 2 1 r.Clocks.length else skL 3 1 r.Readings.length) 4 0 s0 fun j s _ hj=>?_,wMp]
  · congr 1
    show nR _ [0,1,2,3]=_
    simp only [nu,List.flatMap_nil,kF]
    rfl
  · have:j=0 \/ j=1 \/ j=2 \/ j=3:=by omega
    rcases this with rfl | rfl | rfl | rfl
    · exact skier 0 r.Starts.length 1 s (by omega) (by omega)
    · exact skier 1 r.Starts.length r.Splits.length s (by omega) (by omega)
    · exact skier 2 1 r.Clocks.length s (by omega) (by omega)
    · exact skier 3 1 r.Readings.length s (by omega) (by omega)
end
end Go.Proofs.Ytlnfbjphfoipaaa
namespace Go.Proofs.Ytlnfbjphfoipaaa
open Go.KL Go.KL.Net
def wEr:List Pt->Nat->List (Pt × Int)
 | [],_=>[]
 | p :: l,k=>(p,(k:Int)) :: wEr l (k + 1)
theorem wHg:∀ (l:List Pt) (k:Nat),(wEr l k).length=l.length
 | [],_=>rfl
 | _ :: l,k=>by rw [wEr,nA,nA,wHg l]
theorem wJP:∀ (l:List Pt) (p:Pt) (k:Nat),wEr (l ++ [p]) k=wEr l k ++ [(p,((k + l.length:Nat):Int))]
 | [],p,k=>by simp [wEr]
 | a :: l,p,k=>by
  rw [kB,wEr,wEr,wJP l p (k + 1),kB,nA]
  congr 4
  omega
theorem wJQ:∀ {l:List Pt} {k:Nat} {p:Pt},p ∉ l->wKa (wEr l k) p=none/\∀ v,wFv (wEr l k) p v=wEr l k ++ [(p,v)]
 | [],_,_,_=>⟨rfl,fun _=>rfl⟩
 | a :: l,k,p,h=>by
  rw [np,not_or] at h
  obtain ⟨h1,h2⟩:=wJQ (l:=l) (k:=k + 1) h.2
  refine ⟨by rw [wEr,wKa,if_neg h.1];exact h1,fun v=>?_⟩
  rw [wEr,wFv,if_neg h.1,h2 v];rfl
theorem wKN:∀ {l:List Pt} {k i:Nat},l.Nodup->i < l.length->wKa (wEr l k) (gd l i)=some ((k + i:Nat):Int)
 | a :: l,k,0,_,_=>by
  rw [wEr,wKa]
  exact if_pos rfl
 | a :: l,k,i + 1,nd,hi=>by
  rw [List.nodup_cons] at nd
  have hi':i < l.length:=by simpa using hi
  have e:gd (a :: l) (i + 1)=gd l i:=rfl
  have hne:gd l i ≠ a:=fun h=>nd.1 (h ▸ wCQ hi')
  rw [e,wEr,wKa,if_neg hne,wKN nd.2 hi']
  congr 2
  omega
def pos (pts:List Pt) (p:Pt):Nat:=(wAr (wEr pts 0) p 0).toNat
theorem wHP {α:Type} [Inhabited α] {l:List α} {a:α} (h:a ∈ l):∃ i,i < l.length/\gd l i=a:=by
 obtain ⟨i,hi,e⟩:=List.getElem_of_mem h
 exact ⟨i,hi,by rw [wIF hi,e]⟩
theorem wIK {pts:List Pt} (nd:pts.Nodup) {i:Nat} (hi:i < pts.length):pos pts (gd pts i)=i/\wAr (wEr pts 0) (gd pts i) 0=(i:Int)/\wJl (wEr pts 0) (gd pts i)=true:=by
 unfold pos wAr wJl
 rw [wKN nd hi]
 simp
theorem wGH {pts:List Pt} (nd:pts.Nodup) {p:Pt} (h:p ∈ pts):pos pts p < pts.length/\gd pts (pos pts p)=p/\wAr (wEr pts 0) p 0=(pos pts p:Int)/\wJl (wEr pts 0) p=true:=by
 obtain ⟨i,hi,rfl⟩:=wHP h
 obtain ⟨h1,h2,h3⟩:=wIK nd hi
 rw [h1]
 exact ⟨hi,rfl,h2,h3⟩
def wGj (pts:List Pt) (p:Pt):List Pt:=if p ∈ pts then pts else pts ++ [p]
theorem wIj {pts:List Pt} (nd:pts.Nodup) (p:Pt):(wGj pts p).Nodup:=by
 unfold wGj
 split
 ·exact nd
 ·rename_i h
  rw [List.nodup_append]
  exact ⟨nd,by simp,fun a ha b hb e=>h (by rw [nL.1 hb] at e;exact e ▸ ha)⟩
theorem wDq {pts:List Pt} {p q:Pt}:q ∈ wGj pts p ↔ q ∈ pts \/ q=p:=by
 unfold wGj
 split
 ·rename_i h
  exact ⟨.inl,fun e=>e.elim id fun e=>e ▸ h⟩
 ·rw [nT,nL]
theorem wJR (pts:List Pt) (p:Pt):pts.length <= (wGj pts p).length/\(wGj pts p).length <= pts.length + 1:=by
 unfold wGj
 split <;> simp
theorem wJS {pts:List Pt} (nd:pts.Nodup) {p q:Pt} (h:q ∈ pts):wAr (wEr (wGj pts p) 0) q 0=wAr (wEr pts 0) q 0:=by
 unfold wGj
 split
 ·rfl
 ·rename_i hp
  obtain ⟨i,hi,rfl⟩:=wHP h
  have e:gd (pts ++ [p]) i=gd pts i:=wDp hi
  have nd2:=wIj nd p
  unfold wGj at nd2
  rw [if_neg hp] at nd2
  rw [(wIK nd hi).2.1,<- e,(wIK nd2 (by rw [nN];omega)).2.1]
theorem wJT {pts:List Pt} (nd:pts.Nodup) (p:Pt):(if (wJl (wEr pts 0) p)=true then some (wEr pts 0) else some (wFv (wEr pts 0) p (↑((wEr pts 0).length):Int)))=some (wEr (wGj pts p) 0):=by
 by_cases h:p ∈ pts
 ·rw [if_pos (wGH nd h).2.2.2,wGj,if_pos h]
 ·have ho:=wJQ (k:=0) h
  have hn:¬ wJl (wEr pts 0) p=true:=by unfold wJl;rw [ho.1];simp
  rw [if_neg hn,ho.2,wGj,if_neg h,wJP,wHg,nV]
theorem wKO {pts:List Pt} {p:Pt} {i:Nat} (h:i < pts.length):gd (wGj pts p) i=gd pts i:=by
 unfold wGj
 split
 ·rfl
 ·exact wDp h
def mkE (r:wAC) (pts:List Pt) (x:wAD):wAX:=⟨x,wAr (wEr pts 0) (wCS r x).1 0,wAr (wEr pts 0) (wCS r x).2.1 0,(wCS r x).2.2⟩
structure Desk (r:wAC) (d:wAY) (pts:List Pt):Prop where
 c:RC r
 race:d.Race=r
 num:d.number=wEr pts 0
 nd:pts.Nodup
 len:1 <= pts.length/\pts.length <= 433
 zero:gd pts 0=zp
 all:∀ p,p ∈ pts ↔ wEt r p
 edges:d.edges=(wHf r).map (mkE r pts)
structure OpI (r:wAC) (pre:List wAD) (s:List wAX × List (Pt × Int)) (pts:List Pt):Prop where
 num:s.2=wEr pts 0
 nd:pts.Nodup
 len:1 <= pts.length/\pts.length <= 1 + 2 * pre.length
 zero:gd pts 0=zp
 ok:∀ p ∈ pts,wEt r p
 has:∀ x ∈ pre,(wCS r x).1 ∈ pts/\(wCS r x).2.1 ∈ pts
 edges:s.1=pre.map (mkE r pts)
def opF (r:wAC):List wAX × List (Pt × Int)->wAD->Option ((List wAX × List (Pt × Int)) ⊕ Empty):=fun (l1591,l1595) x1616 =>
  (wAw r x1616).bind fun (x1652,x1653,x1654) =>
  (wCJ 0 2 (fun k1692 l1689 =>
   (idx ([x1652,x1653]:List wAH) (↑k1692:Int)).bind fun x1718 =>
   if (wJl l1689 x1718)=true then
    some l1689
   else
    some (wFv l1689 x1718 (↑(l1689.length):Int))) l1595).bind fun y1697 =>
  (app 56 l1591 [(⟨x1616,(wAr y1697 x1652 0),(wAr y1697 x1653 0),x1654⟩:wAX)]).bind fun x1773 =>
  some (.inl (x1773,y1697))
theorem wMr {r:wAC} (C:RC r) {pre:List wAD} (hp:pre.length <= 216) {x:wAD} (hx:wDM r x) {s:List wAX × List (Pt × Int)} {pts:List Pt} (I:OpI r pre s pts):∃ s' pts',opF r s x=some (.inl s')/\OpI r (pre ++ [x]) s' pts':=by
 obtain ⟨es,num⟩:=s
 obtain ⟨hn,nd,hl,hz,ok,has,he⟩:=I
 simp only at hn he
 subst hn he
 obtain ⟨o1,o2,_,_⟩:=wDb C hx
 unfold opF
 simp only
 rw [wHe C hx,hD]
 have nd1:=wIj nd (wCS r x).1
 have nd2:=wIj nd1 (wCS r x).2.1
 have loop:(wCJ 0 2 (fun k1692 l1689 =>
   (idx ([(wCS r x).1,(wCS r x).2.1]:List wAH) (↑k1692:Int)).bind fun x1718 =>
   if (wJl l1689 x1718)=true then
    some l1689
   else
    some (wFv l1689 x1718 (↑(l1689.length):Int))) (wEr pts 0))=some (wEr (wGj (wGj pts (wCS r x).1) (wCS r x).2.1) 0):=by
  unfold wCJ
  rw [if_pos (by omega)]
  show forN' _ 2 0 (wEr pts 0)=_
  have i0:idx ([(wCS r x).1,(wCS r x).2.1]:List wAH) ((0:Nat):Int)=some (wCS r x).1:=rfl
  have i1:idx ([(wCS r x).1,(wCS r x).2.1]:List wAH) ((0 + 1:Nat):Int)=some (wCS r x).2.1:=rfl
  simp only [forN',i0,i1,hD]
  rw [wJT nd]
  simp only
  rw [wJT nd1]
 rw [loop,hD,wEq (by rw [List.length_map];simp only [nA,nG];omega),hD]
 have l1:=wJR pts (wCS r x).1
 have l2:=wJR (wGj pts (wCS r x).1) (wCS r x).2.1
 have same:∀ q ∈ pts,wAr (wEr (wGj (wGj pts (wCS r x).1) (wCS r x).2.1) 0) q 0=wAr (wEr pts 0) q 0:=fun q hq=>by
  rw [wJS nd1 (wDq.2 (.inl hq)),wJS nd hq]
 refine ⟨_,wGj (wGj pts (wCS r x).1) (wCS r x).2.1,rfl,rfl,nd2,⟨by omega,by rw [nN,nX];omega⟩,?_,fun p hp=>?_,fun y hy=>?_,?_⟩
 ·rw [wKO (by omega),wKO (by omega),hz]
 ·rcases wDq.1 hp with hp | rfl
  ·rcases wDq.1 hp with hp | rfl
   ·exact ok p hp
   ·exact o1
  ·exact o2
 ·rcases nT.1 hy with hy | hy
  ·obtain ⟨a,b⟩:=has y hy
   exact ⟨wDq.2 (.inl (wDq.2 (.inl a))),wDq.2 (.inl (wDq.2 (.inl b)))⟩
  ·have:=nL.1 hy
   subst this
   exact ⟨wDq.2 (.inl (wDq.2 (.inr rfl))),wDq.2 (.inr rfl)⟩
 ·simp only
  rw [List.map_append]
  congr 1
  refine List.map_congr_left fun y hy=>?_
  obtain ⟨a,b⟩:=has y hy
  unfold mkE
  rw [same _ a,same _ b]
theorem skip (r:wAC) (p:Pt) (h:wEt r p) (C:RC r):p=zp \/ ∃ x,wDM r x/\(wCS r x).2.1=p:=by
 rcases h with h | ⟨a,b,c,d⟩ | ⟨a,b,c⟩
 ·exact .inl h
 ·right
  by_cases e:p.mat=0
  ·refine ⟨⟨0,p.skier,0,true⟩,.inl ⟨rfl,a,b,rfl⟩,?_⟩
   show (⟨p.skier,0⟩:Pt)=p
   rw [<- e]
  ·refine ⟨⟨1,p.skier,p.mat - 1,true⟩,.inr (.inl ⟨rfl,a,b,by simp only;omega,by simp only;omega⟩),?_⟩
   show (⟨p.skier,p.mat - 1 + 1⟩:Pt)=p
   rw [nO]
 ·right
  refine ⟨⟨2,0,p.mat - 1,true⟩,.inr (.inr (.inl ⟨rfl,rfl,by simp only;omega,by simp only;omega⟩)),?_⟩
  show (⟨-1,1 + (p.mat - 1)⟩:Pt)=p
  rw [<- a,ni,nO]
theorem wKP {r:wAC} (C:RC r):∃ d pts,wCs r=some d/\Desk r d pts:=by
 unfold wCs wBP wBz
 simp only [hD]
 rw [wIJ _ _ C]
 have hlen:=wII C
 have key:∀ (l pre:List wAD) (s:List wAX × List (Pt × Int)) (pts:List Pt),OpI r pre s pts->pre.length + l.length <= 216->(∀ x ∈ l,wDM r x)->∃ s' pts',wHO (opF r) l s=some (.inl s')/\OpI r (pre ++ l) s' pts':=by
  intro l
  induction l with
  | nil=>intro pre s pts I _ _;exact ⟨s,pts,rfl,by rw [kF];exact I⟩
  | cons x l ih =>
   intro pre s pts I hl hx
   simp only [nA] at hl
   obtain ⟨s1,p1,e,I1⟩:=wMr C (by omega) (hx x (by simp)) I
   obtain ⟨s2,p2,e2,I2⟩:=ih (pre ++ [x]) s1 p1 I1 (by rw [nN,nX];omega) fun y hy=>hx y (by simp [hy])
   refine ⟨s2,p2,by rw [wHO,e];exact e2,?_⟩
   rw [nv] at I2
   exact I2
 obtain ⟨⟨es,num⟩,pts,e,I⟩:=key (wHf r) [] ([],wFv ([]:List (Pt × Int)) (⟨-1,0⟩:wAH) 0) [zp] ⟨rfl,by simp,⟨by simp,by simp⟩,rfl,fun p hp=>.inl (nL.1 hp),(fun x hx=>by cases hx),rfl⟩ (by simpa using hlen) fun x hx=>wDV.1 hx
 rw [kE] at I
 have hz:zp ∈ pts:=I.zero ▸ wCQ I.len.1
 refine ⟨⟨r,num,es⟩,pts,?_,C,rfl,I.num,I.nd,⟨I.len.1,by have:=I.len.2;omega⟩,I.zero,fun p=>⟨I.ok p,fun h=>?_⟩,I.edges⟩
 ·show (wHO (opF r) (wHf r) _).bind _=_
  rw [e]
  rfl
 ·rcases skip r p h C with rfl | ⟨x,hx,rfl⟩
  ·exact hz
  ·exact (I.has x (wDV.2 hx)).2
end Go.Proofs.Ytlnfbjphfoipaaa
namespace Go.Proofs.Ytlnfbjphfoipaaa
open Go.KL Go.KL.Net
def wCw (r:wAC) (y:Pt->Int):Prop:=∀ x,wDM r x->y (wCS r x).2.1 <= y (wCS r x).1 + (wCS r x).2.2
section
variable {r:wAC} {y:Pt->Int}
theorem fp0 (F:wCw r y) {s:Int} (h0:0 <= s) (h1:s < r.Starts.length):y ⟨s,0⟩=y zp + gd r.Starts s.toNat:=by
 have a:y ⟨s,0⟩ <= y zp + gd r.Starts s.toNat:=F ⟨0,s,0,true⟩ (.inl ⟨rfl,h0,h1,rfl⟩)
 have b:y zp <= y ⟨s,0⟩ + -gd r.Starts s.toNat:=F ⟨0,s,0,false⟩ (.inl ⟨rfl,h0,h1,rfl⟩)
 omega
theorem fp1 (F:wCw r y) {s k:Int} (h0:0 <= s) (h1:s < r.Starts.length) (k0:0 <= k) (k1:k < r.Splits.length):y ⟨s,k⟩ + (gd r.Splits k.toNat).Lo <= y ⟨s,k + 1⟩/\y ⟨s,k + 1⟩ <= y ⟨s,k⟩ + (gd r.Splits k.toNat).Hi:=by
 have a:y ⟨s,k + 1⟩ <= y ⟨s,k⟩ + (gd r.Splits k.toNat).Hi:=F ⟨1,s,k,true⟩ (.inr (.inl ⟨rfl,h0,h1,k0,k1⟩))
 have b:y ⟨s,k⟩ <= y ⟨s,k + 1⟩ + -(gd r.Splits k.toNat).Lo:=F ⟨1,s,k,false⟩ (.inr (.inl ⟨rfl,h0,h1,k0,k1⟩))
 omega
theorem fp2 (F:wCw r y) {k:Int} (k0:0 <= k) (k1:k < r.Clocks.length):y ⟨-1,1 + k⟩ <= y zp - (gd r.Clocks k.toNat).Offset.Lo/\y zp <= y ⟨-1,1 + k⟩ + (gd r.Clocks k.toNat).Offset.Hi:=by
 have a:y ⟨-1,1 + k⟩ <= y zp + -(gd r.Clocks k.toNat).Offset.Lo:=F ⟨2,0,k,true⟩ (.inr (.inr (.inl ⟨rfl,rfl,k0,k1⟩)))
 have b:y zp <= y ⟨-1,1 + k⟩ + (gd r.Clocks k.toNat).Offset.Hi:=F ⟨2,0,k,false⟩ (.inr (.inr (.inl ⟨rfl,rfl,k0,k1⟩)))
 omega
theorem wGB (C:RC r) (F:wCw r y) {p:Pt} (hp:wEt r p):-3300000 <= y p - y zp/\y p - y zp <= 3300000:=by
 rcases hp with rfl | ⟨a,b,c,d⟩ | ⟨a,b,c⟩
 ·omega
 ·have key:∀ k:Nat,(k:Int) <= r.Splits.length->0 <= y ⟨p.skier,k⟩ - y zp/\y ⟨p.skier,k⟩ - y zp <= 360000 * ((k:Int) + 1):=by
   intro k
   induction k with
   | zero =>
    intro _
    have:=fp0 F a b
    have:=C.st _ (wCm a b)
    show 0 <= y ⟨p.skier,0⟩ - y zp/\y ⟨p.skier,0⟩ - y zp <= _
    omega
   | succ k ih =>
    intro hk
    have h:=ih (by omega)
    have f:=fp1 F a b (k:=(k:Int)) (by omega) (by omega)
    have g:=C.sp _ (wCm (l:=r.Splits) (i:=(k:Int)) (by omega) (by omega))
    have e:((k + 1:Nat):Int)=(k:Int) + 1:=by omega
    rw [e]
    omega
  have:=key p.mat.toNat (by omega)
  rw [nH c] at this
  have hm:=C.m
  have e:(⟨p.skier,p.mat⟩:Pt)=p:=rfl
  rw [e] at this
  omega
 ·have f:=fp2 F (k:=p.mat - 1) (by omega) (by omega)
  have g:=(C.ck _ (wCm (l:=r.Clocks) (i:=p.mat - 1) (by omega) (by omega))).1
  have e:(⟨-1,1 + (p.mat - 1)⟩:Pt)=p:=by rw [<- a,ni,nO]
  rw [e] at f
  omega
theorem to_zp {S:Pt->Prop} (hS:∀ x,wDM r x->S (wCS r x).1->S (wCS r x).2.1) {p:Pt} (hp:wEt r p) (h:S p):S zp:=by
 rcases hp with rfl | ⟨a,b,c,d⟩ | ⟨a,b,c⟩
 ·exact h
 ·have key:∀ k:Nat,(k:Int) <= r.Splits.length->S ⟨p.skier,k⟩->S zp:=by
   intro k
   induction k with
   | zero=>intro _ hk;exact hS ⟨0,p.skier,0,false⟩ (.inl ⟨rfl,a,b,rfl⟩) hk
   | succ k ih =>
    intro hk h
    refine ih (by omega) ?_
    have e:((k + 1:Nat):Int)=(k:Int) + 1:=by omega
    rw [e] at h
    exact hS ⟨1,p.skier,k,false⟩ (.inr (.inl ⟨rfl,a,b,by simp only;omega,by simp only;omega⟩)) h
  refine key p.mat.toNat (by omega) ?_
  rw [nH c];exact h
 ·have e:(⟨-1,1 + (p.mat - 1)⟩:Pt)=p:=by rw [<- a,ni,nO]
  refine hS ⟨2,0,p.mat - 1,false⟩ (.inr (.inr (.inl ⟨rfl,rfl,by simp only;omega,by simp only;omega⟩))) ?_
  show S ⟨-1,1 + (p.mat - 1)⟩
  rw [e];exact h
theorem of_zp {S:Pt->Prop} (hS:∀ x,wDM r x->S (wCS r x).1->S (wCS r x).2.1) (h:S zp) {p:Pt} (hp:wEt r p):S p:=by
 rcases hp with rfl | ⟨a,b,c,d⟩ | ⟨a,b,c⟩
 ·exact h
 ·have key:∀ k:Nat,(k:Int) <= r.Splits.length->S ⟨p.skier,k⟩:=by
   intro k
   induction k with
   | zero=>intro _;exact hS ⟨0,p.skier,0,true⟩ (.inl ⟨rfl,a,b,rfl⟩) h
   | succ k ih =>
    intro hk
    have e:((k + 1:Nat):Int)=(k:Int) + 1:=by omega
    rw [e]
    exact hS ⟨1,p.skier,k,true⟩ (.inr (.inl ⟨rfl,a,b,by simp only;omega,by simp only;omega⟩)) (ih (by omega))
  have:=key p.mat.toNat (by omega)
  rw [nH c] at this
  exact this
 ·have e:(⟨-1,1 + (p.mat - 1)⟩:Pt)=p:=by rw [<- a,ni,nO]
  have:=hS ⟨2,0,p.mat - 1,true⟩ (.inr (.inr (.inl ⟨rfl,rfl,by simp only;omega,by simp only;omega⟩))) h
  rw [<- e];exact this
def turn (x:wAD):wAD:=⟨x.Kind,x.Skier,x.Index,!x.Up⟩
theorem wLm {x:wAD} (h:wDM r x):wDM r (turn x)/\(wCS r (turn x)).1=(wCS r x).2.1/\(wCS r (turn x)).2.1=(wCS r x).1:=by
 refine ⟨h,?_⟩
 obtain ⟨k,s,i,u⟩:=x
 unfold wCS turn
 cases u <;> exact ⟨rfl,rfl⟩
structure IsDP (r:wAC) (a:Pt) (f:Pt->Int):Prop where
 ok:wCw r f
 zero:f a=0
 gr:∀ y,wCw r y->∀ p,wEt r p->y p - y a <= f p
theorem IsDP.one {a:Pt} {f g:Pt->Int} (F:IsDP r a f) (G:IsDP r a g) {p:Pt} (hp:wEt r p):f p=g p:=by
 have h1:=F.gr g G.ok p hp
 have h2:=G.gr f F.ok p hp
 have:=F.zero;have:=G.zero
 omega
theorem IsDP.near {a:Pt} {f:Pt->Int} (C:RC r) (F:IsDP r a f) (ha:wEt r a) {p:Pt} (hp:wEt r p):-6600000 <= f p/\f p <= 6600000:=by
 have h1:=wGB C F.ok ha
 have h2:=wGB C F.ok hp
 have:=F.zero
 omega
end
section
variable {r:wAC} {d:wAY} {pts:List Pt} (D:Desk r d pts)
include D
theorem Desk.pos_ok {p:Pt} (hp:wEt r p):pos pts p < pts.length/\gd pts (pos pts p)=p/\wAr d.number p 0=(pos pts p:Int):=by
 obtain ⟨h1,h2,h3,_⟩:=wGH D.nd ((D.all p).2 hp)
 exact ⟨h1,h2,by rw [D.num];exact h3⟩
theorem Desk.gd_ok {v:Nat} (hv:v < pts.length):wEt r (gd pts v)/\pos pts (gd pts v)=v:=⟨(D.all _).1 (wCQ hv),(wIK D.nd hv).1⟩
theorem Desk.ed_is {x:wAD} (h:wDM r x) (p:Bool):ed p (mkE r pts x)=if p then ⟨pos pts (wCS r x).2.1,pos pts (wCS r x).1,(wCS r x).2.2⟩ else ⟨pos pts (wCS r x).1,pos pts (wCS r x).2.1,(wCS r x).2.2⟩:=by
 obtain ⟨o1,o2,_,_⟩:=wDb D.c h
 have h1:=(wGH D.nd ((D.all _).2 o1)).2.2.1
 have h2:=(wGH D.nd ((D.all _).2 o2)).2.2.1
 unfold ed mkE
 simp only [h1,h2,hH]
theorem Desk.mem {p:Bool} {e:Ed}:e ∈ d.edges.map (ed p) ↔ ∃ x,wDM r x/\e=ed p (mkE r pts x):=by
 rw [D.edges,List.map_map]
 constructor
 ·intro h
  obtain ⟨x,hx,rfl⟩:=nS.1 h
  exact ⟨x,wDV.1 hx,rfl⟩
 ·rintro ⟨x,hx,rfl⟩
  exact nS.2 ⟨x,wDV.2 hx,rfl⟩
theorem Desk.edOK:∀ e ∈ d.edges,wLj pts.length e:=by
 intro e he
 rw [D.edges] at he
 obtain ⟨x,hx,rfl⟩:=nS.1 he
 have h:=wDV.1 hx
 obtain ⟨o1,o2,c1,c2⟩:=wDb D.c h
 obtain ⟨h1,_,h2,_⟩:=wGH D.nd ((D.all _).2 o1)
 obtain ⟨g1,_,g2,_⟩:=wGH D.nd ((D.all _).2 o2)
 unfold mkE
 rw [h2,g2]
 exact ⟨by simp only;omega,by simp only;omega,by simp only;omega,by simp only;omega,c1,c2⟩
theorem Desk.elen:d.edges.length <= 1000:=by
 have:=wII D.c
 rw [D.edges,List.length_map]
 omega
theorem Desk.feas {y:Pt->Int} (F:wCw r y):wGO (d.edges.map (ed false)) fun v=>y (gd pts v):=by
 intro e he
 obtain ⟨x,hx,rfl⟩:=D.mem.1 he
 obtain ⟨o1,o2,_,_⟩:=wDb D.c hx
 rw [D.ed_is hx]
 simp only [nK,if_false]
 rw [(D.pos_ok o1).2.1,(D.pos_ok o2).2.1]
 exact F x hx
theorem Desk.back {z:Nat->Int} (F:wGO (d.edges.map (ed false)) z):wCw r fun p=>z (pos pts p):=by
 intro x hx
 have:=F _ (D.mem.2 ⟨x,hx,rfl⟩)
 rw [D.ed_is hx] at this
 simp only [nK,if_false] at this
 exact this
theorem Desk.backT {z:Nat->Int} (F:wGO (d.edges.map (ed true)) z):wCw r fun p=>-z (pos pts p):=by
 intro x hx
 have:=F _ (D.mem.2 ⟨x,hx,rfl⟩)
 rw [D.ed_is hx] at this
 simp only [if_true] at this
 simp only
 omega
theorem Desk.con (p:Bool):Con pts.length 6600000 (d.edges.map (ed p)):=by
 refine ⟨fun e he=>?_,fun z hz a b ha hb=>?_,fun S i hi hSi hS v hv=>?_⟩
 ·obtain ⟨x,hx,rfl⟩:=D.mem.1 he
  obtain ⟨o1,o2,_,_⟩:=wDb D.c hx
  have h1:=(D.pos_ok o1).1
  have h2:=(D.pos_ok o2).1
  rw [D.ed_is hx]
  split
  ·exact ⟨h2,h1⟩
  ·exact ⟨h1,h2⟩
 ·obtain ⟨pa,ea⟩:=D.gd_ok ha
  obtain ⟨pb,eb⟩:=D.gd_ok hb
  cases p with
  | false =>
   have h1:=wGB D.c (D.back hz) pa
   have h2:=wGB D.c (D.back hz) pb
   simp only [ea,eb] at h1 h2
   omega
  | true =>
   have h1:=wGB D.c (D.backT hz) pa
   have h2:=wGB D.c (D.backT hz) pb
   simp only [ea,eb] at h1 h2
   omega
 ·have hcl:∀ x,wDM r x->S (pos pts (wCS r x).1)->S (pos pts (wCS r x).2.1):=fun x hx h=>by
   cases p with
   | false =>
    have:=hS _ (D.mem.2 ⟨x,hx,rfl⟩)
    rw [D.ed_is hx] at this
    simp only [nK,if_false] at this
    exact this h
   | true =>
    obtain ⟨t1,t2,t3⟩:=wLm hx
    have:=hS _ (D.mem.2 ⟨_,t1,rfl⟩)
    rw [D.ed_is t1] at this
    simp only [if_true] at this
    rw [t2,t3] at this
    exact this h
  obtain ⟨pi,ei⟩:=D.gd_ok hi
  obtain ⟨pv,ev⟩:=D.gd_ok hv
  have:=of_zp (S:=fun q=>S (pos pts q)) hcl (to_zp (S:=fun q=>S (pos pts q)) hcl pi (by show S (pos pts (gd pts i));rw [ei];exact hSi)) pv
  have this:S (pos pts (gd pts v)):=this
  rwa [ev] at this
theorem Desk.cost (p:Bool):∀ e ∈ d.edges.map (ed p),e.c <= 400000:=by
 intro e he
 obtain ⟨x,hx,rfl⟩:=D.mem.1 he
 obtain ⟨_,_,_,c⟩:=wDb D.c hx
 rw [D.ed_is hx]
 split <;> exact c
theorem Desk.nlen:d.number.length=pts.length:=by rw [D.num,wHg]
theorem Desk.zeroP:pos pts zp=0:=by
 have:=(wIK D.nd (i:=0) (by have:=D.len;omega)).1
 rwa [D.zero] at this
theorem Desk.any:∃ f last ok,wAZ d (-1) false=some (f,last,ok)/\f.far.length=pts.length/\f.by_.length=pts.length/\(ok=true ↔ ∃ y,wCw r y)/\(ok=true->wCw r fun p=>gd f.far (pos pts p))/\(ok=false->0 <= last/\last < pts.length):=by
 obtain ⟨f,last,ok,e,bl,fl,h1,h2⟩:=wIG D.nlen D.len.1 (by have:=D.len.2;omega) D.edOK D.elen (-1) false
 have hp:0 < pts.length:=D.len.1
 have t0:wGG (-1) 0=0:=by unfold wGG;rw [if_pos (.inl (by omega))]
 have feas:ok=true->wCw r fun p=>gd f.far (pos pts p):=fun h=>D.back ((h1 h).feas (D.con false) (D.cost false) hp t0)
 refine ⟨f,last,ok,e,fl,bl,⟨fun h=>⟨_,feas h⟩,fun ⟨y,hy⟩=>?_⟩,feas,fun h=>⟨(h2 h).1,(h2 h).2.1⟩⟩
 cases ok with
 | true=>rfl
 | false =>
  exfalso
  obtain ⟨δ,M⟩:=wKI (D.con false) (D.feas hy) hp t0 (fun v _=>(wLQ (-1) v).1)
  exact (h2 rfl).2.2 δ M fun v hv=>by have:=M.hi (D.con false) hp t0 v hv;omega
theorem Desk.from_ (hy:∃ y,wCw r y) {a:Pt} (ha:wEt r a):∃ f last,wAZ d (pos pts a:Int) false=some (f,last,true)/\f.far.length=pts.length/\IsDP r a fun p=>gd f.far (pos pts p):=by
 obtain ⟨f,last,ok,e,bl,fl,h1,h2⟩:=wIG D.nlen D.len.1 (by have:=D.len.2;omega) D.edOK D.elen (pos pts a:Int) false
 obtain ⟨hp,hg,_⟩:=D.pos_ok ha
 have t0:wGG (pos pts a:Int) (pos pts a)=0:=by unfold wGG;rw [if_pos (.inr rfl)]
 obtain ⟨y,hy⟩:=hy
 have hok:ok=true:=by
  cases ok with
  | true=>rfl
  | false =>
   exfalso
   obtain ⟨δ,M⟩:=wKI (D.con false) (D.feas hy) hp t0 (fun v _=>(wLQ _ v).1)
   exact (h2 rfl).2.2 δ M fun v hv=>by have:=M.hi (D.con false) hp t0 v hv;omega
 subst hok
 have I:=(h1 rfl).isD (by omega) (D.con false) (D.cost false) hp
 refine ⟨f,last,e,fl,D.back I.ok,I.zero,fun z hz p hpt=>?_⟩
 have:=I.gr _ (D.feas hz) (pos pts p) (D.pos_ok hpt).1
 simp only [hg,(D.pos_ok hpt).2.1] at this
 exact this
end
end Go.Proofs.Ytlnfbjphfoipaaa
namespace Go.Proofs.Ytlnfbjphfoipaaa
open Go.KL Go.KL.Net
def inB (n lo hi:Int):Bool:=decide (lo <= n/\n <= hi)
theorem wEu (n lo hi:Int):wBE n lo hi=some (inB n lo hi):=by
 unfold wBE inB
 by_cases h:lo <= n
 ·rw [if_pos h];simp [h]
 ·rw [if_neg h];simp [h]
def wKr (s:wAJ) (lo hi:Int):Bool:=decide (s.Lo <= s.Hi/\lo <= s.Lo/\s.Hi <= hi)
theorem wHQ (s:wAJ) (lo hi:Int):wCg s lo hi=some (wKr s lo hi):=by
 unfold wCg wKr
 by_cases h:s.Lo <= s.Hi
 ·by_cases h2:lo <= s.Lo
  ·rw [if_pos h,if_pos h2];simp [h,h2]
  ·rw [if_pos h,if_neg h2];simp [h2]
 ·rw [if_neg h];simp [h]
theorem wGd {l:List Int} {f:Int->Option Bool} {p:Int->Bool} (hf:∀ a ∈ l,f a=some (p a)) (hn:l.length <= 1000):wBR l f=some (l.all p):=by
 unfold wBR
 refine (wEo (R:=Bool) (p:=p) (z:=false) (K:=fun _=>some true) (fun a ha=>?_) (by omega)).trans ?_
 ·rw [hf a ha,hD];split <;> rfl
 ·split <;> simp_all
theorem wJg {l:List wAJ} {f:wAJ->Option Bool} {p:wAJ->Bool} (hf:∀ a ∈ l,f a=some (p a)) (hn:l.length <= 1000):wBe l f=some (l.all p):=by
 unfold wBe
 refine (wEo (R:=Bool) (p:=p) (z:=false) (K:=fun _=>some true) (fun a ha=>?_) (by omega)).trans ?_
 ·rw [hf a ha,hD];split <;> rfl
 ·split <;> simp_all
theorem wIk {l:List wAM} {f:wAM->Option Bool} {p:wAM->Bool} (hf:∀ a ∈ l,f a=some (p a)) (hn:l.length <= 1000):wBS l f=some (l.all p):=by
 unfold wBS
 refine (wEo (R:=Bool) (p:=p) (z:=false) (K:=fun _=>some true) (fun a ha=>?_) (by omega)).trans ?_
 ·rw [hf a ha,hD];split <;> rfl
 ·split <;> simp_all
theorem wFm {l:List wAL} {f:wAL->Option Bool} {p:wAL->Bool} (hf:∀ a ∈ l,f a=some (p a)) (hn:l.length <= 1000):wAv l f=some (l.all p):=by
 unfold wAv
 refine (wEo (R:=Bool) (p:=p) (z:=false) (K:=fun _=>some true) (fun a ha=>?_) (by omega)).trans ?_
 ·rw [hf a ha,hD];split <;> rfl
 ·split <;> simp_all
structure wDy (r:wAC):Prop where
 n:r.Starts.length <= 10
 m:r.Splits.length <= 9
 c:r.Clocks.length <= 6
 q:r.Readings.length <= 44
def stP (s:Int):Bool:=inB s 0 360000
def spP (s:wAJ):Bool:=wKr s 0 360000
def ckP (c:wAM):Bool:=wKr c.Offset (-36000) 36000 && inB c.Error 0 600
def rtP (x:wAL):Bool:=inB x.Time 0 360000
def ruP (r:wAC) (x:wAL):Bool:=inB x.Skier 0 ((r.Starts.length:Int) - 1) && (inB x.Mat 0 r.Splits.length && inB x.Clock 0 ((r.Clocks.length:Int) - 1))
def code (r:wAC):Int :=
 if ¬ (1 <= r.Starts.length/\r.Starts.length <= 8) then 2 else if 7 < r.Splits.length then 2 else if 4 < r.Clocks.length then 2 else if 40 < r.Readings.length then 2
 else if r.Starts.all stP=true then (if r.Splits.all spP=true then (if r.Clocks.all ckP=true then (if r.Readings.all rtP=true then (if r.Readings.all (ruP r)=true then 0 else 1) else 3) else 3) else 3) else 3
theorem wHh {r:wAC} (h:code r=0):RC r:=by
 unfold code at h
 split at h
 ·omega
 ·split at h
  ·omega
  ·split at h
   ·omega
   ·split at h
    ·omega
    ·split at h
     ·split at h
      ·split at h
       ·split at h
        ·split at h
         ·rename_i a1 a2 a3 a4 h1 h2 h3 h4 h5
          rw [nI] at h1 h2 h3 h4 h5
          refine ⟨by omega,by omega,by omega,by omega,fun s hs=>?_,fun s hs=>?_,fun s hs=>?_,fun s hs=>?_,fun s hs=>?_⟩
          ·have:=h1 s hs
           simp only [stP,inB,decide_eq_true_eq] at this
           exact this
          ·have:=h2 s hs
           simp only [spP,wKr,decide_eq_true_eq] at this
           exact this
          ·have:=h3 s hs
           simp only [ckP,wKr,inB,nB,decide_eq_true_eq] at this
           exact this
          ·have:=h4 s hs
           simp only [rtP,inB,decide_eq_true_eq] at this
           exact this
          ·have:=h5 s hs
           simp only [ruP,inB,nB,decide_eq_true_eq] at this
           omega
         ·omega
        ·omega
       ·omega
      ·omega
     ·omega
theorem wHi {r:wAC} (S:wDy r) (s:wAI):wAl r s=some (inB s.Skier 0 ((r.Starts.length:Int) - 1) && inB s.Mat 0 r.Splits.length):=by
 have:=S.n
 unfold wAl
 rw [wAU (by omega) (by omega),wEu,hD,wEu,hD]
 cases inB s.Skier 0 ((r.Starts.length:Int) - 1)
 ·rw [if_neg (by simp)];rfl
 ·rw [if_pos rfl,Bool.true_and]
theorem wGC {r:wAC} (S:wDy r):wCL r=some (code r):=by
 have hn:=S.n;have hm:=S.m;have hc:=S.c;have hq:=S.q
 unfold wCL code
 rw [wEu,hD]
 by_cases c1:1 <= r.Starts.length/\r.Starts.length <= 8
 ·have e1:inB (r.Starts.length:Int) 1 8=true:=by unfold inB;rw [decide_eq_true_eq];omega
  rw [e1,if_pos rfl,if_neg (show ¬ ¬ (1 <= r.Starts.length/\r.Starts.length <= 8) from fun h=>h c1)]
  by_cases c2:7 < r.Splits.length
  ·rw [if_pos (show (7:Int) < (r.Splits.length:Int) by omega),if_pos c2]
  ·rw [if_neg (show ¬ (7:Int) < (r.Splits.length:Int) by omega),if_neg c2]
   by_cases c3:4 < r.Clocks.length
   ·rw [if_pos (show (4:Int) < (r.Clocks.length:Int) by omega),if_pos c3]
   ·rw [if_neg (show ¬ (4:Int) < (r.Clocks.length:Int) by omega),if_neg c3]
    by_cases c4:40 < r.Readings.length
    ·rw [if_pos (show (40:Int) < (r.Readings.length:Int) by omega),if_pos c4]
    ·rw [if_neg (show ¬ (40:Int) < (r.Readings.length:Int) by omega),if_neg c4]
     rw [wGd (p:=stP) (fun a _=>by unfold wCf;rw [wEu];rfl) (by omega),hD]
     rw [wJg (p:=spP) (fun a _=>by unfold wCh;rw [wHQ];rfl) (by omega),hD]
     rw [wIk (p:=ckP) (fun a _=>by
      unfold wCi ckP
      rw [wHQ,hD,wEu,hD]
      cases wKr a.Offset (-36000) 36000
      ·rw [if_neg (by simp)];rfl
      ·rw [if_pos rfl];rfl) (by omega),hD]
     rw [wFm (p:=rtP) (fun a _=>by unfold wCj;rw [wEu];rfl) (by omega),hD]
     rw [wFm (p:=ruP r) (fun a _=>by
      unfold wCk ruP
      rw [wHi S,hD,wAU (by omega) (by omega),wEu,hD]
      simp only
      cases inB a.Skier 0 ((r.Starts.length:Int) - 1)
      ·rw [if_neg (by simp)];rfl
      ·cases inB a.Mat 0 (r.Splits.length:Int)
       ·rw [if_neg (by simp)];rfl
       ·simp) (by omega),hD]
     split
     ·split
      ·split
       ·split
        ·split <;> rfl
        ·rfl
       ·rfl
      ·rfl
     ·rfl
 ·have e1:inB (r.Starts.length:Int) 1 8=false:=by unfold inB;rw [decide_eq_false_iff_not];omega
  rw [e1,if_neg (by simp),if_pos c1]
end Go.Proofs.Ytlnfbjphfoipaaa
namespace Go.Proofs.Ytlnfbjphfoipaaa
open Go.KL Go.KL.Net
open Classical
def wFn (r:wAC) (s:wAI):Bool:=inB s.Skier 0 ((r.Starts.length:Int) - 1) && inB s.Mat 0 r.Splits.length
def pt (s:wAI):Pt:=⟨s.Skier,s.Mat⟩
theorem wEL {r:wAC} {s:wAI} (h:wFn r s=true):wEt r (pt s)/\0 <= s.Skier/\s.Skier < r.Starts.length/\0 <= s.Mat/\s.Mat <= r.Splits.length:=by
 simp only [wFn,inB,nB,decide_eq_true_eq] at h
 exact ⟨.inr (.inl ⟨h.1.1,by simp only [pt];omega,h.2.1,h.2.2⟩),h.1.1,by omega,h.2.1,h.2.2⟩
noncomputable def wFH (r:wAC) (l:List wAI):Int:=if code r=0 then (if l.all (wFn r)=true then (if ∃ y,wCw r y then 0 else 7) else 1) else code r
theorem err0 {r:wAC} {l:List wAI} (h:wFH r l=0):RC r/\code r=0/\l.all (wFn r)=true/\∃ y,wCw r y:=by
 unfold wFH at h
 split at h
 ·split at h
  ·split at h
   ·rename_i a b c
    exact ⟨wHh a,a,b,c⟩
   ·omega
  ·omega
 ·contradiction
theorem wFo {r:wAC} (S:wDy r):(code r ≠ 0/\wBj r=some (none,code r)) \/ (code r=0/\∃ d pts,wBj r=some (some d,0)/\Desk r d pts):=by
 unfold wBj
 rw [wGC S,hD]
 by_cases c:code r=0
 ·right
  obtain ⟨d,pts,e,D⟩:=wKP (wHh c)
  refine ⟨c,d,pts,?_,D⟩
  rw [if_pos c,e];rfl
 ·left
  exact ⟨c,if_neg c⟩
end Go.Proofs.Ytlnfbjphfoipaaa
namespace Go.Proofs.Ytlnfbjphfoipaaa
open Go.KL Go.KL.Net
open Classical
def yT (T:List (List Int)) (O:List Int) (p:Pt):Int:=if p.skier=-1 then (if p.mat=0 then 0 else -gd O (p.mat - 1).toNat) else gd (gd T p.skier.toNat) p.mat.toNat
theorem wHj (T:List (List Int)) (O:List Int):yT T O zp=0:=rfl
theorem wDc (T:List (List Int)) (O:List Int) {s k:Int} (h:0 <= s):yT T O ⟨s,k⟩=gd (gd T s.toNat) k.toNat:=if_neg (by simp only;omega)
theorem wER (T:List (List Int)) (O:List Int) {k:Int} (h:0 <= k):yT T O ⟨-1,1 + k⟩=-gd O k.toNat:=by
 unfold yT
 rw [if_pos rfl,if_neg (by simp only;omega),show (1 + k - 1)=k by omega]
structure wLS (r:wAC) (T:List (List Int)) (O:List Int):Prop where
 t:T.length=r.Starts.length
 l:∀ k,k < r.Starts.length->(gd T k).length=r.Splits.length + 1
 o:O.length=r.Clocks.length
def wMO (r:wAC) (T:List (List Int)) (k:Nat):Bool:=decide (gd (gd T k) 0=gd r.Starts k) && wGK (fun j=>inB (gd (gd T k) (j + 1) - gd (gd T k) j) (gd r.Splits j).Lo (gd r.Splits j).Hi) r.Splits.length 0
def wMs (r:wAC) (O:List Int) (k:Nat):Bool:=inB (gd O k) (gd r.Clocks k).Offset.Lo (gd r.Clocks k).Offset.Hi
def wMt (r:wAC) (T:List (List Int)) (O:List Int) (k:Nat):Bool :=
 inB ((gd r.Readings k).Time - gd (gd T (gd r.Readings k).Skier.toNat) (gd r.Readings k).Mat.toNat - gd O (gd r.Readings k).Clock.toNat) (-(gd r.Clocks (gd r.Readings k).Clock.toNat).Error) (gd r.Clocks (gd r.Readings k).Clock.toNat).Error
theorem wJU {r:wAC} (C:RC r) {T:List (List Int)} {O:List Int}:wCw r (yT T O) ↔ wGK (wMO r T) r.Starts.length 0=true/\wGK (wMs r O) r.Clocks.length 0=true/\wGK (wMt r T O) r.Readings.length 0=true:=by
 simp only [wBO]
 constructor
 ·intro F
  refine ⟨fun k _ hk=>?_,fun k _ hk=>?_,fun k _ hk=>?_⟩
  ·have h0:=fp0 F (s:=(k:Int)) (by omega) (by omega)
   rw [wDc _ _ (by omega),wHj,hH,Int.zero_add] at h0
   unfold wMO
   rw [nB]
   refine ⟨decide_eq_true h0,(wBO _ _ _).2 fun j _ hj=>?_⟩
   have h1:=fp1 F (s:=(k:Int)) (k:=(j:Int)) (by omega) (by omega) (by omega) (by omega)
   rw [wDc _ _ (by omega),wDc _ _ (by omega),hH,hH,show ((j:Int) + 1).toNat=j + 1 by omega] at h1
   unfold inB
   rw [decide_eq_true_eq]
   omega
  ·have h:=fp2 F (k:=(k:Int)) (by omega) (by omega)
   rw [wER _ _ (by omega),wHj,hH] at h
   unfold wMs inB
   rw [decide_eq_true_eq]
   omega
  ·have u:=C.ru _ (wCQ (show k < r.Readings.length by omega))
   have a:yT T O ⟨(gd r.Readings k).Skier,(gd r.Readings k).Mat⟩ <= yT T O ⟨-1,1 + (gd r.Readings k).Clock⟩ + ((gd r.Readings k).Time + (gd r.Clocks (gd r.Readings k).Clock.toNat).Error):=F ⟨3,0,(k:Int),true⟩ (.inr (.inr (.inr ⟨rfl,rfl,by simp only;omega,by simp only;omega⟩)))
   have b:yT T O ⟨-1,1 + (gd r.Readings k).Clock⟩ <= yT T O ⟨(gd r.Readings k).Skier,(gd r.Readings k).Mat⟩ + ((gd r.Clocks (gd r.Readings k).Clock.toNat).Error - (gd r.Readings k).Time):=F ⟨3,0,(k:Int),false⟩ (.inr (.inr (.inr ⟨rfl,rfl,by simp only;omega,by simp only;omega⟩)))
   rw [wDc _ _ u.1,wER _ _ u.2.2.2.2.1] at a b
   unfold wMt inB
   rw [decide_eq_true_eq]
   omega
 ·rintro ⟨h1,h2,h3⟩ x hx
  have key:yT T O (wEC r x).2.1 <= yT T O (wEC r x).1 + (wEC r x).2.2.1/\yT T O (wEC r x).1 <= yT T O (wEC r x).2.1 + (wEC r x).2.2.2:=by
   unfold wEC
   rcases hx with ⟨k,a,b,c⟩ | ⟨k,a,b,c,d⟩ | ⟨k,a,c,d⟩ | ⟨k,a,c,d⟩
   ·have h:=h1 x.Skier.toNat (by omega) (by omega)
    unfold wMO at h
    rw [nB,decide_eq_true_eq] at h
    rw [if_pos k]
    simp only
    rw [wDc _ _ a,wHj,Int.toNat_zero,h.1]
    omega
   ·have h:=h1 x.Skier.toNat (by omega) (by omega)
    unfold wMO at h
    rw [nB] at h
    have g:=(wBO _ _ _).1 h.2 x.Index.toNat (by omega) (by omega)
    unfold inB at g
    rw [decide_eq_true_eq] at g
    rw [if_neg (by omega),if_pos k]
    simp only
    rw [wDc _ _ a,wDc _ _ a,show (x.Index + 1).toNat=x.Index.toNat + 1 by omega]
    omega
   ·have h:=h2 x.Index.toNat (by omega) (by omega)
    unfold wMs inB at h
    rw [decide_eq_true_eq] at h
    rw [if_neg (by omega),if_neg (by omega),if_pos k]
    simp only
    rw [wER _ _ c,wHj]
    omega
   ·have h:=h3 x.Index.toNat (by omega) (by omega)
    unfold wMt inB at h
    rw [decide_eq_true_eq] at h
    have u:=C.ru _ (wCm c d)
    rw [if_neg (by omega),if_neg (by omega),if_neg (by omega)]
    simp only
    rw [wDc _ _ u.1,wER _ _ u.2.2.2.2.1]
    omega
  unfold wCS
  split
  ·exact key.1
  ·exact key.2
def wLn (T:List (List Int)) (k:Nat):Bool:=wGK (fun j=>inB (gd (gd T k) j) (-100000000) 100000000) (gd T k).length 0
def wKb (O:List Int) (k:Nat):Bool:=inB (gd O k) (-100000000) 100000000
noncomputable def wLo (r:wAC) (T:List (List Int)) (O:List Int):Int:=if code r=0 then (if wLS r T O then (if wGK (wLn T) T.length 0=true/\wGK (wKb O) O.length 0=true then 0 else 3) else 2) else code r
noncomputable def wMP (r:wAC) (T:List (List Int)) (O:List Int):Bool:=decide (wLo r T O=0/\wCw r (yT T O))
end Go.Proofs.Ytlnfbjphfoipaaa
namespace Go.Proofs.Ytlnfbjphfoipaaa
open Go.KL Go.KL.Net
open Classical
def tt (r:wAC) (y:Pt->Int):List (List Int):=(nJ r.Starts.length).map fun (s:Nat)=>(nJ (r.Splits.length + 1)).map fun (k:Nat)=>y ⟨(s:Int),(k:Int)⟩ - y zp
def oo (r:wAC) (y:Pt->Int):List Int:=(nJ r.Clocks.length).map fun (i:Nat)=>y zp - y ⟨-1,1 + (i:Int)⟩
theorem wFS {α:Type} [Inhabited α] {n k:Nat} (f:Nat->α) (h:k < n):gd ((nJ n).map f) k=f k:=by
 rw [wIF (by simpa using h)]
 simp
theorem wKs {r:wAC} {y:Pt->Int} {s k:Nat} (hs:s < r.Starts.length) (hk:k <= r.Splits.length):gd (gd (tt r y) s) k=y ⟨(s:Int),(k:Int)⟩ - y zp:=by
 unfold tt
 rw [wFS _ hs,wFS _ (by omega)]
theorem wIL (r:wAC) (y:Pt->Int):(tt r y).length=r.Starts.length:=by simp [tt]
theorem wHR {r:wAC} {y:Pt->Int} {s:Nat} (hs:s < r.Starts.length):(gd (tt r y) s).length=r.Splits.length + 1:=by
 unfold tt
 rw [wFS _ hs];simp
theorem wIl {r:wAC} {d:wAY} {pts:List Pt} (D:Desk r d pts) {far:List Int} (hf:far.length=pts.length) {y:Pt->Int} (hy:∀ p,wEt r p->gd far (pos pts p)=y p) (F:wCw r y):wBp d far=some (tt r y,oo r y):=by
 have C:=D.c
 have hn:=C.n;have hm:=C.m;have hc:=C.c
 have hlen:=D.len
 have hz:wEt r zp:=.inl rfl
 have e0:gd far 0=y zp:=by rw [<- hy zp hz,D.zeroP]
 have get:∀ p,wEt r p->idx far (wAr d.number p 0)=some (y p):=fun p hp=>by
  obtain ⟨h1,_,h3⟩:=D.pos_ok hp
  rw [h3,wCZ (by omega),hy p hp]
 have ez:idx far 0=some (y zp):=by rw [show (0:Int)=((0:Nat):Int) from rfl,wCZ (by omega),e0]
 unfold wBp
 rw [ez,hD,D.race]
 have rows:wCJ (0:Int) (↑r.Starts.length:Int) (fun k31 l26 =>
  (wCJ (0:Int) (w64 ((↑r.Splits.length:Int) + 1)) (fun k74 l70 =>
   (idx far (wAr d.number (⟨(↑k31:Int),(↑k74:Int)⟩:wAH) 0)).bind fun x103 =>
   (app 8 l70 [w64 (x103 - y zp)]).bind fun x117 =>
   some x117) []).bind fun y79 =>
  (app 24 l26 [y79]).bind fun x161 =>
  some x161) []=some (tt r y):=by
  rw [wGc (S:=List (List Int)) (n:=r.Starts.length) (fun k=>(tt r y).take k) (s0:=[]) (by simp) (by omega) fun k hk=>?_,<- wIL r y,nY]
  have hs1:w64 ((r.Splits.length:Int) + 1)=((r.Splits.length + 1:Nat):Int):=by rw [wAU (by omega) (by omega)];omega
  rw [hs1,wGc (S:=List Int) (n:=r.Splits.length + 1) (fun j=>(gd (tt r y) k).take j) (s0:=[]) (by simp) (by omega) fun j hj=>?_]
  ·rw [hD,wEq (by rw [nE];simp only [nA,nG];omega),hD,wGA (l:=tt r y) (by rw [wIL];exact hk),<- wHR (y:=y) hk,nY]
  ·have hp:wEt r ⟨(k:Int),(j:Int)⟩:=.inr (.inl ⟨by simp only;omega,by simp only;omega,by simp only;omega,by simp only;omega⟩)
   have nr:=wGB C F hp
   rw [get _ hp,hD,wAU (by omega) (by omega),wEq (by rw [nE];simp only [nA,nG];omega),hD,wGA (l:=gd (tt r y) k) (by rw [wHR hk];exact hj),wKs hk (by omega)]
 rw [rows,hD]
 have offs:wCJ (0:Int) (↑r.Clocks.length:Int) (fun k215 l211 =>
  (wBN (↑k215:Int)).bind fun x243 =>
  (idx far (wAr d.number x243 0)).bind fun x253 =>
  (app 8 l211 [w64 (y zp - x253)]).bind fun x268 =>
  some x268) []=some (oo r y):=by
  have ol:(oo r y).length=r.Clocks.length:=by simp [oo]
  rw [wGc (S:=List Int) (n:=r.Clocks.length) (fun k=>(oo r y).take k) (s0:=[]) (by simp) (by omega) fun k hk=>?_,<- ol,nY]
  have hp:wEt r ⟨-1,1 + (k:Int)⟩:=.inr (.inr ⟨rfl,by simp only;omega,by simp only;omega⟩)
  have nr:=wGB C F hp
  unfold wBN
  rw [wAU (by omega) (by omega),hD,get _ hp,hD,wAU (by omega) (by omega),wEq (by rw [nE];simp only [nA,nG];omega),hD,wGA (l:=oo r y) (by omega)]
  unfold oo
  rw [wFS _ hk]
 rw [offs]
 rfl
theorem wKQ {r:wAC} (C:RC r) {y:Pt->Int} (F:wCw r y):wCw r (yT (tt r y) (oo r y))/\wLS r (tt r y) (oo r y)/\wGK (wLn (tt r y)) (tt r y).length 0=true/\wGK (wKb (oo r y)) (oo r y).length 0=true:=by
 have hz:wEt r zp:=.inl rfl
 have same:∀ p,wEt r p->yT (tt r y) (oo r y) p=y p - y zp:=fun p hp=>by
  rcases hp with rfl | ⟨a,b,c,d⟩ | ⟨a,b,c⟩
  ·rw [wHj];omega
  ·have e:p=⟨p.skier,p.mat⟩:=rfl
   rw [e,wDc _ _ a,wKs (by omega) (by omega),nH a,nH c]
  ·have e:p=⟨-1,1 + (p.mat - 1)⟩:=by rw [<- a,ni,nO]
   rw [e,wER _ _ (by omega)]
   unfold oo
   rw [wFS _ (by omega),nH (by omega)]
   omega
 have L:wLS r (tt r y) (oo r y):=⟨wIL r y,fun k hk=>wHR hk,by simp [oo]⟩
 refine ⟨fun x hx=>?_,L,?_,?_⟩
 ·obtain ⟨o1,o2,_,_⟩:=wDb C hx
  rw [same _ o1,same _ o2]
  have:=F x hx
  omega
 ·rw [wBO]
  intro i _ hi
  unfold wLn
  rw [wBO]
  intro j _ hj
  rw [L.t] at hi
  rw [wHR (by omega)] at hj
  have hp:wEt r ⟨(i:Int),(j:Int)⟩:=.inr (.inl ⟨by simp only;omega,by simp only;omega,by simp only;omega,by simp only;omega⟩)
  have:=wGB C F hp
  rw [wKs (by omega) (by omega)]
  unfold inB
  rw [decide_eq_true_eq]
  omega
 ·rw [wBO]
  intro i _ hi
  rw [L.o] at hi
  have hp:wEt r ⟨-1,1 + (i:Int)⟩:=.inr (.inr ⟨rfl,by simp only;omega,by simp only;omega⟩)
  have:=wGB C F hp
  unfold wKb oo
  rw [wFS _ (by omega)]
  unfold inB
  rw [decide_eq_true_eq]
  omega
end Go.Proofs.Ytlnfbjphfoipaaa
namespace Go.Proofs.Ytlnfbjphfoipaaa
open Go.KL Go.KL.Net
open Classical
theorem wHk {α:Type} [Inhabited α] (p:α->Bool) (l:List α):l.all p=wGK (fun k=>p (gd l k)) l.length 0:=by
 rw [Bool.eq_iff_iff,nI,wBO]
 constructor
 ·intro h i _ hi
  exact h _ (wCQ (by omega))
 ·intro h a ha
  obtain ⟨i,hi,rfl⟩:=wHP ha
  exact h i (by omega) (by omega)
theorem wJV {f:Unit->wAD->Option (Unit ⊕ Unit)} {q:wAD->Bool}:∀ {l:List wAD},(∀ x ∈ l,f () x=some (if q x=true then .inl () else .inr ()))->wHO f l ()=some (if l.all q=true then .inl () else .inr ())
 | [],_=>rfl
 | x :: l,h=>by
  rw [wHO,h x (by simp),nZ]
  cases q x with
  | true=>simpa using wJV (l:=l) fun y hy=>h y (List.mem_cons_of_mem _ hy)
  | false=>rfl
theorem wIM {l:List (List Int)} {f:List Int->Option Bool} {p:List Int->Bool} (hf:∀ a ∈ l,f a=some (p a)) (hn:l.length <= 1000):wAz l f=some (l.all p):=by
 unfold wAz
 refine (wEo (R:=Bool) (p:=p) (z:=false) (K:=fun _=>some true) (fun a ha=>?_) (by omega)).trans ?_
 ·rw [hf a ha,hD];split <;> rfl
 ·split <;> simp_all
theorem at4 {r:wAC} (C:RC r) {T:List (List Int)} {O:List Int} (L:wLS r T O) (h1:wGK (wLn T) T.length 0=true) (h2:wGK (wKb O) O.length 0=true) {p:Pt} (hp:wEt r p):wCt p O T=some (yT T O p)/\-100000000 <= yT T O p/\yT T O p <= 100000000:=by
 have lt:=L.t;have lo:=L.o
 unfold wCt wBP
 rw [hD]
 rcases hp with rfl | ⟨a,b,c,d⟩ | ⟨a,b,c⟩
 ·rw [if_pos (by rfl),wHj]
  exact ⟨rfl,by omega,by omega⟩
 ·have e:p=⟨p.skier,p.mat⟩:=rfl
  have ll:=L.l p.skier.toNat (by omega)
  have g1:=(wBO _ _ _).1 h1 p.skier.toNat (by omega) (by omega)
  have g2:=(wBO _ _ _).1 g1 p.mat.toNat (by omega) (by omega)
  unfold inB at g2
  rw [decide_eq_true_eq] at g2
  rw [if_neg (fun h=>by rw [h] at a;simp only at a;omega),if_neg (by omega),wCR a (by omega),hD,wCR c (by omega),hD,e,wDc _ _ a]
  exact ⟨rfl,g2.1,g2.2⟩
 ·have e:p=⟨-1,1 + (p.mat - 1)⟩:=by rw [<- a,ni,nO]
  have g1:=(wBO _ _ _).1 h2 (p.mat - 1).toNat (by omega) (by omega)
  unfold wKb inB at g1
  rw [decide_eq_true_eq] at g1
  have hm:=C.c
  rw [if_neg (fun h=>by rw [h] at b;simp only at b;omega),if_pos (by omega),wAU (x:=p.mat - 1) (by omega) (by omega),wCR (by omega) (by omega),hD,wAU (by omega) (by omega)]
  have e2:yT T O p=-gd O (p.mat - 1).toNat:=(congrArg (yT T O) e).trans (wER _ _ (by omega))
  rw [e2]
  exact ⟨rfl,by omega,by omega⟩
theorem wLp {r:wAC} (S:wDy r) {T:List (List Int)} (hT:T.length <= 100) (hl:∀ l ∈ T,l.length <= 100) {O:List Int} (hO:O.length <= 100):wEF r T O=some (wMP r T O,wLo r T O):=by
 have hn:=S.n;have hm:=S.m;have hc:=S.c
 have bad:∀ e:Int,wLo r T O=e->e ≠ 0->some (false,e)=some (wMP r T O,wLo r T O):=fun e h h0=>by
  unfold wMP
  rw [h,decide_eq_false (fun q=>h0 q.1)]
 unfold wEF
 rcases wFo S with ⟨c0,e0⟩ | ⟨c0,d,pts,e0,D⟩
 ·rw [e0,hD]
  simp only
  rw [if_neg c0]
  exact bad _ (if_neg c0) c0
 ·have C:=wHh c0
  have fe:wLo r T O=if wLS r T O then (if wGK (wLn T) T.length 0=true/\wGK (wKb O) O.length 0=true then 0 else 3) else 2:=if_pos c0
  rw [e0,hD]
  simp only
  rw [if_pos trivial]
  by_cases c1:T.length=r.Starts.length
  ·rw [if_pos (show (T.length:Int)=(r.Starts.length:Int) by omega),wIM (p:=fun l=>decide (l.length=r.Splits.length + 1)) (fun l _=>by
    unfold wBs
    rw [wAU (by omega) (by omega)]
    congr 1
    rw [decide_eq_decide]
    omega) (by omega),hD]
   by_cases c3:T.all (fun l=>decide (l.length=r.Splits.length + 1))=true
   ·rw [if_pos c3]
    by_cases c2:O.length=r.Clocks.length
    ·have L:wLS r T O:=⟨c1,fun k hk=>of_decide_eq_true (nI.1 c3 _ (wCQ (by omega))),c2⟩
     rw [if_pos L] at fe
     have f1:∀ a:Int,wAc a=some (inB a (-100000000) 100000000):=fun a=>by
      unfold wAc
      rw [wEu];rfl
     have sr:T.all (fun l=>l.all fun a=>inB a (-100000000) 100000000)=wGK (wLn T) T.length 0:=by
      rw [wHk]
      exact wHN _ _ fun i _ _=>wHk _ _
     have so:O.all (fun a=>inB a (-100000000) 100000000)=wGK (wKb O) O.length 0:=wHk _ _
     rw [if_pos (show (O.length:Int)=(r.Clocks.length:Int) by omega),wIM (p:=fun l=>l.all fun a=>inB a (-100000000) 100000000) (fun l h=>by
      unfold wBt
      rw [wGd (p:=fun a=>inB a (-100000000) 100000000) (fun a _=>f1 a) (by have:=hl l h;omega)]
      rfl) (by omega),hD,sr]
     by_cases c4:wGK (wLn T) T.length 0=true
     ·rw [if_pos c4,wGd (p:=fun a=>inB a (-100000000) 100000000) (fun a _=>f1 a) (by omega),hD,so]
      by_cases c5:wGK (wKb O) O.length 0=true
      ·rw [if_pos ⟨c4,c5⟩] at fe
       rw [if_pos c5,D.race]
       unfold wBz
       rw [hD,wIJ _ _ C,wJV (q:=fun x=>decide (yT T O (wCS r x).2.1 <= yT T O (wCS r x).1 + (wCS r x).2.2)) (fun x hx=>by
        have hs:=wDV.1 hx
        obtain ⟨o1,o2,b1,b2⟩:=wDb C hs
        obtain ⟨e1,l1,u1⟩:=at4 C L c4 c5 o1
        obtain ⟨e2,l2,u2⟩:=at4 C L c4 c5 o2
        have el:=wHe C hs
        show _=some (if decide (yT T O (wCS r x).2.1 <= yT T O (wCS r x).1 + (wCS r x).2.2)=true then _ else _)
        generalize wCS r x=w at el o1 o2 b1 b2 e1 l1 u1 e2 l2 u2 ⊢
        obtain ⟨P,Q,c⟩:=w
        simp only at b1 b2 e1 l1 u1 e2 l2 u2 ⊢
        rw [el,hD]
        simp only
        rw [hD]
        simp only
        rw [show (⟨Q.skier,Q.mat⟩:wAH)=Q from rfl,show (⟨P.skier,P.mat⟩:wAH)=P from rfl,e2,hD,e1,hD,wAU (by omega) (by omega)]
        by_cases c:yT T O Q <= yT T O P + c
        ·rw [if_neg (by omega),decide_eq_true c];rfl
        ·rw [if_pos (by omega),decide_eq_false c];rfl),hD]
       have hf:wCw r (yT T O) ↔ (wHf r).all (fun x=>decide (yT T O (wCS r x).2.1 <= yT T O (wCS r x).1 + (wCS r x).2.2))=true:=by
        rw [nI]
        exact ⟨fun F x hx=>decide_eq_true (F x (wDV.1 hx)),fun h x hx=>of_decide_eq_true (h x (wDV.2 hx))⟩
       unfold wMP
       by_cases c:wCw r (yT T O)
       ·rw [if_pos (hf.1 c),decide_eq_true ⟨fe,c⟩,fe]
       ·rw [if_neg (fun h=>c (hf.2 h)),decide_eq_false (fun h=>c h.2),fe]
      ·rw [if_neg c5]
       exact bad 3 (by rw [fe,if_neg (fun h=>c5 h.2)]) (by omega)
     ·rw [if_neg c4]
      exact bad 3 (by rw [fe,if_neg (fun h=>c4 h.1)]) (by omega)
    ·rw [if_neg (show ¬ (O.length:Int)=(r.Clocks.length:Int) by omega)]
     exact bad 2 (by rw [fe,if_neg (fun L=>c2 L.o)]) (by omega)
   ·rw [if_neg c3]
    refine bad 2 ?_ (by omega)
    rw [fe,if_neg]
    intro L
    apply c3
    rw [nI]
    intro l h
    obtain ⟨i,hi,rfl⟩:=wHP h
    exact decide_eq_true (L.l i (by omega))
  ·rw [if_neg (show ¬ (T.length:Int)=(r.Starts.length:Int) by omega)]
   exact bad 2 (by rw [fe,if_neg (fun L=>c1 L.t)]) (by omega)
theorem wKt {r:wAC} (S:wDy r):(wFH r [] ≠ 0->wCp r=some ([],[],wFH r []))/\(wFH r []=0->∃ y,wCw r y/\wCp r=some (tt r y,oo r y,0)):=by
 unfold wCp
 rcases wFo S with ⟨c0,e0⟩ | ⟨c0,d,pts,e0,D⟩
 ·have ee:wFH r []=code r:=by unfold wFH;rw [if_neg c0]
  rw [e0,hD,ee]
  simp only
  exact ⟨fun _=>if_neg c0,fun h=>absurd h c0⟩
 ·obtain ⟨f,last,ok,e1,fl,_,h1,h2,_⟩:=D.any
  rw [e0,hD]
  simp only
  rw [if_pos trivial,e1,hD]
  simp only
  cases ok with
  | true =>
   have ee:wFH r []=0:=by unfold wFH;rw [if_pos c0,if_pos (by rfl),if_pos (h1.1 rfl)]
   refine ⟨fun h=>absurd ee h,fun _=>⟨_,h2 rfl,?_⟩⟩
   rw [if_pos rfl,wIl D fl (y:=fun p=>gd f.far (pos pts p)) (fun _ _=>rfl) (h2 rfl),hD]
  | false =>
   have ee:wFH r []=7:=by
    unfold wFH
    rw [if_pos c0,if_pos (by rfl),if_neg (fun h=>by have:=h1.2 h;cases this)]
   refine ⟨fun _=>?_,fun h=>by omega⟩
   rw [if_neg (by simp),ee]
end Go.Proofs.Ytlnfbjphfoipaaa
namespace Go.Proofs.Ytlnfbjphfoipaaa
open Go.KL Go.KL.Net
open Classical
theorem wJh {l:List wAI} {f:wAI->Option Bool} {p:wAI->Bool} (hf:∀ a ∈ l,f a=some (p a)) (hn:l.length <= 1000):wBI l f=some (l.all p):=by
 unfold wBI
 refine (wEo (R:=Bool) (p:=p) (z:=false) (K:=fun _=>some true) (fun a ha=>?_) (by omega)).trans ?_
 ·rw [hf a ha,hD];split <;> rfl
 ·split <;> simp_all
section
variable {r:wAC} {d:wAY} {pts:List Pt} (D:Desk r d pts)
include D
theorem Desk.holds:∃ b,wAx d=some b/\(b=true ↔ ∃ y,wCw r y):=by
 obtain ⟨f,last,ok,e,_,_,h,_⟩:=D.any
 refine ⟨ok,?_,h⟩
 unfold wAx
 rw [e];rfl
end
theorem wFp {r:wAC} (S:wDy r) {l:List wAI} (hl:l.length <= 10):∃ o,wBw r l=some (o,wFH r l)/\(wFH r l=0->∃ d pts,o=some d/\Desk r d pts)/\(wFH r l ≠ 0->o=none):=by
 unfold wBw
 rcases wFo S with ⟨c,e⟩ | ⟨c,d,pts,e,D⟩
 ·have ee:wFH r l=code r:=by unfold wFH;rw [if_neg c]
  refine ⟨none,?_,fun h=>absurd (ee ▸ h) c,fun _=>rfl⟩
  rw [e,hD,ee]
  simp only
  rw [if_neg c]
 ·rw [e,hD]
  simp only
  rw [if_pos trivial,wJh (p:=wFn r) (fun s _=>wHi S s) (by omega),hD]
  by_cases c2:l.all (wFn r)=true
  ·rw [if_pos c2]
   obtain ⟨b,e3,h3⟩:=D.holds
   rw [e3,hD]
   by_cases c3:∃ y,wCw r y
   ·have ee:wFH r l=0:=by unfold wFH;rw [if_pos c,if_pos c2,if_pos c3]
    rw [if_pos (h3.2 c3),ee]
    exact ⟨_,rfl,fun _=>⟨d,pts,rfl,D⟩,fun h=>absurd rfl h⟩
   ·have ee:wFH r l=7:=by unfold wFH;rw [if_pos c,if_pos c2,if_neg c3]
    rw [if_neg (fun h=>c3 (h3.1 h)),ee]
    exact ⟨_,rfl,fun h=>by omega,fun _=>rfl⟩
  ·have ee:wFH r l=1:=by unfold wFH;rw [if_pos c,if_neg c2]
   rw [if_neg c2,ee]
   exact ⟨_,rfl,fun h=>by omega,fun _=>rfl⟩
end Go.Proofs.Ytlnfbjphfoipaaa
namespace Go.Proofs.Ytlnfbjphfoipaaa
open Go.KL Go.KL.Net
open Classical
theorem wKu {r:wAC} (S:wDy r) (a b:wAI) (most:Bool):(wFH r [a,b] ≠ 0->wCq r a b most=some ([],[],wFH r [a,b]))/\(wFH r [a,b]=0->∃ y,IsDP r (pt (if most=true then a else b)) y/\wCq r a b most=some (tt r y,oo r y,0)):=by
 unfold wCq
 obtain ⟨o,e,h0,h1⟩:=wFp S (l:=[a,b]) (by simp)
 rw [e,hD]
 simp only
 constructor
 ·intro c
  have ho:=h1 c
  subst ho
  simp only
  rw [if_neg c]
 ·intro c
  obtain ⟨d,pts,rfl,D⟩:=h0 c
  obtain ⟨C,_,hs,hy⟩:=err0 c
  simp only [nZ,kC,nq,nB] at hs
  have hp:=(wEL (r:=r) (s:=a) hs.1).1
  have hq:=(wEL (r:=r) (s:=b) hs.2).1
  simp only
  rw [if_pos c]
  cases most with
  | true =>
   obtain ⟨f,last,e1,fl,I⟩:=D.from_ hy hp
   obtain ⟨f1,f2⟩:=f
   refine ⟨_,I,?_⟩
   rw [if_pos rfl]
   unfold wBT
   rw [hD,show wAr d.number (⟨a.Skier,a.Mat⟩:wAH) 0=(pos pts (pt a):Int) from (D.pos_ok hp).2.2,e1,hD]
   simp only
   rw [hD]
   simp only
   rw [wIl D fl (y:=fun p=>gd f1 (pos pts p)) (fun _ _=>rfl) I.ok,hD]
  | false =>
   obtain ⟨f,last,e1,fl,I⟩:=D.from_ hy hq
   obtain ⟨f1,f2⟩:=f
   refine ⟨_,I,?_⟩
   rw [if_neg (by simp)]
   unfold wBT
   rw [hD,show wAr d.number (⟨b.Skier,b.Mat⟩:wAH) 0=(pos pts (pt b):Int) from (D.pos_ok hq).2.2,e1,hD]
   simp only
   rw [hD]
   simp only
   rw [wIl D fl (y:=fun p=>gd f1 (pos pts p)) (fun _ _=>rfl) I.ok,hD]
end Go.Proofs.Ytlnfbjphfoipaaa
namespace Go.Proofs.Ytlnfbjphfoipaaa
open Go.KL Go.KL.Net
open Classical
theorem wKv {r:wAC} (C:RC r) {T:List (List Int)} {O:List Int} (L:wLS r T O) (F:wCw r (yT T O)) (bT:∀ i j,i < r.Starts.length->j < r.Splits.length + 1->-100000000 <= gd (gd T i) j/\gd (gd T i) j <= 100000000) (bO:∀ i,i < r.Clocks.length->-100000000 <= gd O i/\gd O i <= 100000000):wBQ r T O=some true:=by
 obtain ⟨h1,h2,h3⟩:=(wJU C).1 F
 have hn:=C.n;have hm:=C.m;have hc:=C.c;have hq:=C.q
 have lt:=L.t;have lo:=L.o
 unfold wBQ
 rw [if_pos (by omega),if_pos (by omega),wEd (by omega) fun i hi=>?_,wDY,wEd (by omega) fun i hi=>?_,wDY,wEd (by omega) fun i hi=>?_,wDY]
 ·have u:=C.ru _ (wCQ hi)
  have ut:=C.rt _ (wCQ hi)
  have uc:=C.ck _ (wCm u.2.2.2.2.1 u.2.2.2.2.2)
  have a1:=bT (gd r.Readings i).Skier.toNat (gd r.Readings i).Mat.toNat (by omega) (by omega)
  have a2:=bO (gd r.Readings i).Clock.toNat (by omega)
  have ll:=L.l (gd r.Readings i).Skier.toNat (by omega)
  have g:=(wBO _ _ _).1 h3 i (by omega) (by omega)
  unfold wMt inB at g
  rw [decide_eq_true_eq] at g
  rw [wCZ hi,hD,wCR u.1 (by omega),hD,wCR u.2.2.1 (by omega),hD,wCR u.2.2.2.2.1 (by omega),hD,wCR u.2.2.2.2.1 (by omega),hD,wAU (x:=(gd r.Readings i).Time - gd (gd T (gd r.Readings i).Skier.toNat) (gd r.Readings i).Mat.toNat) (by omega) (by omega),wAU (x:=_ - gd O (gd r.Readings i).Clock.toNat) (by omega) (by omega),if_neg (by omega),wAU (by omega) (by omega),if_neg (by omega)]
 ·have g:=(wBO _ _ _).1 h2 i (by omega) (by omega)
  unfold wMs inB at g
  rw [decide_eq_true_eq] at g
  rw [wCZ hi,hD,wCZ (by omega),hD,if_neg (by omega),if_neg (by omega)]
 ·have hi':i < T.length:=by omega
  have ll:=L.l i (by omega)
  have g:=(wBO _ _ _).1 h1 i (by omega) (by omega)
  unfold wMO at g
  rw [nB,decide_eq_true_eq] at g
  rw [wCZ hi',hD,wAU (by omega) (by omega),if_pos (by omega),show (0:Int)=((0:Nat):Int) from rfl,wCZ (by omega),hD,wCZ (by omega),hD,if_pos g.1,show ((0:Nat):Int)=0 from rfl,wEd (by omega) fun j hj=>?_]
  ·rfl
  ·have q:=(wBO _ _ _).1 g.2 j (by omega) (by omega)
   unfold inB at q
   rw [decide_eq_true_eq] at q
   have sp:=C.sp _ (wCQ hj)
   have a1:=bT i (j + 1) (by omega) (by omega)
   have a2:=bT i j (by omega) (by omega)
   rw [wCZ hj,hD,wCZ (by omega),hD,wCZ (by omega),hD,if_neg (by omega),wAU (by omega) (by omega),if_neg (by omega),if_neg (by omega)]
end Go.Proofs.Ytlnfbjphfoipaaa
namespace Go.Proofs.Ytlnfbjphfoipaaa
open Go.KL Go.KL.Net
open Classical
theorem wLT {r:wAC} (S:wDy r) {a b:wAI} (c:wFH r [a,b]=0) {f g:Pt->Int} (hf:IsDP r (pt a) f) (hg:IsDP r (pt b) g):wCu r a b=some (⟨-g (pt a),f (pt b)⟩,0):=by
 unfold wCu
 obtain ⟨o,e,h0,_⟩:=wFp S (l:=[a,b]) (by simp)
 obtain ⟨d,pts,rfl,D⟩:=h0 c
 obtain ⟨C,_,hs,hy⟩:=err0 c
 simp only [nZ,kC,nq,nB] at hs
 have ha:=(wEL (r:=r) (s:=a) hs.1).1
 have hb:=(wEL (r:=r) (s:=b) hs.2).1
 obtain ⟨f',l1,e1,n1,F'⟩:=D.from_ hy ha
 obtain ⟨g',l2,e2,n2,G'⟩:=D.from_ hy hb
 have f1:=F'.one hf hb
 have g1:=G'.one hg ha
 have gn:=hg.near C hb ha
 have pa:=D.pos_ok ha
 have pb:=D.pos_ok hb
 rw [e,hD]
 simp only
 rw [if_pos c]
 unfold wBT
 rw [hD,hD]
 show (wAi d (pt a) (pt b)).bind _=_
 unfold wAi
 rw [pa.2.2,pb.2.2,e1,hD]
 simp only
 rw [hD,e2,hD]
 simp only
 rw [hD]
 simp only
 rw [wDN (by omega) (by omega),hD,wDN (by omega) (by omega),hD,hH,hH,f1,g1,wAU (by omega) (by omega)]
 rfl
end Go.Proofs.Ytlnfbjphfoipaaa
namespace Go.Proofs.Ytlnfbjphfoipaaa
open Go.KL Go.KL.Net
open Classical
theorem wHS {r:wAC} {d:wAY} {pts:List Pt} (D:Desk r d pts) (hy:∃ y,wCw r y) {a b:Pt} (ha:wEt r a) (hb:wEt r b) {f g:Pt->Int} (hf:IsDP r a f) (hg:IsDP r b g):wAi d a b=some ⟨-g a,f b⟩:=by
 obtain ⟨f',l1,e1,n1,F'⟩:=D.from_ hy ha
 obtain ⟨g',l2,e2,n2,G'⟩:=D.from_ hy hb
 have f1:=F'.one hf hb
 have g1:=G'.one hg ha
 have gn:=hg.near D.c hb ha
 have pa:=D.pos_ok ha
 have pb:=D.pos_ok hb
 unfold wAi
 rw [pa.2.2,pb.2.2,e1,hD]
 simp only
 rw [hD,e2,hD]
 simp only
 rw [hD]
 simp only
 rw [wDN (by omega) (by omega),hD,wDN (by omega) (by omega),hD,hH,hH,f1,g1,wAU (by omega) (by omega)]
theorem wKw {r:wAC} (S:wDy r) (s:wAI):(wFH r [s] ≠ 0->wCM r s=some (⟨0,0⟩,wFH r [s]))/\(wFH r [s]=0->∀ f g,IsDP r zp f->IsDP r (pt s) g->wCM r s=some (⟨-g zp,f (pt s)⟩,0)):=by
 unfold wCM
 obtain ⟨o,e,h0,h1⟩:=wFp S (l:=[s]) (by simp)
 rw [e,hD]
 simp only
 constructor
 ·intro c
  have ho:=h1 c
  subst ho
  simp only
  rw [if_neg c]
 ·intro c f g hf hg
  obtain ⟨d,pts,rfl,D⟩:=h0 c
  obtain ⟨C,_,hs,hy⟩:=err0 c
  simp only [nZ,kC,nq] at hs
  have hp:=(wEL (r:=r) (s:=s) hs).1
  simp only
  rw [if_pos c]
  unfold wBP wBT
  rw [hD,hD]
  show (wAi d zp (pt s)).bind _=_
  rw [wHS D hy (.inl rfl) hp hf hg]
  rfl
theorem wJW {r:wAC} (S:wDy r) (c:code r=0) (hy:∃ y,wCw r y) {a:Pt} (ha:wEt r a):∃ f,IsDP r a f:=by
 rcases wFo S with ⟨c0,_⟩ | ⟨_,d,pts,_,D⟩
 ·exact absurd c c0
 ·obtain ⟨f,l,_,_,F⟩:=D.from_ hy ha
  exact ⟨_,F⟩
end Go.Proofs.Ytlnfbjphfoipaaa
namespace Go.Proofs.Ytlnfbjphfoipaaa
open Go.KL Go.KL.Net
open Classical
inductive Up (P:Nat->Option Nat):Nat->Prop
 | root {v:Nat}:P v=none->Up P v
 | step {v a:Nat}:P v=some a->Up P a->Up P v
theorem wMu {P P':Nat->Option Nat} {q:Nat->Int} {v a:Nat} (hP:∀ u,u ≠ v->P' u=P u) (hv:P' v=some a) (hq:∀ u x,P u=some x->q x <= q u) (hlt:q a < q v) (ha:Up P a):∀ w,Up P w->Up P' w:=by
 have low:∀ u,Up P u->q u < q v->Up P' u:=by
  intro u h
  induction h with
  | @root u h=>exact fun hu=>.root (by rw [hP u (fun e=>by subst e;omega)];exact h)
  | @step u x h _ ih=>exact fun hu=>.step (by rw [hP u (fun e=>by subst e;omega)];exact h) (ih (by have:=hq u x h;omega))
 intro w h
 induction h with
 | @root u h =>
  by_cases e:u=v
  ·subst e
   exact .step hv (low a ha hlt)
  ·exact .root (by rw [hP u e];exact h)
 | @step u x h _ ih =>
  by_cases e:u=v
  ·subst e
   exact .step hv (low a ha hlt)
  ·exact .step (by rw [hP u e];exact h) ih
def par (es:List wAX) (p:Bool) (by_:List Int) (v:Nat):Option Nat:=if v < by_.length/\0 <= gd by_ v then some (ed p (gd es (gd by_ v).toNat)).a else none
structure BI (n:Nat) (es:List wAX) (p:Bool) (i:Int) (far by_:List Int):Prop where
 fl:far.length=n
 bl:by_.length=n
 pa:∀ v,v < n->(gd by_ v=-1/\gd far v=wGG i v) \/ ∃ k,k < es.length/\gd by_ v=(k:Int)/\(ed p (gd es k)).b=v/\gd far (ed p (gd es k)).a + (ed p (gd es k)).c <= gd far v/\gd far (ed p (gd es k)).a < 1125899906842624
 up:∀ v,v < n->Up (par es p by_) v
section
variable {n:Nat} {es:List wAX} (hes:∀ e ∈ es,wLj n e) {p:Bool} {i:Int} {y:Nat->Int} (hy:wGO (es.map (ed p)) y)
include hes hy
theorem wLq {k:Nat} (hk:k < es.length) {far by_:List Int} {last M:Int} (hM:M <= 1000000000000000) (h0:0 <= M) (hr:∀ v,v < n->gd far v=1125899906842624 \/ (-M <= gd far v/\gd far v <= M)) (I:BI n es p i far by_) {s:SS} (e:spB es p k (far,by_,last)=some s) :
  BI n es p i s.1 s.2.1/\∀ v,v < n->gd s.1 v=1125899906842624 \/ (-(M + 400000) <= gd s.1 v/\gd s.1 v <= M + 400000):=by
 obtain ⟨fl,bl,pa,up⟩:=I
 obtain ⟨ha,hb,e'⟩:=wKJ hes (p:=p) hk (last:=last) fl bl hM h0 hr
 rw [e'] at e
 have hm:=wCQ hk
 have hok:=hes _ hm
 have hc:-400000 <= (ed p (gd es k)).c/\(ed p (gd es k)).c <= 400000:=by
  have:=hok.c0;have:=hok.c1
  unfold ed
  split <;> exact ⟨by assumption,by assumption⟩
 have fe:∀ j,j < es.length->y (ed p (gd es j)).b <= y (ed p (gd es j)).a + (ed p (gd es j)).c:=fun j hj=>hy _ (nS.2 ⟨_,wCQ hj,rfl⟩)
 have hk':=fe k hk
 have ends:∀ j,j < es.length->(ed p (gd es j)).a < n:=fun j hj=>by
  obtain ⟨a1,a2,a3,a4,_,_⟩:=hes _ (wCQ hj)
  unfold ed
  split <;> (simp only;omega)
 by_cases c:gd far (ed p (gd es k)).a < 1125899906842624/\gd far (ed p (gd es k)).a + (ed p (gd es k)).c < gd far (ed p (gd es k)).b
 ·rw [if_pos c] at e
  cases e
  generalize hE:ed p (gd es k)=E at *
  obtain ⟨c1,c2⟩:=c
  have ra:-M <= gd far E.a/\gd far E.a <= M:=by
   rcases hr E.a ha with q | q
   ·omega
   ·exact q
  have hg:∀ v,v < n->gd (far.set E.b (gd far E.a + E.c)) v=if v=E.b then gd far E.a + E.c else gd far v:=fun v hv=>wHM (by omega) (by omega)
  have hB:∀ v,v < n->gd (by_.set E.b (k:Int)) v=if v=E.b then (k:Int) else gd by_ v:=fun v hv=>wHM (by omega) (by omega)
  have hab:E.a ≠ E.b:=fun h=>by rw [h] at c2 hk';omega
  refine ⟨⟨by simp [fl],by simp [bl],fun v hv=>?_,fun v hv=>?_⟩,fun v hv=>?_⟩
  ·simp only
   rw [hg v hv,hB v hv]
   by_cases ev:v=E.b
   ·right
    rw [if_pos ev,if_pos ev]
    refine ⟨k,hk,rfl,by rw [hE,ev],?_,?_⟩
    ·rw [hE,hg _ ha,if_neg hab];exact nm _
    ·rw [hE,hg _ ha,if_neg hab];exact c1
   ·rw [if_neg ev,if_neg ev]
    rcases pa v hv with q | ⟨j,hj,q1,q2,q3,q4⟩
    ·exact .inl q
    ·right
     refine ⟨j,hj,q1,q2,?_,?_⟩
     ·rw [hg _ (ends j hj)]
      split
      ·rename_i h
       rw [h] at q3;omega
      ·exact q3
     ·rw [hg _ (ends j hj)]
      split
      ·omega
      ·exact q4
  ·refine wMu (P:=par es p by_) (q:=fun u=>gd far u - y u) (v:=E.b) (a:=E.a) (fun u hu=>?_) ?_ (fun u x hx=>?_) ?_ (up _ ha) v (up v hv)
   ·unfold par
    simp only [nM]
    by_cases hl:u < by_.length
    ·have:gd (by_.set E.b (k:Int)) u=gd by_ u:=by rw [hB u (by omega),if_neg hu]
     rw [this]
    ·rw [if_neg (fun h=>hl h.1),if_neg (fun h=>hl h.1)]
   ·unfold par
    simp only [nM]
    rw [hB _ hb,if_pos rfl,if_pos ⟨by omega,by omega⟩,hH,hE]
   ·unfold par at hx
    split at hx
    ·rename_i h
     cases hx
     rcases pa u (by omega) with q | ⟨j,hj,q1,q2,q3,q4⟩
     ·omega
     ·rw [q1,hH]
      have:=fe j hj
      rw [q2] at this
      omega
    ·cases hx
   ·omega
  ·simp only
   rw [hg v hv]
   split
   ·right;omega
   ·rcases hr v hv with q | q
    ·exact .inl q
    ·right;omega
 ·rw [if_neg c] at e
  cases e
  refine ⟨⟨fl,bl,pa,up⟩,fun v hv=>?_⟩
  show gd far v=_ \/ (_ <= gd far v/\gd far v <= _)
  rcases hr v hv with q | q
  ·exact .inl q
  ·right;omega
theorem wLr (hl:es.length <= 1000) {far by_:List Int} {M:Int} (hM:M <= 900000000000000) (h0:0 <= M) (hr:∀ v,v < n->gd far v=1125899906842624 \/ (-M <= gd far v/\gd far v <= M)) (I:BI n es p i far by_) {s:SS} (e:wCJ 0 (↑es.length:Int) (spB es p) (far,by_,-1)=some s):BI n es p i s.1 s.2.1:=by
 rw [wEc (by omega)] at e
 obtain ⟨s',e',P⟩:=wFC (body:=spB es p) (fun (j:Nat) s=>BI n es p i s.1 s.2.1/\∀ v,v < n->gd s.1 v=1125899906842624 \/ (-(M + 400000 * (j:Int)) <= gd s.1 v/\gd s.1 v <= M + 400000 * (j:Int))) es.length 0 (far,by_,-1) ⟨I,fun v hv=>by simpa using hr v hv⟩ (by
  rintro j ⟨f,b,la⟩ _ hj ⟨J,rg⟩
  obtain ⟨_,_,e2⟩:=wKJ hes (p:=p) (k:=j) (by omega) (last:=la) J.fl J.bl (M:=M + 400000 * (j:Int)) (by omega) (by omega) rg
  obtain ⟨J2,rg2⟩:=wLq hes hy (k:=j) (by omega) (last:=la) (M:=M + 400000 * (j:Int)) (by omega) (by omega) rg J e2
  refine ⟨_,e2,J2,fun v hv=>?_⟩
  rcases rg2 v hv with q | q
  ·exact .inl q
  ·right;omega)
 rw [e'] at e
 cases e
 exact P.1
end
theorem wKR {d:wAY} {n:Nat} (hn:d.number.length=n) (h1:1 <= n) (h2:n <= 500) (hes:∀ e ∈ d.edges,wLj n e) (hl:d.edges.length <= 1000) (i:Int) (p:Bool) {y:Nat->Int} (hy:wGO (d.edges.map (ed p)) y) {f:wAe} {last:Int} {ok:Bool} (e:wAZ d i p=some (f,last,ok)):BI n d.edges p i f.far f.by_:=by
 unfold wAZ at e
 rw [hn,wFl _ h1 (by omega),hD,wFl _ h1 (by omega),hD,hD] at e
 simp only at e
 obtain ⟨z,e1,y1,y2⟩:=wKM (n:=n) i (l:=hJ n 1125899906842624) (by simp) (by omega) (fun v hv=>by rw [wIF (by simpa using hv)];simp)
 rw [e1,hD,wAU (by omega) (by omega)] at e
 have hn1:((n:Int) + 1)=((n + 1:Nat):Int):=by omega
 rw [hn1,wDu (by omega)] at e
 have gm:∀ v,v < n->gd (hJ n (-1:Int)) v=-1:=fun v hv=>by rw [wIF (by simpa using hv)];simp
 have I0:BI n d.edges p i z (hJ n (-1)):=⟨y1,by simp,fun v hv=>.inl ⟨gm v hv,y2 v hv⟩,fun v hv=>.root (by
  unfold par
  rw [if_neg (fun h=>by rw [gm v hv] at h;omega)])⟩
 rcases wGP (B:=wAe × Int × Bool) (body:=fun (k1336:Nat) ((l1333,l1334,x1335):SS) =>
  (wCJ 0 (↑d.edges.length:Int) (spB d.edges p) (l1333,l1334,-1)).bind fun (y1380,y1381,y1382) =>
  if y1382 < 0 then
   esc (some ((⟨y1380,y1381⟩:wAe),0,true))
  else
   some (.inl (y1380,y1381,y1382))) (fun (t:Nat) s=>BI n d.edges p i s.1 s.2.1/\∀ v,v < n->gd s.1 v=1125899906842624 \/ (-(400000000 * (t:Int)) <= gd s.1 v/\gd s.1 v <= 400000000 * (t:Int))) (fun b=>BI n d.edges p i b.1.far b.1.by_) (n + 1) 0 (z,hJ n (-1),-1)
  ⟨I0,fun v hv=>by simp only;rw [y2 v hv];unfold wGG;split <;> omega⟩ (by
   rintro t ⟨far,by_,la⟩ _ ht ⟨J,rg⟩
   simp only at J rg
   obtain ⟨⟨far',by',last'⟩,e2,P⟩:=wKK hes hl p J.fl J.bl (M:=400000000 * (t:Int)) (by omega) (by omega) rg
   have J2:=wLr hes hy hl (M:=400000000 * (t:Int)) (by omega) (by omega) rg J e2
   simp only at J2 ⊢
   rw [e2,hD]
   simp only
   by_cases c:last' < 0
   ·right
    rw [if_pos c]
    exact ⟨_,rfl,J2⟩
   ·left
    rw [if_neg c]
    refine ⟨_,rfl,J2,fun v hv=>?_⟩
    show gd far' v=_ \/ (_ <= gd far' v/\gd far' v <= _)
    rcases P.rg v hv with q | q
    ·exact .inl q
    ·right;simp only at q;omega) with ⟨⟨far,by_,la⟩,e2,I,_⟩ | ⟨⟨f2,la,o⟩,e2,I⟩
 ·have e:jn (forN (B:=wAe × Int × Bool) (fun (k1336:Nat) ((l1333,l1334,x1335):SS) =>
  (wCJ 0 (↑d.edges.length:Int) (spB d.edges p) (l1333,l1334,-1)).bind fun (y1380,y1381,y1382) =>
  if y1382 < 0 then
   esc (some ((⟨y1380,y1381⟩:wAe),0,true))
  else
   some (.inl (y1380,y1381,y1382))) (n + 1) 0 (z,hJ n (-1),-1)) (fun (a,b,c)=>some ((⟨a,b⟩:wAe),c,false))=some (f,last,ok):=e
  rw [e2] at e
  cases e
  exact I
 ·have e:jn (forN (B:=wAe × Int × Bool) (fun (k1336:Nat) ((l1333,l1334,x1335):SS) =>
  (wCJ 0 (↑d.edges.length:Int) (spB d.edges p) (l1333,l1334,-1)).bind fun (y1380,y1381,y1382) =>
  if y1382 < 0 then
   esc (some ((⟨y1380,y1381⟩:wAe),0,true))
  else
   some (.inl (y1380,y1381,y1382))) (n + 1) 0 (z,hJ n (-1),-1)) (fun (a,b,c)=>some ((⟨a,b⟩:wAe),c,false))=some (f,last,ok):=e
  rw [e2] at e
  cases e
  exact I
end Go.Proofs.Ytlnfbjphfoipaaa
namespace Go.Proofs.Ytlnfbjphfoipaaa
open Go.KL Go.KL.Net
open Classical
def Fol (r:wAC):Pt->List wAD->Pt->Int->Prop
 | p,[],q,s=>p=q/\s=0
 | p,x :: l,q,s=>wDM r x/\(wCS r x).1=p/\Fol r (wCS r x).2.1 l q (s - (wCS r x).2.2)
theorem Fol.snoc {r:wAC} {x:wAD} (hx:wDM r x):∀ {p:Pt} {l:List wAD} {s:Int},Fol r p l (wCS r x).1 s->Fol r p (l ++ [x]) (wCS r x).2.1 (s + (wCS r x).2.2)
 | p,[],s,⟨h1,h2⟩=>⟨hx,h1.symm,rfl,by omega⟩
 | p,z :: l,s,⟨h1,h2,h3⟩=>⟨h1,h2,by
  have:=Fol.snoc hx h3
  rwa [show s - (wCS r z).2.2 + (wCS r x).2.2=s + (wCS r x).2.2 - (wCS r z).2.2 by omega] at this⟩
theorem Fol.ok {r:wAC}:∀ {p:Pt} {l:List wAD} {q:Pt} {s:Int},Fol r p l q s->∀ x ∈ l,wDM r x
 | _,[],_,_,_=>fun _ h=>by cases h
 | _,z :: l,_,_,⟨h1,_,h3⟩=>fun x hx=>by
  rcases np.1 hx with rfl | h
  ·exact h1
  ·exact h3.ok x h
theorem wIm:∀ (n:Nat) (f:Nat->Nat),(∀ k,k <= n + 1->f k <= n)->∃ i j,i < j/\j <= n + 1/\f i=f j
 | 0,f,h=>⟨0,1,by omega,by omega,by have:=h 0 (by omega);have:=h 1 (by omega);omega⟩
 | n + 1,f,h=>by
  rcases kO (∃ i,i <= n + 1/\f i=f (n + 2)) with ⟨i,h1,h2⟩ | hne
  ·exact ⟨i,n + 2,by omega,by omega,h2⟩
  ·have hne':∀ i,i <= n + 1->f i ≠ f (n + 2):=fun i hi e=>hne ⟨i,hi,e⟩
   have hl:=h (n + 2) (by omega)
   obtain ⟨i,j,h1,h2,h3⟩:=wIm n (fun k=>if f k=n + 1 then f (n + 2) else f k) (fun k hk=>by
    have a:=h k (by omega);have b:=hne' k hk
    show (if f k=n + 1 then f (n + 2) else f k) <= n
    split <;> omega)
   refine ⟨i,j,h1,by omega,?_⟩
   have a:=hne' i (by omega);have b:=hne' j h2
   split at h3 <;> split at h3 <;> omega
def cod (p:Pt):Nat:=if p=zp then 0 else if 0 <= p.skier then 1 + p.skier.toNat * 8 + p.mat.toNat else 64 + p.mat.toNat
theorem wMv {r:wAC} {d:wAY} {pts:List Pt} (D:Desk r d pts):pts.length <= 69:=by
 have hn:=D.c.n;have hm:=D.c.m;have hc:=D.c.c
 have key:∀ p,wEt r p->cod p <= 68:=fun p hp=>by
  unfold cod
  by_cases c0:p=zp
  ·rw [if_pos c0];omega
  ·rw [if_neg c0]
   rcases hp.resolve_left c0 with ⟨a,b,c,e⟩ | ⟨a,b,c⟩
   ·rw [if_pos a];omega
   ·rw [if_neg (by omega)];omega
 have inj:∀ p q,wEt r p->wEt r q->cod p=cod q->p=q:=fun p q hp hq e=>by
  have ext:∀ {p q:Pt},p.skier=q.skier->p.mat=q.mat->p=q:=fun {p q} h1 h2=>by cases p;cases q;simp only at h1 h2;rw [h1,h2]
  unfold cod at e
  by_cases c1:p=zp
  ·by_cases c2:q=zp
   ·rw [c1,c2]
   ·exfalso
    rw [if_pos c1,if_neg c2] at e
    rcases hq with h | ⟨a,b,c,e'⟩ | ⟨a,b,c⟩
    ·exact c2 h
    ·rw [if_pos a] at e;omega
    ·rw [if_neg (by omega)] at e;omega
  ·rw [if_neg c1] at e
   by_cases c2:q=zp
   ·exfalso
    rw [if_pos c2] at e
    rcases hp with h | ⟨a,b,c,e'⟩ | ⟨a,b,c⟩
    ·exact c1 h
    ·rw [if_pos a] at e;omega
    ·rw [if_neg (by omega)] at e;omega
   ·rw [if_neg c2] at e
    have hp:=hp.resolve_left c1
    have hq:=hq.resolve_left c2
    rcases hp with ⟨a,b,c,e'⟩ | ⟨a,b,c⟩ <;> rcases hq with ⟨a',b',c',e''⟩ | ⟨a',b',c'⟩
    ·rw [if_pos a,if_pos a'] at e;exact ext (by omega) (by omega)
    ·rw [if_pos a,if_neg (by omega)] at e;omega
    ·rw [if_neg (by omega),if_pos a'] at e;omega
    ·rw [if_neg (by omega),if_neg (by omega)] at e;exact ext (by omega) (by omega)
 rcases kA 69 pts.length with h | h
 ·exfalso
  obtain ⟨i,j,h1,h2,h3⟩:=wIm 68 (fun k=>if k < pts.length then cod (gd pts k) else 0) (fun k hk=>by
   rw [if_pos (by omega)]
   exact key _ (D.gd_ok (by omega)).1)
  rw [if_pos (by omega),if_pos (by omega)] at h3
  have e:=inj _ _ (D.gd_ok (v:=i) (by omega)).1 (D.gd_ok (v:=j) (by omega)).1 h3
  rw [wIF (show i < pts.length by omega),wIF (show j < pts.length by omega)] at e
  have:=(List.getElem_inj D.nd).1 e
  omega
 ·exact h
inductive Way (i:Nat) (es:List wAX) (by_:List Int):Nat->List Nat->Prop
 | root:gd by_ i=-1->Way i es by_ i []
 | step {v k:Nat} {l:List Nat}:k < es.length->gd by_ v=(k:Int)->(gd es k).to_.toNat=v->Way i es by_ (gd es k).from_.toNat l->Way i es by_ v (k :: l)
theorem Way.one {i:Nat} {es:List wAX} {by_:List Int}:∀ {v:Nat} {l m:List Nat},Way i es by_ v l->Way i es by_ v m->l=m
 | _,_,_,.root _,.root _=>rfl
 | _,_,_,.root h,.step _ h2 _ _=>by omega
 | _,_,_,.step _ h _ _,.root h2=>by omega
 | _,_,_,.step _ h _ w,.step _ h2 _ w2=>by
  rw [h] at h2
  have:=Int.ofNat.inj h2
  subst this
  rw [w.one w2]
theorem Way.end_ {i:Nat} {es:List wAX} {by_:List Int}:∀ {v:Nat} {l:List Nat},Way i es by_ v l->gd by_ i=-1
 | _,_,.root h=>h
 | _,_,.step _ _ _ w=>w.end_
def nd (es:List wAX):Nat->List Nat->Nat->Nat
 | v,_,0=>v
 | v,[],_ + 1=>v
 | _,e :: l,k + 1=>nd es (gd es e).from_.toNat l k
theorem Way.at_ {i:Nat} {es:List wAX} {by_:List Int}:∀ {v:Nat} {l:List Nat} (k:Nat),Way i es by_ v l->k <= l.length->Way i es by_ (nd es v l k) (l.drop k)
 | _,_,0,w,_=>w
 | _,_,_ + 1,.root _,h=>absurd h (by simp)
 | _,_,k + 1,.step _ _ _ w,h=>w.at_ k (by simpa using h)
theorem Way.len {i n:Nat} {es:List wAX} {by_:List Int} (hes:∀ e ∈ es,wLj n e) {v:Nat} {l:List Nat} (w:Way i es by_ v l) (hv:v < n):l.length < n:=by
 have hlt:∀ k,∀ {v:Nat} {l:List Nat},Way i es by_ v l->v < n->k <= l.length->nd es v l k < n:=by
  intro k
  induction k with
  | zero=>exact fun _ h _=>h
  | succ k ih =>
   intro v l w hv h
   cases w with
   | root _=>simp at h
   | step h1 _ _ w =>
    have q:=hes _ (wCQ h1)
    exact ih w (by have:=q.f0;have:=q.f1;omega) (by simpa using h)
 rcases kA l.length n with h | h
 ·exact h
 ·exfalso
  have hn:0 < n:=by omega
  obtain ⟨a,b,h1,h2,h3⟩:=wIm (n - 1) (fun k=>if k <= l.length then nd es v l k else 0) (fun k hk=>by
   rw [if_pos (by omega)]
   have:=hlt k w hv (by omega)
   omega)
  rw [if_pos (by omega),if_pos (by omega)] at h3
  have wa:=w.at_ a (by omega)
  have wb:=w.at_ b (by omega)
  rw [h3] at wa
  have:=congrArg List.length (wa.one wb)
  rw [nj,nj] at this
  omega
section
variable {r:wAC} {d:wAY} {pts:List Pt} (D:Desk r d pts)
include D
theorem Desk.edge {k:Nat} (hk:k < d.edges.length):∃ x,wDM r x/\(gd d.edges k).step=x/\(gd d.edges k).from_=(pos pts (wCS r x).1:Int)/\(gd d.edges k).to_=(pos pts (wCS r x).2.1:Int)/\(gd d.edges k).count=(wCS r x).2.2:=by
 have hm:=wCQ hk
 rw [D.edges] at hm
 obtain ⟨x,hx,e⟩:=nS.1 hm
 have hx:=wDV.1 hx
 obtain ⟨o1,o2,_,_⟩:=wDb D.c hx
 rw [D.edges,<- e]
 exact ⟨x,hx,rfl,(wGH D.nd ((D.all _).2 o1)).2.2.1,(wGH D.nd ((D.all _).2 o2)).2.2.1,rfl⟩
theorem wKS {f:wAe} {i:Nat} (hb:f.by_.length=pts.length) {g:Int->Option Bool} (hg:∀ v:Nat,v < pts.length->v ≠ i->g (v:Int)=some false) {v:Nat} {l:List Nat} (w:Way i d.edges f.by_ v l):∀ (out:List wAD) (F:Nat),v < pts.length->out.length + l.length <= 200->l.length < F ->
  wCD F (v:Int) f out g d ()=some (out ++ l.map fun k=>(gd d.edges k).step):=by
 induction w with
 | root h =>
  intro out F hv _ hF
  obtain ⟨G,rfl⟩:∃ G,F=G + 1:=⟨F - 1,by simp at hF;omega⟩
  show wBF _ _ _ _ _ _ _=_
  unfold wBF
  rw [wCZ (by omega),hD,h,if_pos (by omega),hD,if_pos rfl]
  simp
 | @step v k l hk h ht w ih =>
  intro out F hv ho hF
  simp only [nA] at ho hF
  obtain ⟨G,rfl⟩:∃ G,F=G + 1:=⟨F - 1,by omega⟩
  obtain ⟨x,hx,e1,e2,e3,e4⟩:=D.edge hk
  obtain ⟨o1,o2,_,_⟩:=wDb D.c hx
  have p1:=(D.pos_ok o1).1
  show wBF _ _ _ _ _ _ _=_
  unfold wBF
  have cond:((idx f.by_ (v:Int)).bind fun x7=>if x7 < 0 then some true else if 0 < (↑out.length:Int) then (g (v:Int)).bind fun x20=>some x20 else some false)=some false:=by
   rw [wCZ (by omega),hD,h,if_neg (by omega)]
   split
   ·rw [hg v hv,hD]
    intro e
    subst e
    have:=w.end_
    omega
   ·rfl
  rw [cond,hD,if_neg (by simp),wCZ (by omega),hD,h,wCZ hk,hD,wEq (by simp only [nA,nG];omega),hD]
  have:=ih (out ++ [(gd d.edges k).step]) G (by omega) (by simp only [nN,nA,nG];omega) (by omega)
  rw [show ((gd d.edges k).from_.toNat:Int)=(gd d.edges k).from_ by omega] at this
  rw [this,hD,List.map_cons,nv]
  rfl
theorem wLs {a:Pt} (ha:wEt r a) {y:Pt->Int} {by_:List Int} (tight:∀ (k:Nat) (v:Nat),k < d.edges.length->v < pts.length->gd by_ v=(k:Int)->(gd d.edges k).to_=(v:Int)->y (gd pts v)=y (gd pts (gd d.edges k).from_.toNat) + (gd d.edges k).count) {v:Nat} {l:List Nat} (w:Way (pos pts a) d.edges by_ v l) (hv:v < pts.length):Fol r a (l.reverse.map fun k=>(gd d.edges k).step) (gd pts v) (y (gd pts v) - y a):=by
 induction w with
 | root h =>
  have:=(D.pos_ok ha).2.1
  exact ⟨this.symm,by rw [this];omega⟩
 | @step v k l hk h ht w ih =>
  obtain ⟨x,hx,e1,e2,e3,e4⟩:=D.edge hk
  obtain ⟨o1,o2,_,_⟩:=wDb D.c hx
  have p1:=D.pos_ok o1
  have p2:=D.pos_ok o2
  have i1:=ih (by omega)
  have hf:(gd d.edges k).from_.toNat=pos pts (wCS r x).1:=by omega
  have hv2:v=pos pts (wCS r x).2.1:=by omega
  have t:=tight k v hk hv h (by omega)
  rw [hf,p1.2.1] at i1 t
  have s:=Fol.snoc hx i1
  rw [List.reverse_cons,List.map_append,List.map_cons,List.map_nil,e1]
  rw [hv2,p2.2.1] at t ⊢
  rwa [show y (wCS r x).1 - y a + (wCS r x).2.2=y (wCS r x).2.1 - y a by omega] at s
end
end Go.Proofs.Ytlnfbjphfoipaaa
namespace Go.Proofs.Ytlnfbjphfoipaaa
open Go.KL Go.KL.Net
open Classical
theorem wKT {r:wAC} (S:wDy r) {x:wAD} (h:wDM r x):wBW r x=some true:=by
 have hn:=S.n;have hm:=S.m;have hc:=S.c;have hq:=S.q
 unfold wBW
 rcases h with ⟨k,a,b,c⟩ | ⟨k,a,b,c,e⟩ | ⟨k,a,b,c⟩ | ⟨k,a,b,c⟩
 ·rw [if_pos k,wEu,hD,if_pos (by unfold inB;rw [decide_eq_true_eq];omega),show wAt=some () from rfl,hD]
  unfold wDf
  rw [wAU (by omega) (by omega),wEu,hD,if_pos (by unfold inB;rw [decide_eq_true_eq];omega),hD,decide_eq_true c]
 ·rw [if_neg (by omega),if_pos k,wEu,hD,if_pos (by unfold inB;rw [decide_eq_true_eq];omega),show wAt=some () from rfl,hD]
  unfold wDi
  rw [wAU (by omega) (by omega),wEu,hD,if_pos (by unfold inB;rw [decide_eq_true_eq];omega),wAU (by omega) (by omega),wEu,hD,hD]
  congr 1
  unfold inB;rw [decide_eq_true_eq];omega
 ·rw [if_neg (by omega),if_neg (by omega),if_pos k,wEu,hD,if_pos (by unfold inB;rw [decide_eq_true_eq];omega),show wAt=some () from rfl,hD]
  unfold wDl
  rw [if_pos a,wAU (by omega) (by omega),wEu,hD,hD]
  congr 1
  unfold inB;rw [decide_eq_true_eq];omega
 ·rw [if_neg (by omega),if_neg (by omega),if_neg (by omega),if_pos k,wEu,hD,if_pos (by unfold inB;rw [decide_eq_true_eq];omega),show wAt=some () from rfl,hD]
  unfold wDQ
  rw [if_pos a,wAU (by omega) (by omega),wEu,hD,hD]
  congr 1
  unfold inB;rw [decide_eq_true_eq];omega
theorem wJi {l:List wAD} {f:wAD->Option Bool} {p:wAD->Bool} (hf:∀ a ∈ l,f a=some (p a)) (hn:l.length <= 1000):wBX l f=some (l.all p):=by
 unfold wBX
 refine (wEo (R:=Bool) (p:=p) (z:=false) (K:=fun _=>some true) (fun a ha=>?_) (by omega)).trans ?_
 ·rw [hf a ha,hD];split <;> rfl
 ·split <;> simp_all
theorem wKU {r:wAC} (C:RC r) {l:List wAD} (hl:l.length <= 100) {p q:Pt} {s:Int} (h:Fol r p l q s):wBY r p l=some (q,s,true):=by
 unfold wBY
 rw [wDu (by omega)]
 have key:∀ (m k:Nat) (p:Pt) (t s:Int),k + m=l.length->Fol r p (l.drop k) q s->-400000 * (k:Int) <= t->t <= 400000 * (k:Int)->forN (B:=wAH × Int × Bool) (fun (k27:Nat) ((x24,x25,x26):Int × Int × Int) =>
  (idx l (↑k27:Int)).bind fun x50 =>
  (wAw r x50).bind fun (x69,x70,x71) =>
  if x69=(⟨x24,x25⟩:wAH) then
   some (.inl (x70.skier,x70.mat,w64 (x26 + x71)))
  else
   esc (some ((⟨x24,x25⟩:wAH),0,false))) m k (p.skier,p.mat,t)=some (.inl (q.skier,q.mat,t + s)):=by
  intro m
  induction m with
  | zero =>
   intro k p t s hk hf _ _
   rw [kH (by omega)] at hf
   obtain ⟨rfl,rfl⟩:=hf
   rw [Int.add_zero]
   rfl
  | succ m ih =>
   intro k p t s hk hf h1 h2
   have hk':k < l.length:=by omega
   rw [wLi hk'] at hf
   obtain ⟨f1,f2,f3⟩:=hf
   have c:=(wDb C f1).2.2
   have e:=wHe C f1
   generalize wCS r (gd l k)=L at e f2 f3 c
   obtain ⟨L1,L2,L3⟩:=L
   simp only at f2 f3 c
   rw [forN,wCZ hk']
   simp only [hD,e]
   rw [if_pos (by rw [f2]),wAU (by omega) (by omega)]
   have:=ih (k + 1) L2 (t + L3) (s - L3) (by omega) f3 (by omega) (by omega)
   rw [show t + L3 + (s - L3)=t + s by omega] at this
   exact this
 have:=key l.length 0 p 0 s (by omega) (by simpa using h) (by omega) (by omega)
 rw [Int.zero_add] at this
 erw [this]
 rfl
theorem wIN {r:wAC} (S:wDy r) (c:code r=0) {a b:wAI} (ha:wFn r a=true) (hb:wFn r b=true) {l:List wAD} (hl:l.length <= 80) {s:Int} (h:Fol r (pt a) l (pt b) s):wBu r a b l=some (s,0):=by
 have C:=wHh c
 unfold wBu
 rw [wGC S,hD,if_pos c,wHi S,hD,show (inB a.Skier 0 ((r.Starts.length:Int) - 1) && inB a.Mat 0 r.Splits.length)=true from ha,if_pos rfl,wHi S,hD,show (inB b.Skier 0 ((r.Starts.length:Int) - 1) && inB b.Mat 0 r.Splits.length)=true from hb,if_pos rfl]
 unfold wCE
 rw [if_neg (by omega),wJi (p:=fun _=>true) (fun x hx=>wKT S (h.ok x hx)) (by omega),hD,if_pos (by simp),hD,if_pos rfl]
 unfold wBT
 rw [hD]
 show ((wBY r (pt a) l).bind _).bind _=_
 rw [wKU C (by omega) h,hD]
 simp only
 rw [hD]
 simp only
 rw [if_pos trivial,hD]
 exact if_pos rfl
theorem wJj {l:List wAD} (hl:l.length <= 1000):wAf l=some l.reverse:=by
 unfold wAf
 exact wKq (by omega)
theorem wJX {r:wAC} (S:wDy r) {a b:wAI} (c:wFH r [a,b]=0) {f:Pt->Int} (hf:IsDP r (pt a) f):∃ l,wCc r a b=some (l,0)/\Fol r (pt a) l (pt b) (f (pt b))/\l.length <= 80:=by
 unfold wCc
 obtain ⟨o,e,h0,_⟩:=wFp S (l:=[a,b]) (by simp)
 obtain ⟨d,pts,rfl,D⟩:=h0 c
 obtain ⟨C,_,hs,hy⟩:=err0 c
 simp only [nZ,kC,nq,nB] at hs
 have ha:=(wEL (r:=r) (s:=a) hs.1).1
 have hb:=(wEL (r:=r) (s:=b) hs.2).1
 obtain ⟨g,last,e1,n1,G⟩:=D.from_ hy ha
 obtain ⟨y,F⟩:=id hy
 have I:=wKR D.nlen D.len.1 (by have:=D.len.2;omega) D.edOK D.elen (pos pts (pt a):Int) false (D.feas F) e1
 have pa:=D.pos_ok ha
 have pb:=D.pos_ok hb
 have eda:∀ e:wAX,ed false e=⟨e.from_.toNat,e.to_.toNat,e.count⟩:=fun e=>rfl
 have near:∀ v,v < pts.length->gd g.far v < 1125899906842624:=fun v hv=>by
  have h:=(G.near C ha (D.gd_ok hv).1).2
  rw [(D.gd_ok hv).2] at h
  omega
 have tight:∀ (k:Nat) (v:Nat),k < d.edges.length->v < pts.length->gd g.by_ v=(k:Int)->(gd d.edges k).to_=(v:Int)->gd g.far (pos pts (gd pts v))=gd g.far (pos pts (gd pts (gd d.edges k).from_.toNat)) + (gd d.edges k).count:=fun k v hk hv h1 h2=>by
  obtain ⟨x,hx,e1,e2,e3,e4⟩:=D.edge hk
  obtain ⟨o1,o2,_,_⟩:=wDb C hx
  have p1:=D.pos_ok o1
  have p2:=D.pos_ok o2
  have le:=G.ok x hx
  rcases I.pa v hv with ⟨q,_⟩ | ⟨k',_,q1,_,q2,_⟩
  ·omega
  ·have:k'=k:=by omega
   subst this
   rw [eda] at q2
   simp only at q2
   rw [(D.gd_ok hv).2,e2,hH,p1.2.1,e4]
   rw [e2,hH,e4] at q2
   have hv2:v=pos pts (wCS r x).2.1:=by omega
   rw [hv2] at q2 ⊢
   omega
 have way:∀ v,Up (par d.edges false g.by_) v->v < pts.length->∃ l,Way (pos pts (pt a)) d.edges g.by_ v l:=by
  intro v h
  induction h with
  | @root v h =>
   intro hv
   rcases I.pa v hv with ⟨q1,q2⟩ | ⟨k,_,q1,_⟩
   ·have:=near v hv
    unfold wGG at q2
    split at q2
    ·rename_i t
     rcases t with t | t
     ·omega
     ·have:v=pos pts (pt a):=by omega
      subst this
      exact ⟨[],.root q1⟩
    ·omega
   ·unfold par at h
    rw [if_pos ⟨by rw [I.bl];exact hv,by omega⟩] at h
    cases h
  | @step v x h _ ih =>
   intro hv
   unfold par at h
   split at h
   ·rename_i t
    cases h
    rcases I.pa v hv with ⟨q1,_⟩ | ⟨k,hk,q1,q2,_⟩
    ·omega
    ·rw [q1,hH] at ih
     have q:=D.edOK _ (wCQ hk)
     rw [eda] at q2 ih
     simp only at q2 ih
     obtain ⟨l,w⟩:=ih (by have:=q.f0;have:=q.f1;omega)
     exact ⟨k :: l,.step hk q1 q2 w⟩
   ·cases h
 obtain ⟨l,w⟩:=way _ (I.up _ pb.1) pb.1
 have hl:=w.len D.edOK pb.1
 have h69:=wMv D
 have fol:=wLs D ha (y:=fun p=>gd g.far (pos pts p)) tight w pb.1
 refine ⟨l.reverse.map fun k=>(gd d.edges k).step,?_,?_,by simp;omega⟩
 ·rw [e,hD]
  simp only
  rw [if_pos c]
  unfold wBT
  rw [hD,hD]
  show ((wAZ d (wAr d.number (pt a) 0) false).bind _)=_
  rw [pa.2.2,e1,hD]
  simp only
  rw [hD]
  rw [show wAr d.number (⟨a.Skier,a.Mat⟩:wAH) 0=(pos pts (pt a):Int) from pa.2.2,show wAr d.number (⟨b.Skier,b.Mat⟩:wAH) 0=(pos pts (pt b):Int) from pb.2.2]
  unfold wCY
  rw [wKS D (by rw [I.bl]) (fun v _ hv=>by unfold wCl;rw [decide_eq_false (by omega)]) w [] 1000 pb.1 (by simp;omega) (by omega),hD,kE,wJj (by simp;omega),hD,hD,List.map_reverse]
 ·have h1:=G.one hf hb
  have h2:=G.zero
  rw [pb.2.1,h2,Int.sub_zero] at fol
  rwa [h1] at fol
end Go.Proofs.Ytlnfbjphfoipaaa
namespace Go.Proofs.Ytlnfbjphfoipaaa
open Go.KL
theorem wKV {a b:Int} (h0:0 <= a) (hb:0 < b):∃ x,rem a b=some x/\0 <= x/\x < b:=by
 refine ⟨a.tmod b,if_neg (by omega),?_,?_⟩
 ·rw [nt h0];exact Int.emod_nonneg _ (by omega)
 ·rw [nt h0];exact Int.emod_lt_of_pos _ hb
theorem wIn (x:Int):0 <= wEv x:=by unfold wEv;omega
theorem wLt (x:Int):wEv x < 4294967296:=by unfold wEv;omega
theorem w64u (x:Int):w64 (wEv x)=wEv x:=by
 have:=wIn x
 have:=wLt x
 exact wAU (by omega) (by omega)
theorem wKx (a:Int) {b:Int} (hb:b ≠ 0):∃ x,quo a b=some x:=⟨_,if_neg hb⟩
theorem wDd (d:wAK) (n:Int) (h0:0 <= d.next) (h1:d.next <= 1000000):∃ x d',wAN d n=some (x,d')/\0 <= d'.next/\d'.next <= d.next + 1/\0 <= x/\(x < n \/ (n <= 1/\x=0)):=by
 unfold wAN
 by_cases hn:n <= 1
 ·exact ⟨0,d,by rw [if_pos hn],h0,by omega,by omega,.inr ⟨hn,rfl⟩⟩
 rw [if_neg hn]
 by_cases hl:(d.bytes.length:Int)=0
 ·exact ⟨0,d,by rw [if_pos hl],h0,by omega,by omega,.inl (by omega)⟩
 rw [if_neg hl]
 obtain ⟨r,e1,r0,r1⟩:=wKV h0 (show (0:Int) < d.bytes.length by omega)
 obtain ⟨b,e2⟩:∃ b,idx d.bytes r=some b:=by
  unfold idx
  rw [if_pos r0,nP (by omega)]
  exact ⟨_,rfl⟩
 obtain ⟨q,e3⟩:=wKx d.next (b:=d.bytes.length) hl
 obtain ⟨st,e4,_,_⟩:=wKV (wIn ((wEv ((wEv ((wEv (d.state * 45)) + (wEv b))) + (wEv (77 * (wEv q))))) + 1)) (b:=65519) (by decide)
 rw [e1,hD,e2,hD,e3,hD,e4,hD,wAU (x:=d.next + 1) (by omega) (by omega)]
 have fin:∀ z:Int,∃ x d',((rem (w64 (wEv z)) n).bind fun x=>some (x,(⟨d.bytes,d.next + 1,st⟩:wAK)))=some (x,d')/\0 <= d'.next/\d'.next <= d.next + 1/\0 <= x/\(x < n \/ (n <= 1/\x=0)):=by
  intro z
  obtain ⟨x,e5,x0,x1⟩:=wKV (a:=w64 (wEv z)) (b:=n) (by rw [w64u];exact wIn z) (by omega)
  exact ⟨x,_,by rw [e5];rfl,by show 0 <= d.next + 1;omega,by show d.next + 1 <= _;omega,x0,.inl x1⟩
 by_cases c1:wEv q=0
 ·rw [if_pos c1]
  by_cases c2:n <= 256
  ·rw [if_pos c2];exact fin _
  ·rw [if_neg c2];exact fin _
 ·rw [if_neg c1];exact fin _
theorem wFT (d:wAK) (a b:Int) (h0:0 <= d.next) (h1:d.next <= 1000000) (ha:-1000000 <= a) (hab:a <= b) (hb:b <= 1000000):∃ x d',wAR d a b=some (x,d')/\0 <= d'.next/\d'.next <= d.next + 1/\a <= x/\x <= b:=by
 unfold wAR
 rw [wAU (x:=b - a) (by omega) (by omega),wAU (x:=b - a + 1) (by omega) (by omega)]
 obtain ⟨x,d',e,n0,n1,x0,x1⟩:=wDd d (b - a + 1) h0 h1
 refine ⟨a + x,d',?_,n0,n1,by omega,by omega⟩
 rw [e,hD]
 simp only
 rw [wAU (by omega) (by omega)]
end Go.Proofs.Ytlnfbjphfoipaaa
namespace Go.Proofs.Ytlnfbjphfoipaaa
open Go.KL Go.KL.Net
open Classical
theorem wLu {r:wAC} (C:RC r):code r=0:=by
 unfold code
 rw [if_neg (fun h=>h C.n),if_neg (by have:=C.m;omega),if_neg (by have:=C.c;omega),if_neg (by have:=C.q;omega),if_pos (nI.2 fun s hs=>by
  have:=C.st s hs
  unfold stP inB
  rw [decide_eq_true_eq];omega),if_pos (nI.2 fun s hs=>by
  have:=C.sp s hs
  unfold spP wKr
  rw [decide_eq_true_eq];omega),if_pos (nI.2 fun s hs=>by
  have:=C.ck s hs
  unfold ckP wKr inB
  rw [nB,decide_eq_true_eq,decide_eq_true_eq];omega),if_pos (nI.2 fun s hs=>by
  have:=C.rt s hs
  unfold rtP inB
  rw [decide_eq_true_eq];omega),if_pos (nI.2 fun s hs=>by
  have:=C.ru s hs
  unfold ruP inB
  rw [nB,nB,decide_eq_true_eq,decide_eq_true_eq,decide_eq_true_eq];omega)]
theorem wEE {S:Type} {body:Nat->S->Option S} {n:Nat} {s0:S} (I:Nat->S->Prop) (hn:n <= 1000) (h0:I 0 s0) (h:∀ i s,i < n->I i s->∃ s',body i s=some s'/\I (i + 1) s'):∃ s,wCJ 0 (n:Int) body s0=some s/\I n s:=by
 rw [wEc (by omega)]
 have:=wFC (body:=body) I n 0 s0 h0 fun i s _ h2 h3=>h i s (by omega) h3
 rwa [nV] at this
theorem wHl {α:Type} {l:List α} {a:α} {P:α->Prop} (h:∀ x ∈ l,P x) (ha:P a):∀ x ∈ l ++ [a],P x:=fun x hx=>by
 rcases nT.1 hx with h1 | h1
 ·exact h x h1
 ·rw [nL.1 h1];exact ha
def m1B:Nat->List Int × Int × Int × List Int->Option (List Int × Int × Int × List Int):=fun k62 (l53,x56,x57,l58) =>
  (wAN (⟨l53,x56,x57⟩:wAK) 4).bind fun (x142,x143) =>
  (wAN x143 3).bind fun (x156,x157) =>
  (app 8 l58 [w64 ((w64 (300 * x142)) + x156)]).bind fun x175 =>
  some (x157.bytes,x157.next,x157.state,x175)
def m2B:Nat->List Int × Int × Int × List wAJ->Option (List Int × Int × Int × List wAJ):=fun k274 (l265,x268,x269,l270) =>
  (wAR (⟨l265,x268,x269⟩:wAK) 3 9).bind fun (x305,x306) =>
  (wAN x306 30).bind fun (x353,x354) =>
  (app 16 l270 [(⟨w64 (100 * x305),w64 ((w64 (100 * x305)) + (w64 (10 * x353)))⟩:wAJ)]).bind fun x372 =>
  some (x354.bytes,x354.next,x354.state,x372)
def m3I (y282:List wAJ):Nat->List Int × Int × Int × Int × List Int->Option (List Int × Int × Int × Int × List Int):=fun k541 (l532,x535,x536,x537,l538) =>
      (chk (↑k541:Int) y282.length).bind fun _ =>
      (wAR (⟨l532,x535,x536⟩:wAK) ((gd y282 k541).Lo) ((gd y282 k541).Hi)).bind fun (x589,x590) =>
      (app 8 l538 [w64 (x537 + x589)]).bind fun x609 =>
      some (x590.bytes,x590.next,x590.state,w64 (x537 + x589),x609)
def m3B (y70:List Int) (y282:List wAJ):Nat->List Int × Int × Int × List (List Int)->Option (List Int × Int × Int × List (List Int)):=fun k460 (l450,x453,x454,l455) =>
  (chk (↑k460:Int) y70.length).bind fun _ =>
  (wCJ 0 (↑y282.length:Int) (m3I y282) (l450,x453,x454,(gd y70 k460),[(gd y70 k460)])).bind fun (y546,y547,y548,y549,y550) =>
  (app 24 l455 [y550]).bind fun x672 =>
  some (y546,y547,y548,x672)
def m4B:Nat->List Int × Int × Int × List wAM × List Int->Option (List Int × Int × Int × List wAM × List Int):=fun k792 (l779,x782,x783,l784,l788) =>
  (wAR (⟨l779,x782,x783⟩:wAK) (-60) 20).bind fun (x826,x827) =>
  (wAN x827 50).bind fun (x840,x841) =>
  (wAN x841 6).bind fun (x854,x855) =>
  (app 24 l784 [(⟨(⟨x826,w64 (x826 + x840)⟩:wAJ),x854⟩:wAM)]).bind fun x880 =>
  (wAR x855 x826 (w64 (x826 + x840))).bind fun (x888,x889) =>
  (app 8 l788 [x888]).bind fun x908 =>
  some (x889.bytes,x889.next,x889.state,x880,x908)
def m5B (y70:List Int) (y282:List wAJ) (y468:List (List Int)) (y800:List wAM) (y801:List Int):Nat->List Int × Int × Int × List wAL->Option (List Int × Int × Int × List wAL):=fun k1736 (l1727,x1730,x1731,l1732) =>
  ((wAN (⟨l1727,x1730,x1731⟩:wAK) (↑y70.length:Int)).bind fun (x1833,x1834) =>
  (wAN x1834 (w64 ((↑y282.length:Int) + 1))).bind fun (x1847,x1848) =>
  (wAN x1848 (↑y800.length:Int)).bind fun (x1861,x1862) =>
  some (x1862.bytes,x1862.next,x1862.state,x1833,x1847,x1861)).bind fun (l1767,x1770,x1771,x1774,x1775,x1776) =>
  (chk x1776 y800.length).bind fun _ =>
  (idx y468 x1774).bind fun x2140 =>
  (idx x2140 x1775).bind fun x2156 =>
  (chk x1776 y801.length).bind fun _ =>
  (wAR (⟨l1767,x1770,x1771⟩:wAK) (w64 (-((gd y800 x1776.toNat).Error))) ((gd y800 x1776.toNat).Error)).bind fun (x2171,x2172) =>
  if (w64 (-((gd y800 x1776.toNat).Error))) <= (w64 ((w64 ((max 0 (w64 ((w64 (x2156 + (gd y801 x1776.toNat))) + x2171))) - x2156)) - (gd y801 x1776.toNat))) then
   if (w64 ((w64 ((max 0 (w64 ((w64 (x2156 + (gd y801 x1776.toNat))) + x2171))) - x2156)) - (gd y801 x1776.toNat))) <= ((gd y800 x1776.toNat).Error) then
    (app 32 l1732 [(⟨x1774,x1775,x1776,max 0 (w64 ((w64 (x2156 + (gd y801 x1776.toNat))) + x2171))⟩:wAL)]).bind fun x2225 =>
    some (x2172.bytes,x2172.next,x2172.state,x2225)
   else
    some (x2172.bytes,x2172.next,x2172.state,l1732)
  else
   some (x2172.bytes,x2172.next,x2172.state,l1732)
theorem wIo (p0:wAK) (p1 p2 p3:Int):wCC p0 p1 p2 p3=(wAR p0 1 p1).bind fun (x10,x11) =>
 (wCJ 0 x10 m1B (x11.bytes,x11.next,x11.state,[])).bind fun (y67,y68,y69,y70) =>
 (wAN (⟨y67,y68,y69⟩:wAK) p2).bind fun (x223,x224) =>
 (wCJ 0 x223 m2B (x224.bytes,x224.next,x224.state,[])).bind fun (y279,y280,y281,y282) =>
 (wCJ 0 (↑y70.length:Int) (m3B y70 y282) (y279,y280,y281,[])).bind fun (y465,y466,y467,y468) =>
 (wAR (⟨y465,y466,y467⟩:wAK) 1 3).bind fun (x726,x727) =>
 (wCJ 0 x726 m4B (x727.bytes,x727.next,x727.state,[],[])).bind fun (y797,y798,y799,y800,y801) =>
 (wAN (⟨y797,y798,y799⟩:wAK) (w64 (p3 + 1))).bind fun (x1667,x1668) =>
 (wCJ 0 x1667 (m5B y70 y282 y468 y800 y801) (x1668.bytes,x1668.next,x1668.state,[])).bind fun (y1741,y1742,y1743,y1744) =>
 some ((⟨y70,y282,y800,y1744⟩:wAC),y468,y801,(⟨y1741,y1742,y1743⟩:wAK)):=rfl
def M1 (n:Int) (k:Nat) (s:List Int × Int × Int × List Int):Prop:=0 <= s.2.1/\s.2.1 <= n + 2 * (k:Int)/\s.2.2.2.length=k/\∀ x ∈ s.2.2.2,0 <= x/\x <= 902
theorem wLv {n:Int} (n0:0 <= n) (n1:n <= 1000) {k:Nat} (hk:k < 10) {s:List Int × Int × Int × List Int} (I:M1 n k s):∃ s',m1B k s=some s'/\M1 n (k + 1) s':=by
 obtain ⟨b,nx,st,l⟩:=s
 obtain ⟨i0,i1,hl,he⟩:=I
 simp only at i0 i1 hl he
 unfold m1B
 simp only
 obtain ⟨x,d1,e1,p0,p1,x0,x1⟩:=wDd ⟨b,nx,st⟩ 4 i0 (by simp only;omega)
 obtain ⟨y,d2,e2,q0,q1,y0,y1⟩:=wDd d1 3 p0 (by simp only at p1;omega)
 simp only at p1
 rw [e1,hD]
 simp only
 rw [e2,hD]
 simp only
 rw [wAU (x:=300 * x) (by omega) (by omega),wAU (by omega) (by omega),wEq (by simp only [nA,nG];omega),hD]
 exact ⟨_,rfl,q0,by simp only;omega,by simp [hl],wHl he (by omega)⟩
def M2 (n:Int) (k:Nat) (s:List Int × Int × Int × List wAJ):Prop:=0 <= s.2.1/\s.2.1 <= n + 2 * (k:Int)/\s.2.2.2.length=k/\∀ x ∈ s.2.2.2,300 <= x.Lo/\x.Lo <= x.Hi/\x.Hi <= 1190
theorem wLw {n:Int} (n0:0 <= n) (n1:n <= 1000) {k:Nat} (hk:k < 10) {s:List Int × Int × Int × List wAJ} (I:M2 n k s):∃ s',m2B k s=some s'/\M2 n (k + 1) s':=by
 obtain ⟨b,nx,st,l⟩:=s
 obtain ⟨i0,i1,hl,he⟩:=I
 simp only at i0 i1 hl he
 unfold m2B
 simp only
 obtain ⟨x,d1,e1,p0,p1,x0,x1⟩:=wFT ⟨b,nx,st⟩ 3 9 i0 (by simp only;omega) (by omega) (by omega) (by omega)
 simp only at p1
 obtain ⟨y,d2,e2,q0,q1,y0,y1⟩:=wDd d1 30 p0 (by omega)
 rw [e1,hD]
 simp only
 rw [e2,hD]
 simp only
 rw [wAU (x:=100 * x) (by omega) (by omega),wAU (x:=10 * y) (by omega) (by omega),wAU (by omega) (by omega),wEq (by simp only [nA,nG];omega),hD]
 exact ⟨_,rfl,q0,by simp only;omega,by simp [hl],wHl he (by simp only;omega)⟩
structure RowI (sp:List wAJ) (s0:Int) (j:Nat) (l:List Int):Prop where
 len:l.length=j + 1
 z:gd l 0=s0
 d:∀ i,i < j->(gd sp i).Lo <= gd l (i + 1) - gd l i/\gd l (i + 1) - gd l i <= (gd sp i).Hi
 b:∀ i,i < j + 1->0 <= gd l i/\gd l i <= 902 + 1190 * (i:Int)
def M3 (sp:List wAJ) (s0 n:Int) (k:Nat) (s:List Int × Int × Int × Int × List Int):Prop:=0 <= s.2.1/\s.2.1 <= n + (k:Int)/\s.2.2.2.1=gd s.2.2.2.2 k/\RowI sp s0 k s.2.2.2.2
theorem wLx {sp:List wAJ} (hsp:∀ x ∈ sp,300 <= x.Lo/\x.Lo <= x.Hi/\x.Hi <= 1190) {s0 n:Int} (n0:0 <= n) (n1:n <= 1000) {k:Nat} (hk:k < sp.length) (hk2:k < 10) {s:List Int × Int × Int × Int × List Int} (I:M3 sp s0 n k s):∃ s',m3I sp k s=some s'/\M3 sp s0 n (k + 1) s':=by
 obtain ⟨b,nx,st,t,l⟩:=s
 obtain ⟨i0,i1,ht,R⟩:=I
 simp only at i0 i1 ht R
 have hs:=hsp _ (wCQ hk)
 have hb:=R.b k (by omega)
 have hl:=R.len
 unfold m3I
 simp only
 obtain ⟨x,d1,e1,p0,p1,x0,x1⟩:=wFT ⟨b,nx,st⟩ (gd sp k).Lo (gd sp k).Hi i0 (by simp only;omega) (by omega) (by omega) (by omega)
 simp only at p1
 rw [wDN (by omega) (by omega),hD,e1,hD]
 simp only
 rw [wAU (x:=t + x) (by omega) (by omega),wEq (by simp only [nA,nG];omega),hD]
 have gk:gd (l ++ [t + x]) (k + 1)=t + x:=by rw [<- hl,wGQ]
 refine ⟨_,rfl,p0,by simp only;omega,gk.symm,by simp [hl],?_,fun i hi=>?_,fun i hi=>?_⟩
 ·simp only
  rw [wDp (by omega)];exact R.z
 ·simp only
  by_cases c:i=k
  ·rw [c,gk,wDp (by omega)]
   omega
  ·rw [wDp (by omega),wDp (by omega)]
   exact R.d i (by omega)
 ·simp only
  by_cases c:i=k + 1
  ·rw [c,gk];omega
  ·rw [wDp (by omega)]
   exact R.b i (by omega)
def M3o (st:List Int) (sp:List wAJ) (n:Int) (k:Nat) (s:List Int × Int × Int × List (List Int)):Prop:=0 <= s.2.1/\s.2.1 <= n + 10 * (k:Int)/\s.2.2.2.length=k/\∀ i,i < k->RowI sp (gd st i) sp.length (gd s.2.2.2 i)
theorem wKy {st:List Int} (hst:∀ x ∈ st,0 <= x/\x <= 902) {sp:List wAJ} (hl:sp.length <= 9) (hsp:∀ x ∈ sp,300 <= x.Lo/\x.Lo <= x.Hi/\x.Hi <= 1190) {n:Int} (n0:0 <= n) (n1:n <= 800) {k:Nat} (hk:k < st.length) (hk2:k < 10) {s:List Int × Int × Int × List (List Int)} (I:M3o st sp n k s):∃ s',m3B st sp k s=some s'/\M3o st sp n (k + 1) s':=by
 obtain ⟨b,nx,se,l⟩:=s
 obtain ⟨i0,i1,hll,he⟩:=I
 simp only at i0 i1 hll he
 have hs:=hst _ (wCQ hk)
 unfold m3B
 simp only
 obtain ⟨⟨b',nx',st',t',l'⟩,e,J0,J1,_,J⟩:=wEE (n:=sp.length) (body:=m3I sp) (s0:=(b,nx,se,gd st k,[gd st k])) (M3 sp (gd st k) nx) (by omega) ⟨i0,by simp only;omega,rfl,rfl,rfl,(fun i hi=>by omega),fun i hi=>by
  obtain rfl:i=0:=by omega
  show 0 <= gd st k/\gd st k <= _
  omega⟩ fun i s hi I=>wLx hsp i0 (by omega) hi (by omega) I
 simp only at J0 J1 J
 rw [wDN (by omega) (by omega),hD,e,hD]
 simp only
 rw [wEq (by simp only [nA,nG];omega),hD]
 refine ⟨_,rfl,J0,by simp only;omega,by simp [hll],fun i hi=>?_⟩
 simp only
 by_cases c:i=k
 ·rw [c,show gd (l ++ [l']) k=l' by rw [<- hll,wGQ]]
  exact J
 ·rw [wDp (by omega)]
  exact he i (by omega)
def ClkI (c:wAM) (o:Int):Prop:=-60 <= c.Offset.Lo/\c.Offset.Lo <= c.Offset.Hi/\c.Offset.Hi <= 70/\0 <= c.Error/\c.Error <= 5/\c.Offset.Lo <= o/\o <= c.Offset.Hi
def M4 (n:Int) (k:Nat) (s:List Int × Int × Int × List wAM × List Int):Prop:=0 <= s.2.1/\s.2.1 <= n + 4 * (k:Int)/\s.2.2.2.1.length=k/\s.2.2.2.2.length=k/\∀ i,i < k->ClkI (gd s.2.2.2.1 i) (gd s.2.2.2.2 i)
theorem wLy {n:Int} (n0:0 <= n) (n1:n <= 1000) {k:Nat} (hk:k < 10) {s:List Int × Int × Int × List wAM × List Int} (I:M4 n k s):∃ s',m4B k s=some s'/\M4 n (k + 1) s':=by
 obtain ⟨b,nx,st,l,o⟩:=s
 obtain ⟨i0,i1,hl,ho,he⟩:=I
 simp only at i0 i1 hl ho he
 unfold m4B
 simp only
 obtain ⟨a,d1,e1,p0,p1,a0,a1⟩:=wFT ⟨b,nx,st⟩ (-60) 20 i0 (by simp only;omega) (by omega) (by omega) (by omega)
 simp only at p1
 obtain ⟨y,d2,e2,q0,q1,y0,y1⟩:=wDd d1 50 p0 (by omega)
 obtain ⟨z,d3,e3,r0,r1,z0,z1⟩:=wDd d2 6 q0 (by omega)
 obtain ⟨v,d4,e4,s0,s1,v0,v1⟩:=wFT d3 a (a + y) r0 (by omega) (by omega) (by omega) (by omega)
 rw [e1,hD]
 simp only
 rw [e2,hD]
 simp only
 rw [e3,hD]
 simp only
 rw [wAU (x:=a + y) (by omega) (by omega),wEq (by simp only [nA,nG];omega),hD,e4,hD]
 simp only
 rw [wEq (by simp only [nA,nG];omega),hD]
 refine ⟨_,rfl,s0,by simp only;omega,by simp [hl],by simp [ho],fun i hi=>?_⟩
 simp only
 by_cases c:i=k
 ·have h1:gd (l ++ [(⟨⟨a,a + y⟩,z⟩:wAM)]) i=⟨⟨a,a + y⟩,z⟩:=by rw [c,<- hl,wGQ]
  have h2:gd (o ++ [v]) i=v:=by rw [c,<- ho,wGQ]
  rw [h1,h2]
  unfold ClkI
  simp only
  omega
 ·rw [wDp (by omega),wDp (by omega)]
  exact he i (by omega)
def RdI (n m c:Nat) (T:List (List Int)) (C:List wAM) (O:List Int) (x:wAL):Prop :=
 (0 <= x.Skier/\x.Skier < n/\0 <= x.Mat/\x.Mat <= m/\0 <= x.Clock/\x.Clock < c)/\0 <= x.Time/\x.Time <= 100000/\-(gd C x.Clock.toNat).Error <= x.Time - gd (gd T x.Skier.toNat) x.Mat.toNat - gd O x.Clock.toNat/\x.Time - gd (gd T x.Skier.toNat) x.Mat.toNat - gd O x.Clock.toNat <= (gd C x.Clock.toNat).Error
def M5 (st:List Int) (sp:List wAJ) (T:List (List Int)) (C:List wAM) (O:List Int) (n:Int) (k:Nat) (s:List Int × Int × Int × List wAL):Prop:=0 <= s.2.1/\s.2.1 <= n + 4 * (k:Int)/\s.2.2.2.length <= k/\∀ x ∈ s.2.2.2,RdI st.length sp.length C.length T C O x
theorem wLz {st:List Int} {sp:List wAJ} {T:List (List Int)} {C:List wAM} {O:List Int} (h1:1 <= st.length) (h2:st.length <= 10) (h3:sp.length <= 9) (hT:T.length=st.length) (hR:∀ i,i < st.length->RowI sp (gd st i) sp.length (gd T i)) (c1:1 <= C.length) (c2:C.length <= 10) (hO:O.length=C.length) (hC:∀ i,i < C.length->ClkI (gd C i) (gd O i)) {n:Int} (n0:0 <= n) (n1:n <= 1000) {k:Nat} (hk:k < 50) {s:List Int × Int × Int × List wAL} (I:M5 st sp T C O n k s):∃ s',m5B st sp T C O k s=some s'/\M5 st sp T C O n (k + 1) s':=by
 obtain ⟨b,nx,se,l⟩:=s
 obtain ⟨i0,i1,hl,he⟩:=I
 simp only at i0 i1 hl he
 unfold m5B
 simp only
 obtain ⟨x,d1,e1,p0,p1,x0,x1⟩:=wDd ⟨b,nx,se⟩ (st.length:Int) i0 (by simp only;omega)
 simp only at p1
 obtain ⟨y,d2,e2,q0,q1,y0,y1⟩:=wDd d1 ((sp.length:Int) + 1) p0 (by omega)
 obtain ⟨z,d3,e3,r0,r1,z0,z1⟩:=wDd d2 (C.length:Int) q0 (by omega)
 have hx:x.toNat < st.length:=by omega
 have hz:z.toNat < C.length:=by omega
 obtain ⟨K1,K2,K3,K4,K5,K6,K7⟩:=hC z.toNat hz
 have R:=hR x.toNat hx
 have hb:=R.b y.toNat (by omega)
 have hlen:=R.len
 obtain ⟨v,d4,e4,s0,s1,v0,v1⟩:=wFT d3 (-(gd C z.toNat).Error) (gd C z.toNat).Error r0 (by omega) (by omega) (by omega) (by omega)
 rw [e1,hD]
 simp only
 rw [wAU (x:=(sp.length:Int) + 1) (by omega) (by omega),e2,hD]
 simp only
 rw [e3,hD,hD]
 simp only
 rw [wDN (by omega) (by omega),hD,wCR x0 (by omega),hD,wCR y0 (by omega),hD,wDN (by omega) (by omega),hD,wAU (x:=-(gd C z.toNat).Error) (by omega) (by omega),show (⟨d3.bytes,d3.next,d3.state⟩:wAK)=d3 from rfl,e4,hD]
 simp only
 rw [wAU (x:=gd (gd T x.toNat) y.toNat + gd O z.toNat) (by omega) (by omega),wAU (x:=gd (gd T x.toNat) y.toNat + gd O z.toNat + v) (by omega) (by omega),wAU (x:=max 0 (gd (gd T x.toNat) y.toNat + gd O z.toNat + v) - gd (gd T x.toNat) y.toNat) (by omega) (by omega),wAU (x:=_ - gd O z.toNat) (by omega) (by omega)]
 by_cases g1:-(gd C z.toNat).Error <= max 0 (gd (gd T x.toNat) y.toNat + gd O z.toNat + v) - gd (gd T x.toNat) y.toNat - gd O z.toNat
 ·rw [if_pos g1]
  by_cases g2:max 0 (gd (gd T x.toNat) y.toNat + gd O z.toNat + v) - gd (gd T x.toNat) y.toNat - gd O z.toNat <= (gd C z.toNat).Error
  ·rw [if_pos g2,wEq (by simp only [nA,nG];omega),hD]
   refine ⟨_,rfl,s0,by simp only;omega,by simp;omega,wHl he ⟨?_,?_,?_,g1,g2⟩⟩
   ·simp only;omega
   ·simp only;omega
   ·simp only;omega
  ·rw [if_neg g2]
   exact ⟨_,rfl,s0,by simp only;omega,by simp only;omega,he⟩
 ·rw [if_neg g1]
  exact ⟨_,rfl,s0,by simp only;omega,by simp only;omega,he⟩
theorem wMA {d:wAK} (h0:d.next=0) {u w q:Int} (u1:1 <= u) (u2:u <= 8) (w1:1 <= w) (w2:w <= 8) (q0:0 <= q) (q1:q <= 40):∃ r T O d',wCC d u w q=some (r,T,O,d')/\RC r/\wLS r T O/\wCw r (yT T O)/\(∀ x ∈ r.Starts,x <= 902)/\(∀ x ∈ r.Clocks,-60 <= x.Offset.Lo/\x.Offset.Hi <= 70)/\(∀ x ∈ r.Readings,x.Time <= 100000):=by
 rw [wIo]
 obtain ⟨x,d1,e1,m0,m1,x0,x1⟩:=wFT d 1 u (by omega) (by omega) (by omega) (by omega) (by omega)
 obtain ⟨n,rfl⟩:∃ n:Nat,x=n:=⟨x.toNat,by omega⟩
 obtain ⟨⟨b2,nx2,st2,S⟩,e2,a0,a1,hS,eS⟩:=wEE (n:=n) (body:=m1B) (s0:=(d1.bytes,d1.next,d1.state,[])) (M1 d1.next) (by omega) ⟨m0,by simp only;omega,rfl,by simp⟩ fun i s hi I=>wLv m0 (by omega) (by omega) I
 simp only at a0 a1 hS eS
 obtain ⟨y,d3,e3,b0,b1,y0,y1⟩:=wDd ⟨b2,nx2,st2⟩ w a0 (by simp only;omega)
 simp only at b1
 obtain ⟨m,rfl⟩:∃ n:Nat,y=n:=⟨y.toNat,by omega⟩
 obtain ⟨⟨b4,nx4,st4,P⟩,e4,c0,c1,hP,eP⟩:=wEE (n:=m) (body:=m2B) (s0:=(d3.bytes,d3.next,d3.state,[])) (M2 d3.next) (by omega) ⟨b0,by simp only;omega,rfl,by simp⟩ fun i s hi I=>wLw b0 (by omega) (by omega) I
 simp only at c0 c1 hP eP
 obtain ⟨⟨b5,nx5,st5,T⟩,e5,f0,f1,hT,eT⟩:=wEE (n:=S.length) (body:=m3B S P) (s0:=(b4,nx4,st4,[])) (M3o S P nx4) (by omega) ⟨c0,by simp only;omega,rfl,fun i hi=>by omega⟩ fun i s hi I=>wKy eS (by omega) eP c0 (by omega) hi (by omega) I
 simp only at f0 f1 hT eT
 obtain ⟨z,d6,e6,g0,g1,z0,z1⟩:=wFT ⟨b5,nx5,st5⟩ 1 3 f0 (by simp only;omega) (by omega) (by omega) (by omega)
 simp only at g1
 obtain ⟨c,rfl⟩:∃ n:Nat,z=n:=⟨z.toNat,by omega⟩
 obtain ⟨⟨b7,nx7,st7,C,O⟩,e7,k0,k1,hC,hO,eC⟩:=wEE (n:=c) (body:=m4B) (s0:=(d6.bytes,d6.next,d6.state,[],[])) (M4 d6.next) (by omega) ⟨g0,by simp only;omega,rfl,rfl,fun i hi=>by omega⟩ fun i s hi I=>wLy g0 (by omega) (by omega) I
 simp only at k0 k1 hC hO eC
 obtain ⟨v,d8,e8,l0,l1,v0,v1⟩:=wDd ⟨b7,nx7,st7⟩ (q + 1) k0 (by simp only;omega)
 simp only at l1
 obtain ⟨h,rfl⟩:∃ n:Nat,v=n:=⟨v.toNat,by omega⟩
 have hTl:T.length=S.length:=by omega
 obtain ⟨⟨b9,nx9,st9,R⟩,e9,_,_,hR,eR⟩:=wEE (n:=h) (body:=m5B S P T C O) (s0:=(d8.bytes,d8.next,d8.state,[])) (M5 S P T C O d8.next) (by omega) ⟨l0,by simp only;omega,nQ _,by simp⟩ fun i s hi I=>wLz (by omega) (by omega) (by omega) hTl (fun i hi=>eT i (by omega)) (by omega) (by omega) (by omega) (fun i hi=>eC i (by omega)) l0 (by omega) (by omega) I
 simp only at hR eR
 rw [e1,hD]
 simp only
 rw [e2,hD]
 simp only
 rw [e3,hD]
 simp only
 rw [e4,hD]
 simp only
 rw [e5,hD]
 simp only
 rw [e6,hD]
 simp only
 rw [e7,hD]
 simp only
 rw [wAU (x:=q + 1) (by omega) (by omega),e8,hD]
 simp only
 rw [e9,hD]
 have hck:∀ x ∈ C,∃ o,ClkI x o:=fun x hx=>by
  obtain ⟨i,hi,rfl⟩:=wHP hx
  exact ⟨_,eC i (by omega)⟩
 have RR:RC ⟨S,P,C,R⟩:=⟨⟨by simp only;omega,by simp only;omega⟩,by simp only;omega,by simp only;omega,by simp only;omega,(fun s hs=>by have:=eS s hs;omega),(fun s hs=>by have:=eP s hs;omega),(fun s hs=>by
  obtain ⟨o,h1,h2,h3,h4,h5,h6,h7⟩:=hck s hs
  exact ⟨⟨h2,by omega,by omega⟩,h4,by omega⟩),(fun x hx=>by have:=eR x hx;exact ⟨this.2.1,by have:=this.2.2.1;omega⟩),fun x hx=>(eR x hx).1⟩
 refine ⟨⟨S,P,C,R⟩,T,O,_,rfl,RR,⟨hTl,fun k hk=>(eT k hk).len,by simp only;omega⟩,(wJU RR).2 ⟨?_,?_,?_⟩,fun x hx=>(eS x hx).2,fun x hx=>?_,fun x hx=>(eR x hx).2.2.1⟩
 ·rw [wBO]
  intro i _ hi
  have hi:i < S.length:=by simp only at hi;omega
  have Q:=eT i hi
  unfold wMO
  rw [nB,decide_eq_true_eq,wBO]
  refine ⟨Q.z,fun j _ hj=>?_⟩
  unfold inB
  rw [decide_eq_true_eq]
  exact Q.d j (by simp only at hj;omega)
 ·rw [wBO]
  intro i _ hi
  have Q:=eC i (by simp only at hi;omega)
  unfold wMs inB
  rw [decide_eq_true_eq]
  exact ⟨Q.2.2.2.2.2.1,Q.2.2.2.2.2.2⟩
 ·rw [wBO]
  intro i _ hi
  have Q:=eR _ (wCQ (l:=R) (k:=i) (by simp only at hi;omega))
  unfold wMt inB
  rw [decide_eq_true_eq]
  exact ⟨Q.2.2.2.1,Q.2.2.2.2⟩
 ·obtain ⟨o,h1,h2,h3,_⟩:=hck x hx
  exact ⟨h1,h3⟩
end Go.Proofs.Ytlnfbjphfoipaaa
namespace Go.Proofs.Ytlnfbjphfoipaaa
set_option maxRecDepth 100000 in
theorem aw06:wBq=some true:=by decide +kernel
end Go.Proofs.Ytlnfbjphfoipaaa
namespace Go.Proofs.Ytlnfbjphfoipaaa
open Go.KL Go.KL.Net
open Classical
theorem wFq {x:Int} {s:wAJ} (h:s.Lo <= x) (h2:x <= s.Hi):wAu x s=some true:=by
 unfold wAu
 rw [if_pos h,decide_eq_true h2]
theorem wKz {r:wAC} (S:wDy r) (c:code r=0) (hy:∃ y,wCw r y):wDs r=some ([],6):=by
 unfold wDs
 rcases wFo S with ⟨h,_⟩ | ⟨_,d,pts,e,D⟩
 ·exact absurd c h
 ·obtain ⟨f,last,ok,e1,_,_,h,_⟩:=D.any
  rw [e,hD]
  simp only
  rw [if_pos trivial,e1,hD]
  simp only
  rw [if_pos (h.2 hy)]
theorem wGe {r:wAC} {k:Nat} (hk:k < r.Clocks.length):wEt r ⟨-1,1 + (k:Int)⟩:=.inr (.inr ⟨rfl,by simp only;omega,by simp only;omega⟩)
theorem wMB {r:wAC} (S:wDy r) (c:code r=0) (hy:∃ y,wCw r y) {k:Nat} (hk:k < r.Clocks.length) {f g:Pt->Int} (hf:IsDP r ⟨-1,1 + (k:Int)⟩ f) (hg:IsDP r zp g):wEG r (k:Int)=some (⟨-g ⟨-1,1 + (k:Int)⟩,f zp⟩,0):=by
 have hc:=S.c
 unfold wEG
 have ea:wFH r []=0:=by unfold wFH;rw [if_pos c,if_pos (by simp),if_pos hy]
 obtain ⟨o,e,h0,_⟩:=wFp S (l:=[]) (by simp)
 obtain ⟨d,pts,rfl,D⟩:=h0 ea
 rw [wGC S,hD,if_pos c,wAU (by omega) (by omega),wEu,hD,if_pos (by unfold inB;rw [decide_eq_true_eq];omega),e,hD]
 simp only
 rw [if_pos ea]
 unfold wBN wBP
 rw [wAU (by omega) (by omega),hD,hD]
 show (wAi d ⟨-1,1 + (k:Int)⟩ zp).bind _=_
 rw [wHS D hy (wGe hk) (.inl rfl) hf hg]
 rfl
theorem wKW {r:wAC} (C:RC r) {y:Pt->Int} (F:wCw r y):wBQ r (tt r y) (oo r y)=some true:=by
 obtain ⟨t1,t2,t3,t4⟩:=wKQ C F
 have tl:=wIL r y
 refine wKv C t2 t1 (fun a b ha hb=>?_) (fun a ha=>?_)
 ·have g1:=(wBO _ _ _).1 t3 a (by omega) (by omega)
  have g2:=(wBO _ _ _).1 g1 b (by omega) (by rw [wHR ha];omega)
  unfold inB at g2
  rw [decide_eq_true_eq] at g2
  exact g2
 ·have g1:=(wBO _ _ _).1 t4 a (by omega) (by rw [t2.o];omega)
  unfold wKb inB at g1
  rw [decide_eq_true_eq] at g1
  exact g1
theorem wMw {r:wAC} {y:Pt->Int} {a:wAI} (h:wFn r a=true):∃ l,idx (tt r y) a.Skier=some l/\idx l a.Mat=some (y (pt a) - y zp):=by
 obtain ⟨_,a0,a1,b0,b1⟩:=wEL h
 have tl:=wIL r y
 have tr:=wHR (y:=y) (s:=a.Skier.toNat) (r:=r) (by omega)
 refine ⟨_,wCR a0 (by omega),?_⟩
 rw [wCR b0 (by omega),wKs (by omega) (by omega)]
 congr 3
 unfold pt
 rw [nH a0,nH b0]
theorem wHT {r:wAC} (C:RC r) (d:wAK) (h0:0 <= d.next) (h1:d.next <= 1000):∃ s d',wBM d r=some (s,d')/\wFn r s=true/\0 <= d'.next/\d'.next <= d.next + 2:=by
 have hn:=C.n;have hm:=C.m
 obtain ⟨x,d5,e8,z0,z1,u0,u1⟩:=wDd d (r.Starts.length:Int) h0 (by omega)
 obtain ⟨m,d6,e9,w0,w1,v0,v1⟩:=wDd d5 ((r.Splits.length:Int) + 1) z0 (by omega)
 refine ⟨⟨x,m⟩,d6,?_,?_,w0,by omega⟩
 ·unfold wBM
  rw [e8,hD]
  simp only
  rw [wAU (by omega) (by omega),e9,hD]
  rfl
 ·simp only [wFn,inB,nB,decide_eq_true_eq]
  omega
theorem wMx {S R:Type} {body:Nat->S->Option (S ⊕ R)} {n:Nat} {s0:S} {K:S->Option R} {z:R} (I:Nat->S->Prop) (hn:n <= 1000) (h0:I 0 s0) (h:∀ k s,k < n->I k s->∃ s',body k s=some (.inl s')/\I (k + 1) s') (hK:∀ s,I n s->K s=some z):jn (wEg 0 (n:Int) body s0) K=some z:=by
 rw [wDu (by omega)]
 rcases wGP (body:=body) (fun k s=>I k s) (fun _=>False) n 0 s0 h0 (fun k s _ hk hI=>.inl (h k s (by omega) hI)) with ⟨s,e,hs⟩ | ⟨_,_,hf⟩
 ·rw [e,wDY]
  exact hK s (by simpa using hs)
 ·exact hf.elim
theorem wIp (p0 p1:List Int):wBd p0 p1=some true:=by
 unfold wBd
 obtain ⟨r,T,O,d',e1,C,L,Fe,_,_,_⟩:=wMA (d:=⟨p0,0,17⟩) rfl (u:=6) (w:=6) (q:=12) (by omega) (by omega) (by omega) (by omega) (by omega) (by omega)
 have hn:=C.n;have hm:=C.m;have hc:=C.c;have hq:=C.q
 have S:wDy r:=⟨by omega,by omega,by omega,by omega⟩
 have c0:=wLu C
 have hy:∃ y,wCw r y:=⟨_,Fe⟩
 have lt:=L.t;have lo:=L.o
 have nearT:∀ p,wEt r p->-3300000 <= yT T O p/\yT T O p <= 3300000:=fun p hp=>by
  have:=wGB C Fe hp
  rw [wHj] at this
  omega
 have ev:∀ l:List wAI,l.all (wFn r)=true->wFH r l=0:=fun l hl=>by
  unfold wFH
  rw [if_pos c0,if_pos hl,if_pos hy]
 have bT:∀ i j,i < r.Starts.length->j < r.Splits.length + 1->-3300000 <= gd (gd T i) j/\gd (gd T i) j <= 3300000:=fun i j hi hj=>by
  have:=nearT ⟨(i:Int),(j:Int)⟩ (.inr (.inl ⟨by simp only;omega,by simp only;omega,by simp only;omega,by simp only;omega⟩))
  rw [wDc _ _ (by omega),hH,hH] at this
  exact this
 have bO:∀ i,i < r.Clocks.length->-3300000 <= gd O i/\gd O i <= 3300000:=fun i hi=>by
  have:=nearT _ (wGe hi)
  rw [wER _ _ (by omega),hH] at this
  omega
 have fE:wLo r T O=0:=by
  unfold wLo
  rw [if_pos c0,if_pos L,if_pos]
  refine ⟨(wBO _ _ _).2 fun i _ hi=>(wBO _ _ _).2 fun j _ hj=>?_,(wBO _ _ _).2 fun i _ hi=>?_⟩
  ·have:=bT i j (by omega) (by rw [L.l i (by omega)] at hj;omega)
   unfold inB
   rw [decide_eq_true_eq]
   omega
  ·have:=bO i (by omega)
   unfold wKb inB
   rw [decide_eq_true_eq]
   omega
 have fV:wMP r T O=true:=by
  unfold wMP
  exact decide_eq_true ⟨fE,Fe⟩
 have eF:=wLp S (T:=T) (by omega) (fun l hl=>by
  obtain ⟨k,hk,rfl⟩:=wHP hl
  rw [L.l k (by omega)];omega) (O:=O) (by omega)
 rw [fE,fV] at eF
 obtain ⟨yt,Ft,eT⟩:=(wKt S).2 (ev [] (by simp))
 rw [show wCX p0=some (⟨p0,0,17⟩:wAK) from rfl,hD,e1,hD]
 simp only
 rw [show wCX p1=some (⟨p1,0,17⟩:wAK) from rfl,hD,eF,hD]
 simp only
 rw [eT,hD]
 simp only
 rw [wKz S c0 hy,hD]
 simp only
 rw [if_pos trivial,if_pos trivial,if_pos trivial,if_pos trivial,wKW C Ft,hD,if_pos rfl]
 obtain ⟨Z,hZ⟩:=wJW S c0 hy (a:=zp) (.inl rfl)
 have ol:(oo r yt).length=r.Clocks.length:=by simp [oo]
 rw [wEd (by omega) fun k hk=>by
  obtain ⟨f,hf⟩:=wJW S c0 hy (wGe hk)
  have a1:=hf.gr _ Fe zp (.inl rfl)
  have a2:=hZ.gr _ Fe _ (wGe hk)
  have a3:=hf.gr _ Ft zp (.inl rfl)
  have a4:=hZ.gr _ Ft _ (wGe hk)
  rw [wHj,wER _ _ (by omega),hH] at a1 a2
  have go:gd (oo r yt) k=yt zp - yt ⟨-1,1 + (k:Int)⟩:=wFS _ hk
  rw [wMB S c0 hy hk hf hZ,hD]
  simp only
  rw [if_pos trivial,wCZ (by omega),hD,wFq (by simp only;omega) (by simp only;omega),hD,if_pos rfl,wCZ (by omega),hD,wFq (by simp only;omega) (by simp only;omega),hD,if_pos rfl],wDY]
 rw [show (4:Int)=((4:Nat):Int) from rfl]
 refine wMx (n:=4) (I:=fun (k:Nat) (s:List Int × Int × Int)=>0 <= s.2.1/\s.2.1 <= 4 * (k:Int)) (by omega) ⟨nm _,nm _⟩ ?_ ?_
 ·rintro k ⟨l,nx,st⟩ hk ⟨i0,i1⟩
  simp only at i0 i1
  obtain ⟨a,d1,s1,sa,m0,m1⟩:=wHT C ⟨l,nx,st⟩ i0 (by simp only;omega)
  simp only at m1
  obtain ⟨b,d2,s2,sb,m2,m3⟩:=wHT C d1 m0 (by omega)
  obtain ⟨oa,a0,a1,a2,a3⟩:=wEL sa
  obtain ⟨ob,b0,b1,b2,b3⟩:=wEL sb
  obtain ⟨f,hf⟩:=wJW S c0 hy oa
  obtain ⟨g,hg⟩:=wJW S c0 hy ob
  have nf:=fun p hp=>hf.near C oa (p:=p) hp
  have ng:=fun p hp=>hg.near C ob (p:=p) hp
  have nz:=fun p hp=>hZ.near C (.inl rfl) (p:=p) hp
  have nfb:=nf _ ob
  have nga:=ng _ oa
  have nfz:=nf zp (.inl rfl)
  have nza:=nz _ oa
  have Ta:gd (gd T a.Skier.toNat) a.Mat.toNat=yT T O (pt a):=by unfold pt;rw [wDc _ _ a0]
  have Tb:gd (gd T b.Skier.toNat) b.Mat.toNat=yT T O (pt b):=by unfold pt;rw [wDc _ _ b0]
  have na:=nearT _ oa
  have nb:=nearT _ ob
  have r1:=hZ.gr _ Fe _ oa
  have r2:=hf.gr _ Fe zp (.inl rfl)
  have r3:=hf.gr _ Fe _ ob
  have r4:=hg.gr _ Fe _ oa
  rw [wHj] at r1 r2
  have evab:=ev [a,b] (by simp [sa,sb])
  have evba:=ev [b,a] (by simp [sa,sb])
  simp only
  rw [s1,hD]
  simp only
  rw [s2,hD]
  simp only
  rw [hD]
  simp only
  have eGap:wCu r (⟨a.Skier,a.Mat⟩:wAI) (⟨b.Skier,b.Mat⟩:wAI)=some (⟨-g (pt a),f (pt b)⟩,0):=wLT S evab hf hg
  have eRan:wCM r (⟨a.Skier,a.Mat⟩:wAI)=some (⟨-f zp,Z (pt a)⟩,0):=(wKw S a).2 (ev [a] (by simp [sa])) Z f hZ hf
  obtain ⟨l1,eC1,fo1,n1⟩:=wJX S evab hf
  obtain ⟨l2,eC2,fo2,n2⟩:=wJX S evba hg
  have eC1:wCc r (⟨a.Skier,a.Mat⟩:wAI) (⟨b.Skier,b.Mat⟩:wAI)=some (l1,0):=eC1
  have eC2:wCc r (⟨b.Skier,b.Mat⟩:wAI) (⟨a.Skier,a.Mat⟩:wAI)=some (l2,0):=eC2
  have eP1:wBu r (⟨a.Skier,a.Mat⟩:wAI) (⟨b.Skier,b.Mat⟩:wAI) l1=some (f (pt b),0):=wIN S c0 sa sb n1 fo1
  have eP2:wBu r (⟨b.Skier,b.Mat⟩:wAI) (⟨a.Skier,a.Mat⟩:wAI) l2=some (g (pt a),0):=wIN S c0 sb sa n2 fo2
  have s0:wFn r ⟨a.Skier,0⟩=true:=by simp only [wFn,inB,nB,decide_eq_true_eq];omega
  obtain ⟨o0,_⟩:=wEL s0
  have st0:=C.st _ (wCm a0 a1)
  have F0:IsDP r (pt ⟨a.Skier,0⟩) fun p=>Z p - gd r.Starts a.Skier.toNat:=by
   have z0:=fp0 hZ.ok a0 a1
   have z1:=hZ.zero
   refine ⟨fun x hx=>?_,?_,fun y hy p hp=>?_⟩
   ·have:=hZ.ok x hx
    show Z _ - _ <= Z _ - _ + _
    omega
   ·show Z ⟨a.Skier,0⟩ - _=0
    omega
   ·have:=hZ.gr y hy p hp
    have:=fp0 hy a0 a1
    show y p - y ⟨a.Skier,0⟩ <= _
    omega
  have eG0:wCu r (⟨a.Skier,0⟩:wAI) (⟨a.Skier,a.Mat⟩:wAI)=some (⟨-f (pt ⟨a.Skier,0⟩),Z (pt a) - gd r.Starts a.Skier.toNat⟩,0):=wLT S (a:=⟨a.Skier,0⟩) (b:=a) (ev _ (by simp [sa,s0])) F0 hf
  have fz0:f (pt ⟨a.Skier,0⟩)=f zp + gd r.Starts a.Skier.toNat:=fp0 hf.ok a0 a1
  rw [eGap,hD]
  simp only
  rw [eRan,hD]
  simp only
  rw [if_pos trivial,if_pos trivial,wCR a0 (by omega),hD,wCR a2 (by rw [L.l _ (by omega)];omega),hD,Ta,wFq (by simp only;omega) (by simp only;omega),hD,if_pos rfl,wCR b0 (by omega),hD,wCR b2 (by rw [L.l _ (by omega)];omega),hD,Tb,wAU (by omega) (by omega),wFq (by simp only;omega) (by simp only;omega),hD,if_pos rfl]
  rw [show (2:Int)=((2:Nat):Int) from rfl,wEd (by omega) fun q hq=>?_,wDY,eC1,hD]
  ·simp only
   rw [eC2,hD]
   simp only
   rw [eP1,hD]
   simp only
   rw [eP2,hD]
   simp only
   rw [if_pos trivial,if_pos trivial,if_pos trivial,if_pos trivial,if_pos trivial,wAU (by omega) (by omega),if_pos rfl,show wAd a.Skier 0=some ⟨a.Skier,0⟩ from rfl,hD,eG0,hD]
   simp only
   rw [hD]
   simp only
   rw [if_pos trivial,wCR a0 (by omega),hD,wAU (by omega) (by omega),if_pos (by omega),wAU (by omega) (by omega),if_pos (by omega)]
   exact ⟨_,rfl,m2,by simp only;omega⟩
  ·have part:∀ (most:Bool) (v:Int),v=(if most=true then f (pt b) else -g (pt a))->∃ y,wCw r y/\wCq r (⟨a.Skier,a.Mat⟩:wAI) (⟨b.Skier,b.Mat⟩:wAI) most=some (tt r y,oo r y,0)/\y (pt b) - y (pt a)=v:=fun most v hv=>by
    obtain ⟨y,Iy,eR⟩:=(wKu S a b most).2 evab
    refine ⟨y,Iy.ok,eR,?_⟩
    cases most with
    | true =>
     rw [if_pos rfl] at Iy hv
     have:=Iy.zero
     have:=Iy.one hf ob
     omega
    | false =>
     rw [if_neg (by simp)] at Iy hv
     have:=Iy.zero
     have:=Iy.one hg oa
     omega
   obtain ⟨most,v,q1,q2,hv⟩:∃ (most:Bool) (v:Int),gd [false,true] q=most/\idx ([-g (pt a),f (pt b)]:List Int) (q:Int)=some v/\v=(if most=true then f (pt b) else -g (pt a)):=by
    rcases (by omega:q=0 \/ q=1) with rfl | rfl
    ·exact ⟨false,_,rfl,rfl,rfl⟩
    ·exact ⟨true,_,rfl,rfl,rfl⟩
   obtain ⟨y,Fy,eR,dy⟩:=part most v hv
   obtain ⟨la,ia1,ia2⟩:=wMw (y:=y) sa
   obtain ⟨lb,ib1,ib2⟩:=wMw (y:=y) sb
   have n1:=wGB C Fy oa
   have n2:=wGB C Fy ob
   rw [wDN (by omega) (by simp;omega),hD,q1,eR,hD]
   simp only
   rw [if_pos trivial,wKW C Fy,hD,if_pos rfl,ib1,hD,ib2,hD,ia1,hD,ia2,hD,q2,hD,if_pos (by rw [wAU (by omega) (by omega)];omega)]
 ·rintro ⟨l,nx,st⟩ _
  show (wBq).bind _=_
  rw [aw06]
  rfl
end Go.Proofs.Ytlnfbjphfoipaaa
