import Derived.Test.YtlnfbjphfoipaaaP0
import Derived.Lib.AppendZerosOnto
set_option linter.all false
open Option renaming bind_some->hD
open List renaming length_cons->hH,length_nil->hJ,replicate->hU,set->nB,range->nD,length_take->nG,mem_singleton->nH,length_append->nI,length_set->nM,all_eq_true->nN,mem_append->nP,getElem?_eq_getElem->nQ,take_length->nR,flatMap->nS,mem_map->nT,getElem?_eq_none->nW,length_singleton->nX,getElem?_append_right->nY,getElem?_append_left->nZ,map_append->na,drop_eq_nil_of_le->nb,mem_range->nh,getElem?_take->ni,mem_cons->nj,getD_eq_getElem?_getD->nk,map_cons->nm,flatMap_cons->nn,append_assoc->np,drop_eq_getElem_cons->nq,ext_getElem->nt,cons_append->nu,nil_append->nw,append_nil->ny,length_map->nz,range_succ->kA,sum_replicate_nat->kC,mem_of_getElem?->kD,range_eq_range'->kE,length_flatMap->kF,map_congr_left->kG,map_nil->kK,length_range->kL,ext_getElem?->kM,getElem?_set->kO
open Nat renaming le_refl->nA,zero_add->nK,mul_le_mul_right->nc,one_mul->kB,lt_or_ge->kJ,add_mul->kP,zero_le->kR
open Int renaming toNat_natCast->nE,toNat_of_nonneg->nL,sub_add_cancel->nU,add_comm->ng,tmod_eq_emod_of_nonneg->nl,eq_ofNat_of_zero_le->nv,lt_or_le->kI,le_refl->kQ
open Bool renaming and_eq_true->nJ,false_eq_true->nO
open Option.some renaming inj->nV
open Array renaming replicate->nf
open Classical renaming em->kH
namespace Go.Proofs.Ytlnfbjphfoipaaa
open Go.KL
structure wAH where
 bytes:List Int
 next:Int
 state:Int
deriving DecidableEq,Inhabited,Repr
structure wAK where
 Lo:Int
 Hi:Int
deriving DecidableEq,Inhabited,Repr
structure wAM where
 Offset:wAK
 Error:Int
deriving DecidableEq,Inhabited,Repr
structure wAI where
 Skier:Int
 Mat:Int
 Clock:Int
 Time:Int
deriving DecidableEq,Inhabited,Repr
structure wAC where
 Starts:List Int
 Splits:List wAK
 Clocks:List wAM
 Readings:List wAI
deriving DecidableEq,Inhabited,Repr
structure wAS where
 Skier:Int
 Mat:Int
deriving DecidableEq,Inhabited,Repr
structure wAJ where
 skier:Int
 mat:Int
deriving DecidableEq,Inhabited,Repr
structure wAF where
 Kind:Int
 Skier:Int
 Index:Int
 Up:Bool
deriving DecidableEq,Inhabited,Repr
structure wAV where
 step:wAF
 from_:Int
 to_:Int
 count:Int
deriving DecidableEq,Inhabited,Repr
structure wAW where
 Race:wAC
 number:List (wAJ × Int)
 edges:List wAV
structure wAb where
 far:List Int
 by_:List Int
deriving DecidableEq,Inhabited,Repr
def wBh (p0:List Int):Option (wAH) :=
 some (⟨p0,0,17⟩:wAH)
def wAL (p0:wAH) (p1:Int):Option (Int × wAH) :=
 if p1 <= 1 then
  some (0,p0)
 else
  if (↑p0.bytes.length:Int)=0 then
   some (0,p0)
  else
   (rem p0.next (↑p0.bytes.length:Int)).bind fun x10 =>
   (idx p0.bytes x10).bind fun x13 =>
   (quo p0.next (↑p0.bytes.length:Int)).bind fun x20 =>
   (rem (wEm ((wEm ((wEm ((wEm (p0.state * 45)) + (wEm x13))) + (wEm (77 * (wEm x20))))) + 1)) 65519).bind fun x32 =>
   if (wEm x20)=0 then
    if p1 <= 256 then
     (rem (w64 (wEm x13)) p1).bind fun x42 =>
     some (x42,(⟨p0.bytes,w64 (p0.next + 1),x32⟩:wAH))
    else
     (rem (w64 (wEm ((wEm (x32 * 256)) + (wEm x13)))) p1).bind fun x46 =>
     some (x46,(⟨p0.bytes,w64 (p0.next + 1),x32⟩:wAH))
   else
    (rem (w64 (wEm ((wEm (x32 * 256)) + (wEm x13)))) p1).bind fun x50 =>
    some (x50,(⟨p0.bytes,w64 (p0.next + 1),x32⟩:wAH))
def wAO (p0:wAH) (p1:Int) (p2:Int):Option (Int × wAH) :=
 (wAL p0 (w64 ((w64 (p2 - p1)) + 1))).bind fun (x2,x3) =>
 some (w64 (p1 + x2),x3)
def wBb (p0:wAH) (p1:Int) (p2:Int) (p3:Int):Option (wAC × (List (List Int)) × (List Int) × wAH) :=
 (wAO p0 1 p1).bind fun (x10,x11) =>
 (wBY 0 x10 (fun k62 (l53,x56,x57,l58) =>
  (wAL (⟨l53,x56,x57⟩:wAH) 4).bind fun (x142,x143) =>
  (wAL x143 3).bind fun (x156,x157) =>
  (app 8 l58 [w64 ((w64 (300 * x142)) + x156)]).bind fun x175 =>
  some (x157.bytes,x157.next,x157.state,x175)) (x11.bytes,x11.next,x11.state,[])).bind fun (y67,y68,y69,y70) =>
 (wAL (⟨y67,y68,y69⟩:wAH) p2).bind fun (x223,x224) =>
 (wBY 0 x223 (fun k274 (l265,x268,x269,l270) =>
  (wAO (⟨l265,x268,x269⟩:wAH) 3 9).bind fun (x305,x306) =>
  (wAL x306 30).bind fun (x353,x354) =>
  (app 16 l270 [(⟨w64 (100 * x305),w64 ((w64 (100 * x305)) + (w64 (10 * x353)))⟩:wAK)]).bind fun x372 =>
  some (x354.bytes,x354.next,x354.state,x372)) (x224.bytes,x224.next,x224.state,[])).bind fun (y279,y280,y281,y282) =>
 (wBY 0 (↑y70.length:Int) (fun k460 (l450,x453,x454,l455) =>
  (chk (↑k460:Int) y70.length).bind fun _ =>
  (wBY 0 (↑y282.length:Int) (fun k541 (l532,x535,x536,x537,l538) =>
   (chk (↑k541:Int) y282.length).bind fun _ =>
   (wAO (⟨l532,x535,x536⟩:wAH) ((gd y282 k541).Lo) ((gd y282 k541).Hi)).bind fun (x589,x590) =>
   (app 8 l538 [w64 (x537 + x589)]).bind fun x609 =>
   some (x590.bytes,x590.next,x590.state,w64 (x537 + x589),x609)) (l450,x453,x454,(gd y70 k460),[(gd y70 k460)])).bind fun (y546,y547,y548,y549,y550) =>
  (app 24 l455 [y550]).bind fun x672 =>
  some (y546,y547,y548,x672)) (y279,y280,y281,[])).bind fun (y465,y466,y467,y468) =>
 (wAO (⟨y465,y466,y467⟩:wAH) 1 3).bind fun (x726,x727) =>
 (wBY 0 x726 (fun k792 (l779,x782,x783,l784,l788) =>
  (wAO (⟨l779,x782,x783⟩:wAH) (-60) 20).bind fun (x826,x827) =>
  (wAL x827 50).bind fun (x840,x841) =>
  (wAL x841 6).bind fun (x854,x855) =>
  (app 24 l784 [(⟨(⟨x826,w64 (x826 + x840)⟩:wAK),x854⟩:wAM)]).bind fun x880 =>
  (wAO x855 x826 (w64 (x826 + x840))).bind fun (x888,x889) =>
  (app 8 l788 [x888]).bind fun x908 =>
  some (x889.bytes,x889.next,x889.state,x880,x908)) (x727.bytes,x727.next,x727.state,[],[])).bind fun (y797,y798,y799,y800,y801) =>
 (wAL (⟨y797,y798,y799⟩:wAH) (w64 (p3 + 1))).bind fun (x1667,x1668) =>
 (wBY 0 x1667 (fun k1736 (l1727,x1730,x1731,l1732) =>
  ((wAL (⟨l1727,x1730,x1731⟩:wAH) (↑y70.length:Int)).bind fun (x1833,x1834) =>
  (wAL x1834 (w64 ((↑y282.length:Int) + 1))).bind fun (x1847,x1848) =>
  (wAL x1848 (↑y800.length:Int)).bind fun (x1861,x1862) =>
  some (x1862.bytes,x1862.next,x1862.state,x1833,x1847,x1861)).bind fun (l1767,x1770,x1771,x1774,x1775,x1776) =>
  (chk x1776 y800.length).bind fun _ =>
  (idx y468 x1774).bind fun x2140 =>
  (idx x2140 x1775).bind fun x2156 =>
  (chk x1776 y801.length).bind fun _ =>
  (wAO (⟨l1767,x1770,x1771⟩:wAH) (w64 (-((gd y800 x1776.toNat).Error))) ((gd y800 x1776.toNat).Error)).bind fun (x2171,x2172) =>
  if (w64 (-((gd y800 x1776.toNat).Error))) <= (w64 ((w64 ((max 0 (w64 ((w64 (x2156 + (gd y801 x1776.toNat))) + x2171))) - x2156)) - (gd y801 x1776.toNat))) then
   if (w64 ((w64 ((max 0 (w64 ((w64 (x2156 + (gd y801 x1776.toNat))) + x2171))) - x2156)) - (gd y801 x1776.toNat))) <= ((gd y800 x1776.toNat).Error) then
    (app 32 l1732 [(⟨x1774,x1775,x1776,max 0 (w64 ((w64 (x2156 + (gd y801 x1776.toNat))) + x2171))⟩:wAI)]).bind fun x2225 =>
    some (x2172.bytes,x2172.next,x2172.state,x2225)
   else
    some (x2172.bytes,x2172.next,x2172.state,l1732)
  else
   some (x2172.bytes,x2172.next,x2172.state,l1732)) (x1668.bytes,x1668.next,x1668.state,[])).bind fun (y1741,y1742,y1743,y1744) =>
 some ((⟨y70,y282,y800,y1744⟩:wAC),y468,y801,(⟨y1741,y1742,y1743⟩:wAH))
def wCB (p0:List Int):Option ((List Int)) :=
 (app 8 ([]:List Int) p0).bind fun x4 =>
 some x4
def wBS (p0:List wAK):Option ((List wAK)) :=
 (app 16 ([]:List wAK) p0).bind fun x4 =>
 some x4
def wBM (p0:List wAM):Option ((List wAM)) :=
 (app 24 ([]:List wAM) p0).bind fun x4 =>
 some x4
def wBB (p0:List wAI):Option ((List wAI)) :=
 (app 32 ([]:List wAI) p0).bind fun x4 =>
 some x4
def wAu (p0:wAC):Option (wAC) :=
 (wCB p0.Starts).bind fun x11 =>
 (wBS p0.Splits).bind fun x25 =>
 (wBM p0.Clocks).bind fun x40 =>
 (wBB p0.Readings).bind fun x56 =>
 some (⟨x11,x25,x40,x56⟩:wAC)
def wAf (p0:wAH) (p1:Int):Option (Bool × wAH) :=
 (wAL p0 p1).bind fun (x2,x3) =>
 some (decide (x2=0),x3)
def wBq (p0:wAH) (p1:wAC):Option (wAC × wAH) :=
 (wAu p1).bind fun x10 =>
 (wBY 0 (↑x10.Readings.length:Int) (fun k61 (l55,l56,x59,x60) =>
  (wAf (⟨l56,x59,x60⟩:wAH) 5).bind fun (x89,x90) =>
  if x89=true then
   (chk (↑k61:Int) l55.length).bind fun _ =>
   (wAO x90 (-400) 400).bind fun (x144,x145) =>
   some ((nB l55 k61 (⟨(gd l55 k61).Skier,(gd l55 k61).Mat,(gd l55 k61).Clock,max 0 (w64 (((gd l55 k61).Time) + x144))⟩:wAI)),x145.bytes,x145.next,x145.state)
  else
   some (l55,x90.bytes,x90.next,x90.state)) (x10.Readings,p0.bytes,p0.next,p0.state)).bind fun (y66,y67,y68,y69) =>
 some ((⟨x10.Starts,x10.Splits,x10.Clocks,y66⟩:wAC),(⟨y67,y68,y69⟩:wAH))
def wBJ (p0:Int) (p1:Int) (p2:Int):Option (Bool) :=
 if p1 <= p0 then
  some (decide (p0 <= p2))
 else
  some false
def wCQ (p0:List Int) (p1:(Int->Option Bool)):Option (Bool) :=
 jn (wEW 0 (↑p0.length:Int) (fun k2 _ =>
  (idx p0 (↑k2:Int)).bind fun x22 =>
  (p1 x22).bind fun x30 =>
  if x30=true then
   some (.inl ())
  else
   esc (some false)) ()) fun _ =>
 some true
def wCb (p0:Int):Option (Bool) :=
 (wBJ p0 0 360000).bind fun x1 =>
 some x1
def wBX (p0:List wAK) (p1:(wAK->Option Bool)):Option (Bool) :=
 jn (wEW 0 (↑p0.length:Int) (fun k2 _ =>
  (idx p0 (↑k2:Int)).bind fun x22 =>
  (p1 x22).bind fun x37 =>
  if x37=true then
   some (.inl ())
  else
   esc (some false)) ()) fun _ =>
 some true
def wCc (p0:wAK) (p1:Int) (p2:Int):Option (Bool) :=
 if p0.Lo <= p0.Hi then
  if p1 <= p0.Lo then
   some (decide (p0.Hi <= p2))
  else
   some false
 else
  some false
def wCd (p0:wAK):Option (Bool) :=
 (wCc p0 0 360000).bind fun x5 =>
 some x5
def wBO (p0:List wAM) (p1:(wAM->Option Bool)):Option (Bool) :=
 jn (wEW 0 (↑p0.length:Int) (fun k2 _ =>
  (idx p0 (↑k2:Int)).bind fun x22 =>
  (p1 x22).bind fun x37 =>
  if x37=true then
   some (.inl ())
  else
   esc (some false)) ()) fun _ =>
 some true
def wCe (p0:wAM):Option (Bool) :=
 (wCc p0.Offset (-36000) 36000).bind fun x5 =>
 if x5=true then
  (wBJ p0.Error 0 600).bind fun x17 =>
  some x17
 else
  some false
def wAq (p0:List wAI) (p1:(wAI->Option Bool)):Option (Bool) :=
 jn (wEW 0 (↑p0.length:Int) (fun k2 _ =>
  (idx p0 (↑k2:Int)).bind fun x22 =>
  (p1 x22).bind fun x37 =>
  if x37=true then
   some (.inl ())
  else
   esc (some false)) ()) fun _ =>
 some true
def wCf (p0:wAI):Option (Bool) :=
 (wBJ p0.Time 0 360000).bind fun x5 =>
 some x5
def wAk (p0:wAC) (p1:wAS):Option (Bool) :=
 (wBJ p1.Skier 0 (w64 ((↑p0.Starts.length:Int) - 1))).bind fun x9 =>
 if x9=true then
  (wBJ p1.Mat 0 (↑p0.Splits.length:Int)).bind fun x21 =>
  some x21
 else
  some false
def wCg (p0:wAI) (p1:wAC):Option (Bool) :=
 (wAk p1 (⟨p0.Skier,p0.Mat⟩:wAS)).bind fun x5 =>
 if x5=true then
  (wBJ p0.Clock 0 (w64 ((↑p1.Clocks.length:Int) - 1))).bind fun x18 =>
  some x18
 else
  some false
def wCT (p0:wAC):Option (Int) :=
 (wBJ (↑p0.Starts.length:Int) 1 8).bind fun x10 =>
 if x10=true then
  if 7 < (↑p0.Splits.length:Int) then
   some 2
  else
   if 4 < (↑p0.Clocks.length:Int) then
    some 2
   else
    if 40 < (↑p0.Readings.length:Int) then
     some 2
    else
     (wCQ p0.Starts wCb).bind fun x35 =>
     if x35=true then
      (wBX p0.Splits wCd).bind fun x52 =>
      if x52=true then
       (wBO p0.Clocks wCe).bind fun x70 =>
       if x70=true then
        (wAq p0.Readings wCf).bind fun x92 =>
        if x92=true then
         (wAq p0.Readings (fun x=>wCg x p0)).bind fun x116 =>
         if x116=true then
          some 0
         else
          some 1
        else
         some 3
       else
        some 3
      else
       some 3
     else
      some 3
 else
  some 2
def wCU :Option (wAJ) :=
 some (⟨-1,0⟩:wAJ)
def wBy {S E:Type} (f:S->wAF->Option (S ⊕ E)) (s0:S) (p1:wAC):Option (S ⊕ E) :=
 jn (wEW 0 4 (fun k12 s10 =>
  (idx ([1,(↑p1.Splits.length:Int),(↑p1.Clocks.length:Int),(↑p1.Readings.length:Int)]:List Int) (↑k12:Int)).bind fun x33 =>
  (if (↑k12:Int)=2 then
   some (true,s10)
  else
   some (decide ((↑k12:Int)=3),s10)).bind fun (b37,s38) =>
  if b37=true then
   jn (wEW 0 1 (fun k78 s76 =>
    jn (wEW 0 x33 (fun k113 s111 =>
     (f s111 (⟨(↑k12:Int),(↑k78:Int),(↑k113:Int),true⟩:wAF)).bind fun yr141 =>
     match yr141 with
     | .inl s151 =>
      (f s151 (⟨(↑k12:Int),(↑k78:Int),(↑k113:Int),false⟩:wAF)).bind fun yr154 =>
      match yr154 with
      | .inl s164 =>
       some (.inl s164)
      | .inr s164 =>
       esc (esc (esc (some (.inr s164))))
     | .inr s151 =>
      esc (esc (esc (some (.inr s151))))) s76) fun y195 =>
    some (.inl y195)) s38) fun y219 =>
   some (.inl y219)
  else
   jn (wEW 0 (↑p1.Starts.length:Int) (fun k247 s245 =>
    jn (wEW 0 x33 (fun k282 s280 =>
     (f s280 (⟨(↑k12:Int),(↑k247:Int),(↑k282:Int),true⟩:wAF)).bind fun yr310 =>
     match yr310 with
     | .inl s320 =>
      (f s320 (⟨(↑k12:Int),(↑k247:Int),(↑k282:Int),false⟩:wAF)).bind fun yr323 =>
      match yr323 with
      | .inl s333 =>
       some (.inl s333)
      | .inr s333 =>
       esc (esc (esc (some (.inr s333))))
     | .inr s320 =>
      esc (esc (esc (some (.inr s320))))) s245) fun y364 =>
    some (.inl y364)) s38) fun y388 =>
   some (.inl y388)) s0) fun y409 =>
 some (.inl y409)
def wCs (p0:wAC):Option (Unit) :=
 some ()
def wDC (p0:wAC) (p1:wAF):Option (Bool) :=
 (wBJ p1.Skier 0 (w64 ((↑p0.Starts.length:Int) - 1))).bind fun x9 =>
 if x9=true then
  some (decide (p1.Index=0))
 else
  some false
def wDe (p0:wAC) (p1:wAF):Option (wAJ × wAJ) :=
 ((wCU).bind fun x22 =>
 some (x22.skier,x22.mat)).bind fun (x17,x18) =>
 some ((⟨x17,x18⟩:wAJ),(⟨p1.Skier,0⟩:wAJ))
def wDf (p0:wAC) (p1:wAF):Option (Int × Int) :=
 (idx p0.Starts p1.Skier).bind fun x11 =>
 some (x11,w64 (-x11))
def wDD (p0:wAC) (p1:wAF):Option (Bool) :=
 (wBJ p1.Skier 0 (w64 ((↑p0.Starts.length:Int) - 1))).bind fun x9 =>
 if x9=true then
  (wBJ p1.Index 0 (w64 ((↑p0.Splits.length:Int) - 1))).bind fun x21 =>
  some x21
 else
  some false
def wDg (p0:wAC) (p1:wAF):Option (wAJ × wAJ) :=
 (some ()).bind fun _ =>
 some ((⟨p1.Skier,p1.Index⟩:wAJ),(⟨p1.Skier,w64 (p1.Index + 1)⟩:wAJ))
def wDh (p0:wAC) (p1:wAF):Option (Int × Int) :=
 (idx p0.Splits p1.Index).bind fun x11 =>
 some (x11.Hi,w64 (-x11.Lo))
def wDE (p0:wAC) (p1:wAF):Option (Bool) :=
 if p1.Skier=0 then
  (wBJ p1.Index 0 (w64 ((↑p0.Clocks.length:Int) - 1))).bind fun x11 =>
  some x11
 else
  some false
def wBu (p0:Int):Option (wAJ) :=
 some (⟨-1,w64 (1 + p0)⟩:wAJ)
def wDi (p0:wAC) (p1:wAF):Option (wAJ × wAJ) :=
 (wCU).bind fun x19 =>
 (wBu p1.Index).bind fun x29 =>
 some (x19,x29)
def wDj (p0:wAC) (p1:wAF):Option (Int × Int) :=
 (idx p0.Clocks p1.Index).bind fun x11 =>
 some (w64 (-x11.Offset.Lo),x11.Offset.Hi)
def wCl (p0:wAC) (p1:wAF):Option (Bool) :=
 if p1.Skier=0 then
  (wBJ p1.Index 0 (w64 ((↑p0.Readings.length:Int) - 1))).bind fun x11 =>
  some x11
 else
  some false
def wDP (p0:wAC) (p1:wAF):Option (wAJ × wAJ) :=
 (idx p0.Readings p1.Index).bind fun x17 =>
 ((wBu x17.Clock).bind fun x36 =>
 some (x36.skier,x36.mat)).bind fun (x31,x32) =>
 some ((⟨x31,x32⟩:wAJ),(⟨x17.Skier,x17.Mat⟩:wAJ))
def wDQ (p0:wAC) (p1:wAF):Option (Int × Int) :=
 (idx p0.Readings p1.Index).bind fun x9 =>
 (idx p0.Clocks x9.Clock).bind fun x25 =>
 some (w64 (x9.Time + x25.Error),w64 (x25.Error - x9.Time))
def wAg :Option (Unit) :=
 some ()
def wAt (p0:wAC) (p1:wAF):Option (wAJ × wAJ × Int) :=
 if p1.Kind=0 then
  ((wAg).bind fun _ =>
  some ()).bind fun _ =>
  (wDe p0 p1).bind fun (x92,x93) =>
  (wDf p0 p1).bind fun (x113,x114) =>
  if p1.Up=true then
   (some ()).bind fun _ =>
   some (x92,x93,x113)
  else
   some (x93,x92,x114)
 else
  if p1.Kind=1 then
   ((wAg).bind fun _ =>
   some ()).bind fun _ =>
   (wDg p0 p1).bind fun (x251,x252) =>
   (wDh p0 p1).bind fun (x272,x273) =>
   if p1.Up=true then
    (some ()).bind fun _ =>
    some (x251,x252,x272)
   else
    some (x252,x251,x273)
  else
   if p1.Kind=2 then
    ((wAg).bind fun _ =>
    some ()).bind fun _ =>
    (wDi p0 p1).bind fun (x410,x411) =>
    (wDj p0 p1).bind fun (x431,x432) =>
    if p1.Up=true then
     (some ()).bind fun _ =>
     some (x410,x411,x431)
    else
     some (x411,x410,x432)
   else
    if p1.Kind=3 then
     ((wAg).bind fun _ =>
     some ()).bind fun _ =>
     (wDP p0 p1).bind fun (x569,x570) =>
     (wDQ p0 p1).bind fun (x590,x591) =>
     if p1.Up=true then
      (some ()).bind fun _ =>
      some (x569,x570,x590)
     else
      some (x570,x569,x591)
    else
     (wAg).bind fun _ =>
     none
def wCt (p0:wAC):Option (wAW) :=
 ((wCU).bind fun x22 =>
 some (wFm ([]:List (wAJ × Int)) x22 0)).bind fun l13 =>
 (wCs p0).bind fun _ =>
 (wBy (S:=(List wAV) × (List (wAJ × Int))) (E:=Empty) (fun (l1591,l1595) x1616 =>
  (wAt p0 x1616).bind fun (x1652,x1653,x1654) =>
  (wBY 0 2 (fun k1692 l1689 =>
   (idx ([x1652,x1653]:List wAJ) (↑k1692:Int)).bind fun x1718 =>
   if (wJh l1689 x1718)=true then
    some l1689
   else
    some (wFm l1689 x1718 (↑(l1689.length):Int))) l1595).bind fun y1697 =>
  (app 56 l1591 [(⟨x1616,(wBH y1697 x1652 0),(wBH y1697 x1653 0),x1654⟩:wAV)]).bind fun x1773 =>
  some (.inl (x1773,y1697))) ([],l13) p0).bind fun rr1606 =>
 match rr1606 with
 | .inl (y1845,y1846) =>
  some (⟨p0,y1846,y1845⟩:wAW)
 | .inr e1851 =>
  e1851.elim
def wBv (p0:wAC):Option ((Option wAW) × Int) :=
 (wCT p0).bind fun x5 =>
 if x5=0 then
  (wCt p0).bind fun x21 =>
  some ((some x21),0)
 else
  some (none,x5)
def wDR (p0 p1:Int):Option (Int × Int):=if 0 <= p0/\p0 < 18446744073709551616/\0 <= p1/\p1 < 18446744073709551616 then some (p0 * p1 / 18446744073709551616,p0 * p1 % 18446744073709551616) else none
def wBC (p0:List Int) (p1:Int):Option ((List Int)) :=
 if p1 < 0 then
  none
 else
  (wDR (wKb (↑p0.length:Int)) (wKb p1)).bind fun (x4,x5) =>
  (if 0 < x4 then
   some true
  else
   some (decide (9223372036854775807 < x5))).bind fun b15 =>
  if b15=true then
   none
  else
   (mkz 8 (w64 x5) (0:Int)).bind fun x35 =>
   (wJq x35 0 p0).bind fun x45 =>
   iter (fun (l58,x59) =>
    if x59 < (↑l58.length:Int) then
     (cut l58 x59 (↑(l58.length):Int)).bind fun x77 =>
     (cut l58 0 x59).bind fun x86 =>
     (wJq l58 x59 x86).bind fun x95 =>
     some (.inl (x95,w64 (x59 + (↑(min x86.length (x77.length)):Int))))
    else
     esc (some l58)) big (x45,(↑(min p0.length (x35.length)):Int))
def wAd (p0:wAW) (p1:Int) (p2:Bool):Option (wAb × Int × Bool) :=
 ((wBC [1125899906842624] (↑(p0.number.length):Int)).bind fun x28 =>
 (wBC [-1] (↑(p0.number.length):Int)).bind fun x51 =>
 some (x28,x51)).bind fun (l9,l12) =>
 (wBY 0 (↑l9.length:Int) (fun k1254 l1253 =>
  if p1 < 0 then
   (chk (↑k1254:Int) l1253.length).bind fun _ =>
   some (nB l1253 k1254 0)
  else
   if (↑k1254:Int)=p1 then
    (chk (↑k1254:Int) l1253.length).bind fun _ =>
    some (nB l1253 k1254 0)
   else
    some l1253) l9).bind fun y1259 =>
 jn (wEW 0 (w64 ((↑(p0.number.length):Int) + 1)) (fun k1336 (l1333,l1334,x1335) =>
  (wBY 0 (↑p0.edges.length:Int) (fun k1375 (l1372,l1373,x1374) =>
   ((idx p0.edges (↑k1375:Int)).bind fun x1412 =>
   if p2=true then
    (chk x1412.to_ l1372.length).bind fun _ =>
    if (gd l1372 x1412.to_.toNat) < 1125899906842624 then
     (chk x1412.from_ l1372.length).bind fun _ =>
     if (w64 ((gd l1372 x1412.to_.toNat) + x1412.count)) < (gd l1372 x1412.from_.toNat) then
      ((chk x1412.from_ l1373.length).bind fun _ =>
      some ()).bind fun _ =>
      some ((nB l1372 x1412.from_.toNat (w64 ((gd l1372 x1412.to_.toNat) + x1412.count))),(nB l1373 x1412.from_.toNat (↑k1375:Int)),x1412.from_)
     else
      some (l1372,l1373,x1374)
    else
     some (l1372,l1373,x1374)
   else
    (chk x1412.from_ l1372.length).bind fun _ =>
    if (gd l1372 x1412.from_.toNat) < 1125899906842624 then
     (chk x1412.to_ l1372.length).bind fun _ =>
     if (w64 ((gd l1372 x1412.from_.toNat) + x1412.count)) < (gd l1372 x1412.to_.toNat) then
      ((chk x1412.to_ l1373.length).bind fun _ =>
      some ()).bind fun _ =>
      some ((nB l1372 x1412.to_.toNat (w64 ((gd l1372 x1412.from_.toNat) + x1412.count))),(nB l1373 x1412.to_.toNat (↑k1375:Int)),x1412.to_)
     else
      some (l1372,l1373,x1374)
    else
     some (l1372,l1373,x1374)).bind fun (l1406,l1407,x1408) =>
   some (l1406,l1407,x1408)) (l1333,l1334,-1)).bind fun (y1380,y1381,y1382) =>
  if y1382 < 0 then
   esc (some ((⟨y1380,y1381⟩:wAb),0,true))
  else
   some (.inl (y1380,y1381,y1382))) (y1259,l12,-1)) fun (y1697,y1698,y1699) =>
 some ((⟨y1697,y1698⟩:wAb),y1699,false)
def wCW (p0:wAW) (p1:List Int):Option ((List (List Int)) × (List Int)) :=
 (idx p1 0).bind fun x3 =>
 (wBY 0 (↑p0.Race.Starts.length:Int) (fun k31 l26 =>
  (wBY 0 (w64 ((↑p0.Race.Splits.length:Int) + 1)) (fun k74 l70 =>
   (idx p1 (wBH p0.number (⟨(↑k31:Int),(↑k74:Int)⟩:wAJ) 0)).bind fun x103 =>
   (app 8 l70 [w64 (x103 - x3)]).bind fun x117 =>
   some x117) []).bind fun y79 =>
  (app 24 l26 [y79]).bind fun x161 =>
  some x161) []).bind fun y36 =>
 (wBY 0 (↑p0.Race.Clocks.length:Int) (fun k215 l211 =>
  (wBu (↑k215:Int)).bind fun x243 =>
  (idx p1 (wBH p0.number x243 0)).bind fun x253 =>
  (app 8 l211 [w64 (x3 - x253)]).bind fun x268 =>
  some x268) []).bind fun y220 =>
 some (y36,y220)
def wBF (p0:wAC):Option ((List (List Int)) × (List Int) × Int) :=
 (wBv p0).bind fun (x5,x6) =>
 match x5 with
 | none =>
  if x6=0 then
   none
  else
   some ([],[],x6)
 | some x30 =>
  if x6=0 then
   (wAd x30 (-1) false).bind fun (x59,x60,x61) =>
   if x61=true then
    (wCW x30 x59.far).bind fun (x101,x102) =>
    some (x101,x102,0)
   else
    some ([],[],7)
  else
   some ([],[],x6)
def wBw (p0:Int) (p1:Int):Option (Bool) :=
 some (decide (p0=p1))
def wAy (rec_:Int->wAb->(List wAF)->(Int->Option Bool)->wAW->Unit->Option ((List wAF))) (p0:Int) (p1:wAb) (p2:List wAF) (p3:(Int->Option Bool)) (p4:wAW) (p5:Unit):Option ((List wAF)) :=
 ((idx p1.by_ p0).bind fun x7 =>
 if x7 < 0 then
  some true
 else
  if 0 < (↑p2.length:Int) then
   (p3 p0).bind fun x20 =>
   some x20
  else
   some false).bind fun b3 =>
 if b3=true then
  some p2
 else
  (idx p1.by_ p0).bind fun x52 =>
  (idx p4.edges x52).bind fun x60 =>
  (app 32 p2 [x60.step]).bind fun x80 =>
  (rec_ x60.from_ p1 x80 p3 p4 ()).bind fun x100 =>
  some x100
def wBz:Nat->Int->wAb->(List wAF)->(Int->Option Bool)->wAW->Unit->Option ((List wAF))
 | 0=>fun _ _ _ _ _ _=>none
 | n_ + 1=>wAy (wBz n_)
def wAh (p0:List wAF):Option ((List wAF)) :=
 iter (fun (l11,x12,x13) =>
  if x12 < x13 then
   (chk x13 l11.length).bind fun _ =>
   (chk x12 l11.length).bind fun _ =>
   (chk x13 (nB l11 x12.toNat (gd l11 x13.toNat)).length).bind fun _ =>
   some (.inl ((nB (nB l11 x12.toNat (gd l11 x13.toNat)) x13.toNat (gd l11 x12.toNat)),w64 (x12 + 1),w64 (x13 - 1)))
  else
   esc (some l11)) big (p0,0,w64 ((↑p0.length:Int) - 1))
def wCu (p0:wAW) (p1:wAb) (p2:(Int->Option Bool)) (p3:Int):Option ((List wAF)) :=
 (wBz 1000 p3 p1 ([]:List wAF) p2 p0 ()).bind fun x93 =>
 (wAh x93).bind fun x107 =>
 some x107
def wDN (p0:wAC):Option ((List wAF) × Int) :=
 (wBv p0).bind fun (x5,x6) =>
 match x5 with
 | none =>
  if x6=0 then
   none
  else
   some ([],x6)
 | some x30 =>
  if x6=0 then
   (wAd x30 (-1) false).bind fun (x57,x58,x59) =>
   if x59=true then
    some ([],6)
   else
    (wBY 0 (↑(x30.number.length):Int) (fun k100 x99 =>
     (chk x99 x57.by_.length).bind fun _ =>
     (idx x30.edges (gd x57.by_ x99.toNat)).bind fun x129 =>
     some x129.from_) x58).bind fun y105 =>
    (wCu x30 x57 (fun x=>wBw x y105) y105).bind fun x227 =>
    some (x227,0)
  else
   some ([],x6)
def wAe (p0:wAW):Option (Bool) :=
 (wAd p0 (-1) false).bind fun (x3,x4,x5) =>
 some x5
def wCK (p0:Int) (p1:wAI) (p2:Int):Option (Bool) :=
 some (decide (p0=p2))
def wAi (p0:wAC) (p1:((Int × wAI)->Option Bool)):Option (wAW) :=
 (mkz 32 (↑p0.Readings.length:Int) (⟨0,0,0,0⟩:wAI)).bind fun x5 =>
 (wJq x5 0 p0.Readings).bind fun x13 =>
 (wBY 0 (↑x13.length:Int) (fun k34 (l32,k33) =>
  (chk (↑k34:Int) l32.length).bind fun _ =>
  (p1 ((↑k34:Int),(gd l32 k34))).bind fun x68 =>
  if x68=true then
   some (l32,k33)
  else
   (chk (((k33):Nat):Int) l32.length).bind fun _ =>
   some ((nB l32 k33 (gd l32 k34)),(k33 + 1))) (x13,0)).bind fun (y39,y40) =>
 (cut y39 0 ((y40:Nat):Int)).bind fun x114 =>
 (wCt (⟨p0.Starts,p0.Splits,p0.Clocks,x114⟩:wAC)).bind fun x130 =>
 some x130
def wBg (p0:Int) (p1:wAI) (p2:Int) (p3:Int):Option (Bool) :=
 if p0=p2 then
  some true
 else
  some (decide (p0=p3))
def wCm (p0:wAC):Option ((List Int) × Int) :=
 (wBv p0).bind fun (x5,x6) =>
 match x5 with
 | none =>
  if x6=0 then
   none
  else
   some ([],x6)
 | some x30 =>
  if x6=0 then
   (wAe x30).bind fun x57 =>
   if x57=true then
    some ([],0)
   else
    jn (wEW 0 (↑p0.Readings.length:Int) (fun k73 _ =>
     (wAi p0 (fun x=>wCK x.1 x.2 (↑k73:Int))).bind fun x126 =>
     (wAe x126).bind fun x167 =>
     if x167=true then
      esc (some ([(↑k73:Int)],0))
     else
      some (.inl ())) ()) fun _ =>
    jn (wEW 0 (↑p0.Readings.length:Int) (fun k204 _ =>
     iter (fun x250 =>
      if x250 < (↑p0.Readings.length:Int) then
       (wAi p0 (fun x=>wBg x.1 x.2 (↑k204:Int) x250)).bind fun x309 =>
       (wAe x309).bind fun x350 =>
       if x350=true then
        esc (esc (some ([(↑k204:Int),x250],0)))
       else
        some (.inl (w64 (x250 + 1)))
      else
       esc (some (.inl ()))) big (↑(k204 + 1):Int)) ()) fun _ =>
    some ([],10)
  else
   some ([],x6)
def wCh (p0:Int) (p1:wAI) (p2:Int):Option (Bool) :=
 some (decide (p1.Skier=p2))
def wCn (p0:wAC):Option ((List Int) × Int) :=
 (wBv p0).bind fun (x5,x6) =>
 match x5 with
 | none =>
  if x6=0 then
   none
  else
   some ([],x6)
 | some x30 =>
  if x6=0 then
   (wAe x30).bind fun x57 =>
   if x57=true then
    some ([],6)
   else
    (wBY 0 (↑p0.Starts.length:Int) (fun k89 l85 =>
     (wAi p0 (fun x=>wCh x.1 x.2 (↑k89:Int))).bind fun x145 =>
     (wAe x145).bind fun x186 =>
     if x186=true then
      (app 8 l85 [(↑k89:Int)]).bind fun x206 =>
      some x206
     else
      some l85) []).bind fun y94 =>
    some (y94,0)
  else
   some ([],x6)
def wBc (p0:wAC) (p1:List (List Int)) (p2:List Int):Option (Bool) :=
 if (↑p1.length:Int)=(↑p0.Starts.length:Int) then
  if (↑p2.length:Int)=(↑p0.Clocks.length:Int) then
   jn (wEW 0 (↑p1.length:Int) (fun k10 _ =>
    (idx p1 (↑k10:Int)).bind fun x32 =>
    if (↑x32.length:Int)=(w64 ((↑p0.Splits.length:Int) + 1)) then
     (idx x32 0).bind fun x49 =>
     (idx p0.Starts (↑k10:Int)).bind fun x56 =>
     if x49=x56 then
      jn (wEW 0 (↑p0.Splits.length:Int) (fun k67 _ =>
       (idx p0.Splits (↑k67:Int)).bind fun x93 =>
       (idx x32 (↑(k67 + 1):Int)).bind fun x125 =>
       (idx x32 (↑k67:Int)).bind fun x133 =>
       if x125 < x133 then
        esc (esc (some false))
       else
        if (w64 (x125 - x133)) < x93.Lo then
         esc (esc (some false))
        else
         if x93.Hi < (w64 (x125 - x133)) then
          esc (esc (some false))
         else
          some (.inl ())) ()) fun _ =>
      some (.inl ())
     else
      esc (some false)
    else
     esc (some false)) ()) fun _ =>
   jn (wEW 0 (↑p0.Clocks.length:Int) (fun k224 _ =>
    (idx p0.Clocks (↑k224:Int)).bind fun x246 =>
    (idx p2 (↑k224:Int)).bind fun x264 =>
    if x264 < x246.Offset.Lo then
     esc (some false)
    else
     if x246.Offset.Hi < x264 then
      esc (some false)
     else
      some (.inl ())) ()) fun _ =>
   jn (wEW 0 (↑p0.Readings.length:Int) (fun k304 _ =>
    (idx p0.Readings (↑k304:Int)).bind fun x326 =>
    (idx p1 x326.Skier).bind fun x345 =>
    (idx x345 x326.Mat).bind fun x360 =>
    (idx p2 x326.Clock).bind fun x367 =>
    (idx p0.Clocks x326.Clock).bind fun x377 =>
    if x377.Error < (w64 ((w64 (x326.Time - x360)) - x367)) then
     esc (some false)
    else
     if x377.Error < (w64 (-(w64 ((w64 (x326.Time - x360)) - x367)))) then
      esc (some false)
     else
      some (.inl ())) ()) fun _ =>
   some true
  else
   some false
 else
  some false
def wAv (p0:wAC) (p1:wAF):Option (Bool) :=
 if p1.Kind=0 then
  (wBJ p1.Kind 0 3).bind fun x16 =>
  if x16=true then
   (wAg).bind fun _ =>
   (wDC p0 p1).bind fun x45 =>
   some x45
  else
   some false
 else
  if p1.Kind=1 then
   (wBJ p1.Kind 0 3).bind fun x67 =>
   if x67=true then
    (wAg).bind fun _ =>
    (wDD p0 p1).bind fun x96 =>
    some x96
   else
    some false
  else
   if p1.Kind=2 then
    (wBJ p1.Kind 0 3).bind fun x118 =>
    if x118=true then
     (wAg).bind fun _ =>
     (wDE p0 p1).bind fun x147 =>
     some x147
    else
     some false
   else
    if p1.Kind=3 then
     (wBJ p1.Kind 0 3).bind fun x169 =>
     if x169=true then
      (wAg).bind fun _ =>
      (wCl p0 p1).bind fun x198 =>
      some x198
     else
      some false
    else
     (wBJ p1.Kind 0 3).bind fun x220 =>
     if x220=true then
      (wAg).bind fun _ =>
      none
     else
      some false
def wBT (p0:List wAF) (p1:(wAF->Option Bool)):Option (Bool) :=
 jn (wEW 0 (↑p0.length:Int) (fun k2 _ =>
  (idx p0 (↑k2:Int)).bind fun x22 =>
  (p1 x22).bind fun x37 =>
  if x37=true then
   some (.inl ())
  else
   esc (some false)) ()) fun _ =>
 some true
def wBd (p0:wAC) (p1:List wAF):Option (Int) :=
 if 80 < (↑p1.length:Int) then
  some 2
 else
  (wBT p1 (fun x=>wAv p0 x)).bind fun x9 =>
  if x9=true then
   some 0
  else
   some 1
def wAo (p0:wAC) (p1:wAJ) (p2:List wAF):Option (wAJ × Int × Bool) :=
 jn (wEW 0 (↑p2.length:Int) (fun k27 (x24,x25,x26) =>
  (idx p2 (↑k27:Int)).bind fun x50 =>
  (wAt p0 x50).bind fun (x69,x70,x71) =>
  if x69=(⟨x24,x25⟩:wAJ) then
   some (.inl (x70.skier,x70.mat,w64 (x26 + x71)))
  else
   esc (some ((⟨x24,x25⟩:wAJ),0,false))) (p1.skier,p1.mat,0)) fun (y114,y115,y116) =>
 some ((⟨y114,y115⟩:wAJ),y116,true)
def wBR (p0:wAC) (p1:List wAF):Option (Int × Int) :=
 (wCT p0).bind fun x5 =>
 if x5=0 then
  (wBd p0 p1).bind fun x22 =>
  if x22=0 then
   if (↑p1.length:Int)=0 then
    some (0,8)
   else
    ((idx p1 0).bind fun x44 =>
    (wAt p0 x44).bind fun (x56,x57,x58) =>
    some (x56.skier,x56.mat)).bind fun (x39,x40) =>
    (wAo p0 (⟨x39,x40⟩:wAJ) p1).bind fun (x279,x280,x281) =>
    if x281=true then
     if x279=(⟨x39,x40⟩:wAJ) then
      if 0 <= x280 then
       some (0,8)
      else
       some (x280,0)
     else
      some (0,8)
    else
     some (0,8)
  else
   some (0,x22)
 else
  some (0,x5)
def wAw :Option (wAC) :=
 some (⟨[0,300],[(⟨1000,1200⟩:wAK),(⟨900,1500⟩:wAK)],[(⟨(⟨-5,5⟩:wAK),1⟩:wAM)],[(⟨0,2,0,2250⟩:wAI),(⟨1,1,0,1400⟩:wAI),(⟨1,2,0,2499⟩:wAI)]⟩:wAC)
def wAr (p0:Int) (p1:Int):Option (wAS) :=
 some (⟨p0,p1⟩:wAS)
def wBs (p0:List wAS) (p1:(wAS->Option Bool)):Option (Bool) :=
 jn (wEW 0 (↑p0.length:Int) (fun k2 _ =>
  (idx p0 (↑k2:Int)).bind fun x22 =>
  (p1 x22).bind fun x37 =>
  if x37=true then
   some (.inl ())
  else
   esc (some false)) ()) fun _ =>
 some true
def wDn (p0:wAC) (p1:List wAS):Option ((Option wAW) × Int) :=
 (wBv p0).bind fun (x5,x6) =>
 match x5 with
 | none =>
  if x6=0 then
   (wBs p1 (fun x=>wAk p0 x)).bind fun x40 =>
   if x40=true then
    none
   else
    some (none,1)
  else
   some (none,x6)
 | some x30 =>
  if x6=0 then
   (wBs p1 (fun x=>wAk p0 x)).bind fun x71 =>
   if x71=true then
    (wAe x30).bind fun x96 =>
    if x96=true then
     some ((some x30),0)
    else
     some (none,7)
   else
    some (none,1)
  else
   some (none,x6)
def wDF (p0:wAS):Option (wAJ) :=
 some (⟨p0.Skier,p0.Mat⟩:wAJ)
def wCV (p0:wAW) (p1:wAJ) (p2:wAJ):Option (wAK) :=
 ((wAd p0 (wBH p0.number p1 0) false).bind fun (x26,x27,x28) =>
 some (x26.far,x26.by_)).bind fun (l17,l20) =>
 ((wAd p0 (wBH p0.number p2 0) false).bind fun (x145,x146,x147) =>
 some (x145.far,x145.by_)).bind fun (l131,l134) =>
 (chk (wBH p0.number p1 0) l131.length).bind fun _ =>
 (chk (wBH p0.number p2 0) l17.length).bind fun _ =>
 some (⟨w64 (-(gd l131 (wBH p0.number p1 0).toNat)),(gd l17 (wBH p0.number p2 0).toNat)⟩:wAK)
def wEM (p0:wAC) (p1:wAS):Option (wAK × Int) :=
 (wDn p0 [p1]).bind fun (x27,x28) =>
 match x27 with
 | none =>
  if x28=0 then
   (wCU).bind fun x58 =>
   (wDF p1).bind fun x68 =>
   none
  else
   some ((⟨0,0⟩:wAK),x28)
 | some x52 =>
  if x28=0 then
   (wCU).bind fun x95 =>
   (wDF p1).bind fun x105 =>
   (wCV x52 x95 x105).bind fun x125 =>
   some (x125,0)
  else
   some ((⟨0,0⟩:wAK),x28)
def wFr (p0:wAC) (p1:wAS) (p2:wAS):Option (wAK × Int) :=
 (wDn p0 [p1,p2]).bind fun (x31,x32) =>
 match x31 with
 | none =>
  if x32=0 then
   (wDF p1).bind fun x62 =>
   (wDF p2).bind fun x72 =>
   none
  else
   some ((⟨0,0⟩:wAK),x32)
 | some x56 =>
  if x32=0 then
   (wDF p1).bind fun x99 =>
   (wDF p2).bind fun x109 =>
   (wCV x56 x99 x109).bind fun x129 =>
   some (x129,0)
  else
   some ((⟨0,0⟩:wAK),x32)
def wEZ (p0:wAC) (p1:wAS) (p2:wAS) (p3:List wAF):Option (Int × Int) :=
 (wCT p0).bind fun x13 =>
 if x13=0 then
  (wAk p0 p1).bind fun x29 =>
  if x29=true then
   (wAk p0 p2).bind fun x45 =>
   if x45=true then
    (wBd p0 p3).bind fun x64 =>
    if x64=0 then
     ((wDF p1).bind fun x85 =>
     (wAo p0 x85 p3).bind fun (x105,x106,x107) =>
     some (x105.skier,x105.mat,x106,x107)).bind fun (x78,x79,x80,b81) =>
     if b81=true then
      (wDF p2).bind fun x256 =>
      if (⟨x78,x79⟩:wAJ)=x256 then
       some (x80,0)
      else
       some (0,8)
     else
      some (0,8)
    else
     some (0,x64)
   else
    some (0,1)
  else
   some (0,1)
 else
  some (0,x13)
def wEa (p0:wAC) (p1:Int):Option ((Option wAW) × Int) :=
 (wDn p0 [(⟨0,p1⟩:wAS)]).bind fun (x19,x20) =>
 match x19 with
 | none =>
  some (none,x20)
 | some x44 =>
  some ((some x44),x20)
def wCy (p0:wAW) (p1:Int):Option ((Arr Int 64)) :=
 (wBY 0 (↑p0.Race.Starts.length:Int) (fun k19 a18 =>
  (wAd p0 (wBH p0.number (⟨(↑k19:Int),p1⟩:wAJ) 0) false).bind fun (x47,x48,x49) =>
  (wBY 0 (↑p0.Race.Starts.length:Int) (fun k79 a78 =>
   (chk (wBH p0.number (⟨(↑k79:Int),p1⟩:wAJ) 0) x47.far.length).bind fun _ =>
   (chk (↑k19:Int) 8).bind fun _ =>
   (chk (↑k79:Int) 8).bind fun _ =>
   some (a78.set (k19 * 8 + k79) (gd x47.far (wBH p0.number (⟨(↑k79:Int),p1⟩:wAJ) 0).toNat))) a18).bind fun y84 =>
  some y84) (Arr.fill 64 0)).bind fun y24 =>
 some y24
def wEb (p0:wAC) (p1:Int):Option ((List wAK) × Int) :=
 (wEa p0 p1).bind fun (x5,x6) =>
 match x5 with
 | none =>
  if x6=0 then
   none
  else
   some ([],x6)
 | some x30 =>
  if x6=0 then
   (wCy x30 p1).bind fun x48 =>
   (wBY 0 (↑p0.Starts.length:Int) (fun k83 l79 =>
    (wBY 0 (↑p0.Starts.length:Int) (fun k124 (x122,x123) =>
     (chk (↑k83:Int) 8).bind fun _ =>
     (chk (↑k124:Int) 8).bind fun _ =>
     if (x48.get (k83 * 8 + k124)) < 0 then
      if 0 < (x48.get (k124 * 8 + k83)) then
       some (w64 (x122 + 1),w64 (x123 + 1))
      else
       some (w64 (x122 + 1),x123)
     else
      if 0 < (x48.get (k124 * 8 + k83)) then
       some (x122,w64 (x123 + 1))
      else
       some (x122,x123)) (1,1)).bind fun (y129,y130) =>
    (app 16 l79 [(⟨y129,y130⟩:wAK)]).bind fun x207 =>
    some x207) []).bind fun y88 =>
   some (y88,0)
  else
   some ([],x6)
def wCX (p0:wAI) (p1:Int) (p2:Int):Option (Bool) :=
 some (decide ((⟨p0.Skier,p0.Mat⟩:wAS)=(⟨p1,p2⟩:wAS)))
def wAp (p0:List wAI) (p1:(wAI->Option Bool)):Option (Int) :=
 jn (wEW 0 (↑p0.length:Int) (fun k2 _ =>
  (idx p0 (↑k2:Int)).bind fun x22 =>
  (p1 x22).bind fun x30 =>
  if x30=true then
   esc (some (↑k2:Int))
  else
   some (.inl ())) ()) fun _ =>
 some (-1)
def wAm (p0:List wAI) (p1:(wAI->Option Bool)):Option (Bool) :=
 (wAp p0 p1).bind fun x1 =>
 some (decide (0 <= x1))
def wEP (p0:wAC):Option ((List wAS) × Int) :=
 (wCT p0).bind fun x5 =>
 if x5=0 then
  (wBY 0 (↑p0.Starts.length:Int) (fun k34 l30 =>
   iter (fun (l91,x95) =>
    if x95 <= (↑p0.Splits.length:Int) then
     (wAm p0.Readings (fun x=>wCX x (↑k34:Int) x95)).bind fun x127 =>
     if x127=true then
      some (.inl (l91,w64 (x95 + 1)))
     else
      (app 16 l91 [(⟨(↑k34:Int),x95⟩:wAS)]).bind fun x163 =>
      some (.inl (x163,w64 (x95 + 1)))
    else
     esc (some l91)) big (l30,1)) []).bind fun y39 =>
  some (y39,0)
 else
  some ([],x5)
def wCA (p0:List wAK) (p1:List wAK):Option (Bool) :=
 if (↑p0.length:Int)=(↑p1.length:Int) then
  jn (wEW 0 (↑p0.length:Int) (fun k4 _ =>
   (idx p0 (↑k4:Int)).bind fun x26 =>
   (idx p1 (↑k4:Int)).bind fun x34 =>
   if x26=x34 then
    some (.inl ())
   else
    esc (some false)) ()) fun _ =>
  some true
 else
  some false
def wBt (p0:List wAS) (p1:List wAS):Option (Bool) :=
 if (↑p0.length:Int)=(↑p1.length:Int) then
  jn (wEW 0 (↑p0.length:Int) (fun k4 _ =>
   (idx p0 (↑k4:Int)).bind fun x26 =>
   (idx p1 (↑k4:Int)).bind fun x34 =>
   if x26=x34 then
    some (.inl ())
   else
    esc (some false)) ()) fun _ =>
  some true
 else
  some false
def wBP :Option (wAC) :=
 (wAw).bind fun x5 =>
 (chk 1 x5.Readings.length).bind fun _ =>
 some (⟨x5.Starts,x5.Splits,x5.Clocks,(nB x5.Readings 1 (⟨(gd x5.Readings 1).Skier,(gd x5.Readings 1).Mat,(gd x5.Readings 1).Clock,1700⟩:wAI))⟩:wAC)
def wCC (p0:List Int) (p1:List Int):Option (Bool) :=
 if (↑p0.length:Int)=(↑p1.length:Int) then
  jn (wEW 0 (↑p0.length:Int) (fun k4 _ =>
   (idx p0 (↑k4:Int)).bind fun x26 =>
   (idx p1 (↑k4:Int)).bind fun x34 =>
   if x26=x34 then
    some (.inl ())
   else
    esc (some false)) ()) fun _ =>
  some true
 else
  some false
def wBD :Option (Bool) :=
 (wAw).bind fun x1 =>
 (wAr 0 2).bind fun x23 =>
 (wEM x1 x23).bind fun (x59,x60) =>
 (wAw).bind fun x77 =>
 (wAr 0 1).bind fun x99 =>
 (wEM x77 x99).bind fun (x135,x136) =>
 (wAw).bind fun x153 =>
 (wAr 0 2).bind fun x175 =>
 (wAr 1 2).bind fun x185 =>
 (wFr x153 x175 x185).bind fun (x221,x222) =>
 (wAw).bind fun x239 =>
 (wAr 0 2).bind fun x261 =>
 (wAr 1 2).bind fun x271 =>
 (wEZ x239 x261 x271 [(⟨3,0,0,false⟩:wAF),(⟨3,0,2,true⟩:wAF)]).bind fun (x321,x322) =>
 (wAw).bind fun x342 =>
 (wEb x342 2).bind fun (x390,x391) =>
 (wAw).bind fun x404 =>
 (wEP x404).bind fun (x452,x453) =>
 (if x60=0 then
  if x136=0 then
   if x222=0 then
    if x322=0 then
     if x391=0 then
      if x453=0 then
       if x59=(⟨2244,2256⟩:wAK) then
        if x135=(⟨1000,1200⟩:wAK) then
         if x221=(⟨247,251⟩:wAK) then
          if x321=251 then
           (wCA x390 [(⟨1,1⟩:wAK),(⟨2,2⟩:wAK)]).bind fun x506 =>
           if x506=true then
            (wAr 0 1).bind fun x518 =>
            (wBt x452 [x518]).bind fun x544 =>
            some (!x544)
           else
            some true
          else
           some true
         else
          some true
        else
         some true
       else
        some true
      else
       some true
     else
      some true
    else
     some true
   else
    some true
  else
   some true
 else
  some true).bind fun b466 =>
 if b466=true then
  some false
 else
  (wBP).bind fun x586 =>
  (wBF x586).bind fun (x634,x635,x636) =>
  (wBP).bind fun x654 =>
  (wBR x654 [(⟨0,1,0,true⟩:wAF),(⟨1,1,0,true⟩:wAF),(⟨3,0,1,false⟩:wAF),(⟨2,0,0,false⟩:wAF)]).bind fun (x716,x717) =>
  (wBP).bind fun x727 =>
  (wCm x727).bind fun (x775,x776) =>
  (wBP).bind fun x789 =>
  (wCn x789).bind fun (x837,x838) =>
  if x636=7 then
   if x717=0 then
    if x776=0 then
     if x838=0 then
      if x716=(-194) then
       (wCC x775 [1]).bind fun x886 =>
       if x886=true then
        (wCC x837 [1]).bind fun x914 =>
        some x914
       else
        some false
      else
       some false
     else
      some false
    else
     some false
   else
    some false
  else
   some false
def wCD (p0:List Int) (p1:Int):Option (Int) :=
 jn (wEW 0 (↑p0.length:Int) (fun k2 _ =>
  (idx p0 (↑k2:Int)).bind fun x22 =>
  if p1=x22 then
   esc (some (↑k2:Int))
  else
   some (.inl ())) ()) fun _ =>
 some (-1)
def wAn (p0:List Int) (p1:Int):Option (Bool) :=
 (wCD p0 p1).bind fun x1 =>
 some (decide (0 <= x1))
def wBW (p0:List Int) (p1:List Int) (p2:List Int):Option (Bool) :=
 (wBh p0).bind fun x1 =>
 (wBb x1 4 4 8).bind fun (x16,x17,x18,x19) =>
 ((wBh p1).bind fun x88 =>
 (wBq x88 x16).bind fun (x133,x134) =>
 some (x16.Starts,x16.Splits,x16.Clocks,x16.Readings,x133.Starts,x133.Splits,x133.Clocks,x133.Readings)).bind fun (l57,l60,l63,l66,l71,l74,l77,l80) =>
 (wBh p2).bind fun x488 =>
 (wBF (⟨l71,l74,l77,l80⟩:wAC)).bind fun (x529,x530,x531) =>
 (wDN (⟨l71,l74,l77,l80⟩:wAC)).bind fun (x553,x554) =>
 (wCm (⟨l71,l74,l77,l80⟩:wAC)).bind fun (x571,x572) =>
 (wCn (⟨l71,l74,l77,l80⟩:wAC)).bind fun (x589,x590) =>
 if x531=0 then
  if x554=6 then
   if x572=0 then
    if x590=6 then
     if 0 < (↑x571.length:Int) then
      some false
     else
      (wBc (⟨l71,l74,l77,l80⟩:wAC) x529 x530).bind fun x650 =>
      if x650=true then
       jn (wEW 0 6 (fun k684 (l679,x682,x683) =>
        (wAO (⟨l679,x682,x683⟩:wAH) 1 5).bind fun (x715,x716) =>
        (wBY 0 x715 (fun k766 (l757,x760,x761,l762) =>
         (wAL (⟨l757,x760,x761⟩:wAH) 4).bind fun (x795,x796) =>
         (wAL x796 2).bind fun (x809,x810) =>
         (wAL x810 2).bind fun (x823,x824) =>
         (wAf x824 2).bind fun (x837,x838) =>
         (app 32 l762 [(⟨x795,x809,x823,x837⟩:wAF)]).bind fun x856 =>
         some (x838.bytes,x838.next,x838.state,x856)) (x716.bytes,x716.next,x716.state,[])).bind fun (y771,y772,y773,y774) =>
        (wBR (⟨l71,l74,l77,l80⟩:wAC) y774).bind fun (x923,x924) =>
        if x924=8 then
         some (.inl (y771,y772,y773))
        else
         if x924=1 then
          some (.inl (y771,y772,y773))
         else
          esc (some false)) (x488.bytes,x488.next,x488.state)) fun (y961,y962,y963) =>
       (wBD).bind fun x974 =>
       some x974
      else
       some false
    else
     some false
   else
    some false
  else
   some false
 else
  (wBR (⟨l71,l74,l77,l80⟩:wAC) x553).bind fun (x1002,x1003) =>
  (if x531=7 then
   if x554=0 then
    if x590=0 then
     if x1003=0 then
      if 0 <= x1002 then
       some true
      else
       if x572=0 then
        some false
       else
        some (decide (¬ (x572=10)))
     else
      some true
    else
     some true
   else
    some true
  else
   some true).bind fun b1013 =>
  if b1013=true then
   some false
  else
   jn (wEW 0 (↑x571.length:Int) (fun k1074 _ =>
    ((idx x571 (↑k1074:Int)).bind fun x1102 =>
    if x1102 < 0 then
     some true
    else
     if (↑l80.length:Int) <= x1102 then
      some true
     else
      if 0 < (↑k1074:Int) then
       (idx x571 (w64 ((↑k1074:Int) - 1))).bind fun x1128 =>
       some (decide (x1102 <= x1128))
      else
       some false).bind fun b1096 =>
    if b1096=true then
     esc (some false)
    else
     (wAu (⟨l71,l74,l77,l80⟩:wAC)).bind fun x1177 =>
     (wBY 0 (↑l80.length:Int) (fun k1226 l1222 =>
      (idx l80 (↑k1226:Int)).bind fun x1256 =>
      (wAn x571 (↑k1226:Int)).bind fun x1276 =>
      if x1276=true then
       (idx x571 (↑k1074:Int)).bind fun x1288 =>
       if (↑k1226:Int)=x1288 then
        (app 32 l1222 [x1256]).bind fun x1303 =>
        some x1303
       else
        some l1222
      else
       (app 32 l1222 [x1256]).bind fun x1327 =>
       some x1327) []).bind fun y1231 =>
     (wBF (⟨x1177.Starts,x1177.Splits,x1177.Clocks,y1231⟩:wAC)).bind fun (x1390,x1391,x1392) =>
     if x1392=7 then
      some (.inl ())
     else
      esc (some false)) ()) fun _ =>
   (wAu (⟨l71,l74,l77,l80⟩:wAC)).bind fun x1446 =>
   (wBY 0 (↑l80.length:Int) (fun k1495 l1491 =>
    (idx l80 (↑k1495:Int)).bind fun x1522 =>
    (wAn x571 (↑k1495:Int)).bind fun x1541 =>
    if x1541=true then
     some l1491
    else
     (app 32 l1491 [x1522]).bind fun x1562 =>
     some x1562) []).bind fun y1500 =>
   (wBF (⟨x1446.Starts,x1446.Splits,x1446.Clocks,y1500⟩:wAC)).bind fun (x1622,x1623,x1624) =>
   (if ((decide (x1624=0)) == (decide (x572=0)))=true then
    if x572=0 then
     some (decide ((↑x571.length:Int)=0))
    else
     some false
   else
    some true).bind fun b1642 =>
   if b1642=true then
    some false
   else
    jn (wEW 0 (↑l71.length:Int) (fun k1690 l1687 =>
     (wBY 0 (↑l80.length:Int) (fun k1735 l1731 =>
      (idx l80 (↑k1735:Int)).bind fun x1763 =>
      if x1763.Skier=(↑k1690:Int) then
       some l1731
      else
       (app 32 l1731 [x1763]).bind fun x1799 =>
       some x1799) []).bind fun y1740 =>
     (wBF (⟨x1446.Starts,x1446.Splits,x1446.Clocks,y1740⟩:wAC)).bind fun (x1857,x1858,x1859) =>
     (wAn x589 (↑k1690:Int)).bind fun x1881 =>
     if ((decide (x1859=0)) == x1881)=true then
      some (.inl y1740)
     else
      esc (some false)) y1500) fun y1906 =>
    (wBD).bind fun x1919 =>
    some x1919
end Go.Proofs.Ytlnfbjphfoipaaa
namespace Go.KL
open Go.RowKit
section
variable {K V:Type} [DecidableEq K] {P:Program} {σ:Env} {o:Oper} {B:Base} {φ φ':PHeap} {L:List Res} {w:World} {m ck:Nat} {es:Array MapEntry} {mk:K->Value} {mv:V->Value} {t:List (K × V)}
def MpF {K V:Type} (φ:PHeap) (m:Nat) (es:Array MapEntry) (ck:Nat) (mk:K->Value) (mv:V->Value) (l:List (K × V)):Prop:=φ m=some (.map es ck)/\MpR es mk mv l
theorem MpF.le {K V:Type} {mk:K->Value} {mv:V->Value} {t:List (K × V)} (h:MpF φ m es ck mk mv t) (l:PHeap.Le φ φ'):MpF φ' m es ck mk mv t:=⟨l _ _ h.1,h.2⟩
theorem St.freezeM {K V:Type} {mk:K->Value} {mv:V->Value} {t:List (K × V)} (h:St B φ L w) {k:Nat} (hk:L[k]?=some (.obj m (.map es ck))) (hr:MpR es mk mv t) :
  ∃ φ',PHeap.Le φ φ'/\MpF φ' m es ck mk mv t/\St B φ' (L.eraseIdx k) w:=by
 obtain ⟨φ',h1,h2,h3⟩:=h.freezeO hk
 exact ⟨φ',h1,⟨h2,hr⟩,h3⟩
end
end Go.KL
namespace Go.KL
open Go.RowKit
section
variable {B:Base} {φ:PHeap} {L:List Res} {w:World}
theorem St.cutRowM {α:Type} {enc:α->List Value} {m:List α} {k c T sz b:Nat} {A:Option Addr} (h:St B φ L w) (hk:L[k]?=some (.row A c T sz (nS enc m))):St B φ (L.set k (.row A c T sz (nS enc (m.take b)))) w :=
 h.cutRow (a:=nS enc (m.take b)) (d:=nS enc (m.drop b)) (by rw [<- List.flatMap_append,List.take_append_drop];exact hk)
end
section
variable {P:Program} {N:Nat} {l:List Oper} {Q:wEG} {D:List Deferred} {ks:List Nat} {s:Sch} {σ:Env} {w:World} {B:Base} {φ:PHeap} {L:List Res} {i d:Nat} {o:Oper}
theorem slc0 {A:Option Addr} {c sz:Nat}:Value.slice (if c=(0:Int).toNat then A else A.map (·.add ((0:Int).toNat * sz))) ((0:Int).toNat - (0:Int).toNat) (c - (0:Int).toNat)=.slice A 0 c:=by
 have:A.map (·.add ((0:Int).toNat * sz))=A:=by
  cases A with
  | none=>rfl
  | some a=>simp [Addr.add]
 rw [this]
 simp
end
theorem St.cutRowC {α:Type} {enc:α->List Value} {m xs:List α} {k c T sz:Nat} {b:Int} {A:Option Addr} {B:Base} {φ:PHeap} {L:List Res} {w:World} (h:St B φ L w) (hk:L[k]?=some (.row A c T sz (nS enc m))) (hc:cut m 0 b=some xs):St B φ (L.set k (.row A c T sz (nS enc xs))) w:=by
 obtain ⟨h0,h1,h2,rfl,hn⟩:=wHp hc
 have:=h.cutRowM (b:=b.toNat) hk
 simpa using this
end Go.KL
namespace Go.KL
open Go.RowKit
section
variable {P:Program} {N:Nat} {l:List Oper} {Q:wEG} {D:List Deferred} {ks:List Nat} {s:Sch} {σ:Env} {w:World} {B:Base} {φ:PHeap} {L:List Res} {i d:Nat} {o:Oper}
theorem OKS.appendP {α:Type} {t e sz j c c2 k:Nat} {A A2:Option Addr} {inf:TypeInfo} {x y:Operand} {enc:α->List Value} {m:List α} {v:α}
  (ho:l[i]?=some o) (hd:o.dst=some d) (hN:Nat.blt d N=true) (hw:wanted l σ o=true) (hop:o.op=.call { callee:=.builtin .append,args:=#[x,y],argTypes:=#[t,t] })
  (ht:P.underlying t=some (.slice e)) (hi:P.info? e=some inf) (hsize:inf.size=sz) (hsz:Nat.blt 0 sz=true)
  (hS:St B φ L w) (hk:L[j]?=some (.row A c e sz (m.flatMap enc))) (hx:ev σ x=.slice A k c) (hy:ev σ y=.slice A2 1 c2)
  (hsrc:([v]:List α).length=0 \/ ∃ a,A2=some a/\∀ j u,(([v]:List α).flatMap enc)[j]?=some u->w.cell? (a.add j)=some u) (hel:∀ x,(enc x).length=sz) (h1:∀ x,(enc x).all (·.oneCell')=true)
  (hm:chk (k:Int) m.length=some ()) (hne:wFT (kOf ks i)=false)
  (kk:∀ w',St B φ (L.set j (.row A c e sz ((m.set k v).flatMap enc))) w'->OKS N P l Q D ks s (upd σ d (.slice A (k + 1) c)) w'):OKS N P l Q D ks (.fx i s .stop) σ w:=by
 have hkm:k < m.length:=by have:=wAY hm;omega
 have hsz':0 < sz:=by simpa [Nat.blt_eq] using hsz
 have hlen:(m.flatMap enc).length=m.length * sz:=wAD hel m
 obtain ⟨b0,hA⟩:=hS.rowSome hk (by rw [hlen];exact Nat.mul_pos (by omega) hsz')
 subst hA hsize
 obtain ⟨cur,g1,g2,g3,g4,g5⟩:=RowAt.cells (hS.at_ _ (kD hk))
 have hmc:m.length <= c:=by rw [hlen] at g2;exact Nat.le_of_mul_le_mul_right g2 hsz'
 obtain ⟨a,rfl,hc⟩:=hsrc.resolve_left (by simp)
 have e1:([v]:List α).flatMap enc=enc v:=by simp
 rw [e1] at hc
 have hle:(k + 1) * inf.size <= c * inf.size:=nc _ (by omega)
 rw [kP,kB] at hle
 have hr:=run_append_room (P:=P) w t o.type e inf ht hi b0 k c cur g1 a 1 c2 (enc v) (by rw [hel,kB]) hc (fun u hu=>nN.1 (h1 v) u hu) (by omega) (by rw [hel,g4];exact hle)
 have hset:cur.toList.take (k * inf.size) ++ enc v ++ cur.toList.drop (k * inf.size + (enc v).length)=wEh cur.toList (k * inf.size) (enc v):=(wIS _ _ _ (by rw [hel];simp only [Array.length_toList];omega)).symm
 rw [hset] at hr
 refine OKS.v (v:=.slice (some ⟨b0,0,none⟩) (k + 1) c) (w':=w.setRow b0 (wEh cur.toList (k * inf.size) (enc v)).toArray) ho hd hN hw ⟨by rw [hop];rfl,?_⟩ (.inl hne) (kk _ (hS.set hk ⟨rfl,⟨rfl,nA _⟩,rfl,by simp [World.setRow],fun q _ hq=>setRow_other w b0 q _ fun e=>hq (by rw [e];rfl)⟩ (.inr ⟨b0,_,rfl,setRow_heap w b0 cur _ e _ g1,?_,g3,?_,?_⟩) fun b hb=>.inl hb))
 ·simp [execOp,hop,resolve,invoke,builtin,hx,hy,hr,Result.andThen]
 ·rw [wAD hel,nM]
  exact nc _ hmc
 ·simp [wDH,g4]
 ·have h2:(m.flatMap enc).length=((m.set k v).flatMap enc).length:=by rw [wAD hel,wAD hel,nM]
  have h3:k * inf.size + (enc v).length <= (m.flatMap enc).length:=by
   have:(k + 1) * inf.size <= m.length * inf.size:=nc _ (by omega)
   rw [kP,kB] at this
   rw [hel,hlen];exact this
  show (wEh cur.toList (k * inf.size) (enc v)).take _=_
  rw [<- h2,wGU _ _ _ _ h3,g5]
  have hx:m[k]?=some m[k]:=nQ hkm
  have:=wEp (f:=enc) hel (vs:=enc v) (off:=0) m k _ v hx (by rw [hel];omega) (by
   have hv:(enc m[k]).length=(enc v).length:=by rw [hel,hel]
   rw [wIS _ _ _ (by omega),List.take_zero,nw,nK,<- hv,List.drop_length,ny])
  simpa using this
end
theorem wMY {α:Type} {m xs:List α} {k:Nat} (h:Go.KL.cut m 0 (k:Int)=some xs):xs.length=k:=by
 obtain ⟨_,_,_,_,hn⟩:=wHp h
 rw [hn];simp
end Go.KL
namespace Go.KL
open Go.RowKit
section
variable {N:Nat} {P:Program} {l:List Oper} {Q:wEG} {D:List Deferred} {ks:List Nat} {s:Sch} {σ:Env} {w:World} {B:Base} {φ:PHeap} {L:List Res} {i d:Nat} {o:Oper}
theorem wJR (v:Value) (k n:Nat) (hk:0 < k):madeCells (nf k v) n=(hU n v).toArray:=by
 apply Array.ext'
 simp only [madeCells]
 apply nt
 ·simp
 ·intro i h1 h2
  simp at h1 ⊢
  have hm:i % k < (nf k v).size:=by simpa using Nat.mod_lt i hk
  rw [getElem!_pos (nf k v) (i % k) hm]
  simp
theorem wFW {α:Type} {enc:α->List Value} {z:α} {v:Value} {k:Nat} (h:enc z=hU k v) (n:Nat):nS enc (hU n z)=hU (n * k) v:=by
 induction n with
 | zero=>simp
 | succ n ih=>rw [List.replicate_succ,nn,ih,h,List.replicate_append_replicate,kP,kB,Nat.add_comm]
theorem OKS.makeSliceZ {α:Type} {t e:TypeId} {inf:TypeInfo} {x y:Operand} {n:Int} {v u:Value} {enc:α->List Value} {z:α} {xs:List α} {sz:Nat} (ho:l[i]?=some o) (hd:o.dst=some d) (hN:Nat.blt d N=true) (hw:wanted l σ o=true) (hop:o.op=.makeSlice t x y)
  (ht:P.underlying t=some (.slice e)) (hi:P.info? e=some inf) (hz:inf.zero=some u) (hc:u.cells=nf sz v) (hs:inf.size=sz) (henc:enc z=hU sz v) (hsz:0 < sz) (hb:sz <= 16) (hx:ev σ x=.int .i64 n) (hy:ev σ y=.int .i64 n) (hm:mkz inf.bytes n z=some xs) (hS:St B φ L w)
  (k:∀ w' b,St B φ (.row (some ⟨b,0,none⟩) xs.length e sz (nS enc xs) :: L) w'->OKS N P l Q D ks s (upd σ d (.slice (some ⟨b,0,none⟩) xs.length xs.length)) w'):OKS N P l Q D ks (.fx i s .stop) σ w:=by
 unfold mkz at hm
 split at hm
 ·rename_i h
  obtain ⟨h0,h1,h2⟩:=h
  cases hm
  obtain ⟨m,rfl⟩:=nv h0
  have hr:=run_make (P:=P) w t e inf _ ht hi hz .i64 .i64 (m:Int) (m:Int) (by omega) (by omega) h2 (by omega)
  simp only [hs,nE,hc,wJR v sz (m * sz) hsz] at hr
  simp only [nE,List.length_replicate,wFW henc] at k
  have hmax:m <= maxLen:=by
   have h16:(16777216:Nat) <= maxLen:=by decide
   omega
  refine OKS.v (v:=.slice (some ⟨w.heap.size,0,none⟩) m m) (w':=w.alloc (.cells (hU (m * sz) v).toArray e)) ho hd hN hw ⟨by rw [hop];rfl,?_⟩ (.inr (wBl w _))
   (k _ _ (hS.new (wBl w _) (.inr ⟨_,(hU (m * sz) v).toArray,rfl,wEn w _ e,by simp,hmax,by simp,by simp⟩) rfl (nA _)))
  simp [execOp,hop,hx,hy,hr,Result.andThen]
 ·cases hm
end
end Go.KL
namespace Go.KL.Net
structure Ed where
 a:Nat
 b:Nat
 c:Int
def wHH (es:List Ed) (x:Nat->Int):Prop:=∀ e ∈ es,x e.b <= x e.a + e.c
theorem wLf {P:Int->Prop} {B:Int} (h:∃ m,P m) (hB:∀ m,P m->m <= B):∃ m,P m/\∀ k,P k->k <= m:=by
 have key:∀ (d:Nat) (m:Int),P m->(B - m).toNat <= d->∃ m,P m/\∀ k,P k->k <= m:=by
  intro d
  induction d with
  | zero =>
   intro m hm hd
   exact ⟨m,hm,fun k hk=>by have:=hB k hk;omega⟩
  | succ d ih =>
   intro m hm hd
   rcases kH (∃ k,P k/\m < k) with ⟨k,hk,hlt⟩ | h
   ·exact ih k hk (by have:=hB k hk;omega)
   ·exact ⟨m,hm,fun k hk=>by
     rcases kI m k with c | c
     ·exact absurd ⟨k,hk,c⟩ h
     ·exact c⟩
 obtain ⟨m,hm⟩:=h
 exact key _ m hm (nA _)
structure Con (n:Nat) (R:Int) (es:List Ed):Prop where
 ends:∀ e ∈ es,e.a < n/\e.b < n
 near:∀ x,wHH es x->∀ a b,a < n->b < n->x b - x a <= R
 all:∀ (S:Nat->Prop) (i:Nat),i < n->S i->(∀ e ∈ es,S e.a->S e.b)->∀ v,v < n->S v
structure Most (n:Nat) (es:List Ed) (top:Nat->Int) (δ:Nat->Int):Prop where
 ok:wHH es δ
 le:∀ v,v < n->δ v <= top v
 gr:∀ x,wHH es x->(∀ v,v < n->x v <= top v)->∀ v,v < n->x v <= δ v
theorem shift {es:List Ed} {x:Nat->Int} (h:wHH es x) (k:Int):wHH es fun v=>x v + k:=fun e he=>by have:=h e he;simp only;omega
theorem wLg {n:Nat} {R:Int} {es:List Ed} (C:Con n R es) {x:Nat->Int} (hx:wHH es x) {top:Nat->Int} {i:Nat} (hi:i < n) (h0:top i=0) (hp:∀ v,v < n->0 <= top v):∃ δ,Most n es top δ:=by
  have ex:∀ v,∃ m:Int,(v < n->(∃ y,wHH es y/\(∀ u,u < n->y u <= top u)/\y v=m)/\∀ y,wHH es y->(∀ u,u < n->y u <= top u)->y v <= m):=by
    intro v
    by_cases hv:v < n
    · obtain ⟨m,hm,hm2⟩:=wLf (P:=fun m=>∃ y,wHH es y/\(∀ u,u < n->y u <= top u)/\y v=m) (B:=R) ⟨_,fun u=>x u + (-(x i + R)),shift hx _,fun u hu=>by
          have:=C.near x hx i u hi hu
          have:=hp u hu
          simp only
          omega,rfl⟩ (by
          rintro m ⟨y,hy,hy2,rfl⟩
          have:=C.near y hy i v hi hv
          have:=hy2 i hi
          omega)
      exact ⟨m,fun _=>⟨hm,fun y hy hy2=>hm2 _ ⟨y,hy,hy2,rfl⟩⟩⟩
    · exact ⟨0,fun h=>absurd h hv⟩
  obtain ⟨δ,sp⟩:=Classical.axiomOfChoice ex
  refine ⟨δ,fun e he=>?_,fun v hv=>?_,fun y hy hy2 v hv=>(sp v hv).2 y hy hy2⟩
  · obtain ⟨h1,h2⟩:=C.ends e he
    obtain ⟨⟨y,hy,hy2,hy3⟩,_⟩:=sp e.b h2
    have:=(sp e.a h1).2 y hy hy2
    have:=hy e he
    omega
  · obtain ⟨⟨y,hy,hy2,hy3⟩,_⟩:=sp v hv
    have:=hy2 v hv
    omega
theorem Most.hi {n:Nat} {R:Int} {es:List Ed} (C:Con n R es) {top δ:Nat->Int} (M:Most n es top δ) {i:Nat} (hi:i < n) (h0:top i=0):∀ v,v < n->δ v <= R:=fun v hv=>by
 have:=C.near δ M.ok i v hi hv
 have:=M.le i hi
 omega
theorem Most.tight {n:Nat} {es:List Ed} {top δ:Nat->Int} (M:Most n es top δ) (hes:∀ e ∈ es,e.a < n/\e.b < n) (low:Nat->Int) (h0:∀ v,v < n->low v <= top v) (hT:∃ v,v < n/\δ v < low v) (hge:∀ v,v < n->δ v <= low v) :
  ∃ e ∈ es,low e.a=δ e.a/\δ e.b < low e.b/\δ e.b=δ e.a + e.c:=by
 rcases kH (∃ e ∈ es,low e.a=δ e.a/\δ e.b < low e.b/\δ e.b=δ e.a + e.c) with h | h
 ·exact h
 ·exfalso
  obtain ⟨v,hv,hlt⟩:=hT
  have hx:wHH es (fun u=>if δ u < low u then δ u + 1 else δ u):=by
   intro e he
   obtain ⟨h1,h2⟩:=hes e he
   have a:=M.ok e he
   have b:=hge e.a h1
   have c:=hge e.b h2
   simp only
   by_cases e1:δ e.b < low e.b
   ·by_cases e2:δ e.a < low e.a
    ·rw [if_pos e1,if_pos e2];omega
    ·rw [if_pos e1,if_neg e2]
     by_cases e3:δ e.b=δ e.a + e.c
     ·exact absurd ⟨e,he,by omega,e1,e3⟩ h
     ·omega
   ·rw [if_neg e1]
    split <;> omega
  have:=M.gr _ hx (fun u hu=>by
   have:=M.le u hu
   have:=h0 u hu
   show (if δ u < low u then δ u + 1 else δ u) <= top u
   split <;> omega) v hv
  have this:(if δ v < low v then δ v + 1 else δ v) <= δ v:=this
  rw [if_pos hlt] at this
  omega
theorem wIv (p q:Nat->Bool) (hpq:∀ v,p v=true->q v=true):∀ (l:List Nat),(∃ v ∈ l,p v=false/\q v=true)->l.countP p < l.countP q
 | [],⟨v,h,_⟩=>by cases h
 | a :: l,⟨v,h,hp,hq⟩=>by
  have mono:∀ l:List Nat,l.countP p <= l.countP q:=fun l=>List.countP_mono_left fun v _ h=>hpq v h
  rw [List.countP_cons,List.countP_cons]
  rcases nj.1 h with rfl | h
  ·have:=mono l
   simp only [hp,hq,if_true,nO,if_false]
   omega
  ·have:=wIv p q hpq l ⟨v,h,hp,hq⟩
   have:(if p a=true then 1 else 0) <= (if q a=true then 1 else 0):=by
    cases e:p a with
    | true=>rw [hpq a e];simp
    | false=>simp
   omega
def wMK (n:Nat) (δ low:Nat->Int):Nat:=(nD n).countP fun v=>decide (low v=δ v)
theorem wLh (n:Nat) (δ low:Nat->Int):wMK n δ low <= n:=by
 have:=List.countP_le_length (p:=fun v=>decide (low v=δ v)) (l:=nD n)
 rw [kL] at this
 exact this
theorem wLi {n:Nat} {δ low low':Nat->Int} (h1:∀ v,v < n->δ v <= low' v) (h2:∀ v,v < n->low' v <= low v) {v:Nat} (hv:v < n) (a:δ v < low v) (b:low' v=δ v):wMK n δ low < wMK n δ low':=by
 have:=wIv (fun v=>decide (low v=δ v)) (fun v=>decide (low' v=δ v) || !decide (v < n)) (fun u hu=>by
  have hu':=of_decide_eq_true hu
  by_cases hun:u < n
  ·have:=h1 u hun
   have:=h2 u hun
   simp only [Bool.or_eq_true,decide_eq_true_eq]
   exact .inl (by omega)
  ·simp [hun]) (nD n) ⟨v,nh.2 hv,decide_eq_false (by omega),by simp [b]⟩
 have e:(nD n).countP (fun v=>decide (low' v=δ v) || !decide (v < n))=(nD n).countP (fun v=>decide (low' v=δ v)):=by
  apply List.countP_congr
  intro u hu
  have:u < n:=nh.1 hu
  simp [this]
 unfold wMK
 omega
end Go.KL.Net
namespace Go.KL
variable {S S' B B' α:Type}
theorem wFb {body:Nat->S->Option (S ⊕ B)} (I:Nat->S->Prop) (Z:B->Prop):∀ (m k:Nat) (s:S),I k s ->
  (∀ i s,k <= i->i < k + m->I i s->(∃ s',body i s=some (.inl s')/\I (i + 1) s') \/ ∃ b,body i s=some (.inr b)/\Z b) ->
  (∃ s',forN body m k s=some (.inl s')/\I (k + m) s') \/ ∃ b,forN body m k s=some (.inr b)/\Z b
 | 0,k,s,h,_=>.inl ⟨s,rfl,h⟩
 | m + 1,k,s,h,hb=>by
  simp only [forN]
  rcases hb k s (nA _) (by omega) h with ⟨s',h1,h2⟩ | ⟨b,h1,h2⟩
  ·rw [h1]
   have:=wFb I Z m (k + 1) s' h2 fun i s h2 h3 h4=>hb i s (by omega) (by omega) h4
   rwa [show k + 1 + m=k + (m + 1) from by omega] at this
  ·rw [h1];exact .inr ⟨b,rfl,h2⟩
theorem wDW {body:Nat->S->Option S} (I:Nat->S->Prop):∀ (m k:Nat) (s:S),I k s ->
  (∀ i s,k <= i->i < k + m->I i s->∃ s',body i s=some s'/\I (i + 1) s')->∃ s',forN' body m k s=some s'/\I (k + m) s'
 | 0,k,s,h,_=>⟨s,rfl,h⟩
 | m + 1,k,s,h,hb=>by
  simp only [forN']
  obtain ⟨s',h1,h2⟩:=hb k s (nA _) (by omega) h
  rw [h1]
  have:=wDW I m (k + 1) s' h2 fun i s h2 h3 h4=>hb i s (by omega) (by omega) h4
  rwa [show k + 1 + m=k + (m + 1) from by omega] at this
theorem wCo {body:Nat->S->Option (S ⊕ B)} {n:Nat} {s:S} (hn:n <= 9223372036854775807):wEW 0 (n:Int) body s=forN body n 0 s:=by
 unfold wEW
 rw [if_pos (by omega),show ((n:Int) - 0).toNat=n from by omega]
theorem wCv {body:Nat->S->Option S} {n:Nat} {s:S} (hn:n <= 9223372036854775807):wBY 0 (n:Int) body s=forN' body n 0 s:=by
 unfold wBY
 rw [if_pos (by omega),show ((n:Int) - 0).toNat=n from by omega]
theorem wFc {R:Type} {l:List α} {g:α->Option (Unit ⊕ R)} {p:α->Bool} {z:R} {K:Unit->Option R} (hg:∀ a ∈ l,g a=if p a=true then some (.inl ()) else some (.inr z)) (hn:l.length <= 9223372036854775807) :
  jn (wEW 0 (↑l.length:Int) (fun k (_:Unit)=>(idx l (↑k:Int)).bind g) ()) K=if l.all p=true then K () else some z:=by
 rw [wCo hn]
 have key:∀ (m k:Nat),k + m=l.length->jn (forN (fun k (_:Unit)=>(idx l (↑k:Int)).bind g) m k ()) K=if (l.drop k).all p=true then K () else some z:=by
  intro m
  induction m with
  | zero=>intro k hk;rw [nb (by omega)];rfl
  | succ m ih =>
   intro k hk
   have hlt:k < l.length:=by omega
   have e:l.drop k=l[k] :: l.drop (k + 1):=nq hlt
   rw [e,List.all_cons,forN,wJp,nQ hlt]
   simp only [hD,hg _ (List.getElem_mem hlt)]
   by_cases h:p l[k]=true
   ·rw [h]
    simp only [if_true,Bool.true_and]
    exact ih (k + 1) (by omega)
   ·rw [if_neg h]
    have:p l[k]=false:=by simpa using h
    simp only [this,Bool.false_and,wIN,nO,if_false]
 exact key l.length 0 (by omega)
theorem wCx {bytes:Nat} {l m:List α} (h:(l.length + m.length) * bytes <= 140737488355328):app bytes l m=some (l ++ m):=if_pos h
end Go.KL
namespace Go.KL
variable {S B R α β:Type}
theorem wIw {body:Nat->S->Option (S ⊕ B)} (s:Nat->S):∀ (m k:Nat),(∀ i,k <= i->i < k + m->body i (s i)=some (.inl (s (i + 1))))->forN body m k (s k)=some (.inl (s (k + m)))
 | 0,_,_=>rfl
 | m + 1,k,h=>by
  rw [forN,h k (nA _) (by omega)]
  have:=wIw s m (k + 1) fun i h1 h2=>h i (by omega) (by omega)
  rw [show k + 1 + m=k + (m + 1) by omega] at this
  exact this
theorem wHu {body:Nat->S->Option S} (s:Nat->S):∀ (m k:Nat),(∀ i,k <= i->i < k + m->body i (s i)=some (s (i + 1)))->forN' body m k (s k)=some (s (k + m))
 | 0,_,_=>rfl
 | m + 1,k,h=>by
  rw [forN',h k (nA _) (by omega)]
  have:=wHu s m (k + 1) fun i h1 h2=>h i (by omega) (by omega)
  rw [show k + 1 + m=k + (m + 1) by omega] at this
  exact this
theorem wFd {body:Nat->S->Option S} {n:Nat} {s0:S} (s:Nat->S) (h0:s 0=s0) (hn:n <= 9223372036854775807) (h:∀ i,i < n->body i (s i)=some (s (i + 1))):wBY 0 (n:Int) body s0=some (s n):=by
 rw [wCv hn,<- h0]
 have:=wHu s n 0 fun i _ hi=>h i (by omega)
 rwa [nK] at this
theorem wIx {body:Nat->S->Option (S ⊕ B)} {n:Nat} {s0:S} (s:Nat->S) (h0:s 0=s0) (hn:n <= 9223372036854775807) (h:∀ i,i < n->body i (s i)=some (.inl (s (i + 1)))):wEW 0 (n:Int) body s0=some (.inl (s n)):=by
 rw [wCo hn,<- h0]
 have:=wIw s n 0 fun i _ hi=>h i (by omega)
 rwa [nK] at this
theorem wEr {body:Nat->Unit->Option (Unit ⊕ B)} {n:Nat} (hn:n <= 9223372036854775807) (h:∀ i,i < n->body i ()=some (.inl ())):wEW 0 (n:Int) body ()=some (.inl ()):=wIx (fun _=>()) rfl hn h
theorem wBk [Inhabited α] {l:List α} {k:Nat} (h:k < l.length):idx l (k:Int)=some (gd l k):=by
 rw [wJp]
 exact wBr h
theorem wBo [Inhabited α] {l:List α} {k:Nat} (h:k < l.length):gd l k ∈ l:=kD (wBr h)
theorem wEe [Inhabited α] {l:List α} {k:Nat} (h:k < l.length):l.take (k + 1)=l.take k ++ [gd l k]:=by
 rw [List.take_add_one,wBr h]
 rfl
theorem wKC [Inhabited α] {l:List α} {k:Nat} (h:k < l.length):l.drop k=gd l k :: l.drop (k + 1):=by
 have:=wBr h
 rw [nQ h] at this
 rw [nq h,nV this]
theorem wDk [Inhabited α] {l m:List α} {k:Nat} (h:k < l.length):gd (l ++ m) k=gd l k:=by
 have h1:=wBr (xs:=l ++ m) (k:=k) (by rw [nI];omega)
 rw [nZ h,wBr h] at h1
 exact (nV h1).symm
theorem wGK [Inhabited α] (l m:List α) (x:α):gd (l ++ x :: m) l.length=x:=by
 have h1:=wBr (xs:=l ++ x :: m) (k:=l.length) (by simp)
 rw [nY (nA _),Nat.sub_self] at h1
 exact (nV h1).symm
theorem wMk [Inhabited α] {l m:List α} (h:l.length=m.length) (hk:∀ k,k < l.length->gd l k=gd m k):l=m:=by
 apply kM
 intro k
 rcases kJ k l.length with h1 | h1
 ·rw [wBr h1,wBr (by omega),hk k h1]
 ·rw [nW h1,nW (by omega)]
end Go.KL
namespace Go.KL
variable {S B α:Type}
theorem wIy {body:S->Option (S ⊕ B)} (I:Nat->S->Prop) (Z:B->Prop) (m:Nat) (step:∀ i s,i <= m->I i s->(i < m/\∃ s',body s=some (.inl s')/\I (i + 1) s') \/ ∃ b,body s=some (.inr b)/\Z b) {s0:S} (h0:I 0 s0) (hm:m < 1000000):∃ b,iter body big s0=some b/\Z b:=by
 have key:∀ (d i:Nat) (s:S),i + d=m->I i s->∀ F,d < F->∃ b,iter body F s=some b/\Z b:=by
  intro d
  induction d with
  | zero =>
   intro i s hi hI F hF
   obtain ⟨F,rfl⟩:∃ G,F=G + 1:=⟨F - 1,by omega⟩
   rcases step i s (by omega) hI with ⟨h,_⟩ | ⟨b,h1,h2⟩
   ·omega
   ·exact ⟨b,by rw [iter,h1],h2⟩
  | succ d ih =>
   intro i s hi hI F hF
   obtain ⟨F,rfl⟩:∃ G,F=G + 1:=⟨F - 1,by omega⟩
   rcases step i s (by omega) hI with ⟨_,s',h1,h2⟩ | ⟨b,h1,h2⟩
   ·obtain ⟨b,h3,h4⟩:=ih (i + 1) s' (by omega) h2 F (by omega)
    exact ⟨b,by rw [iter,h1];exact h3,h4⟩
   ·exact ⟨b,by rw [iter,h1],h2⟩
 exact key m 0 s0 (by omega) h0 big (by unfold big;omega)
theorem wIV {body:S->Option (S ⊕ B)} (I:Nat->S->Prop) {b:B} (m:Nat) {s0:S} (h0:I 0 s0) (hm:m < 1000000) (step:∀ i s,i <= m->I i s->(i < m/\∃ s',body s=some (.inl s')/\I (i + 1) s') \/ body s=some (.inr b)):iter body big s0=some b:=by
 obtain ⟨c,h1,h2⟩:=wIy (body:=body) I (fun c=>c=b) m (fun i s hi hI=>by
  rcases step i s hi hI with h | h
  ·exact .inl h
  ·exact .inr ⟨b,h,rfl⟩) h0 hm
 rw [h1,h2]
theorem wEs [Inhabited α] {l:List α} {i k:Nat} {x:α} (hi:i < l.length) (hk:k < l.length):gd (l.set i x) k=if k=i then x else gd l k:=by
 have h1:=wBr (xs:=l.set i x) (k:=k) (by rw [nM];exact hk)
 rw [kO] at h1
 by_cases e:i=k
 ·subst e
  rw [if_pos rfl,if_pos hi] at h1
  rw [if_pos rfl]
  exact (nV h1).symm
 ·rw [if_neg e,wBr hk] at h1
  rw [if_neg (fun h=>e h.symm)]
  exact (nV h1).symm
theorem wHv [Inhabited α] {l:List α} {k:Nat} (h:k < l.length):gd l k=l[k]:=by
 have:=wBr h
 rw [nQ h] at this
 exact (nV this).symm
theorem wKm [Inhabited α] {l:List α} (hl:l.length <= 100000):iter (fun (l11,x12,x13) =>
  if x12 < x13 then
   (chk x13 l11.length).bind fun _ =>
   (chk x12 l11.length).bind fun _ =>
   (chk x13 (nB l11 x12.toNat (gd l11 x13.toNat)).length).bind fun _ =>
   some (.inl ((nB (nB l11 x12.toNat (gd l11 x13.toNat)) x13.toNat (gd l11 x12.toNat)),w64 (x12 + 1),w64 (x13 - 1)))
  else
   esc (some l11)) big (l,(0:Int),w64 ((↑l.length:Int) - 1))=some l.reverse:=by
 obtain ⟨b,h1,h2⟩:=wIy (S:=List α × Int × Int) (B:=List α) (body:=fun (l11,x12,x13) =>
  if x12 < x13 then
   (chk x13 l11.length).bind fun _ =>
   (chk x12 l11.length).bind fun _ =>
   (chk x13 (nB l11 x12.toNat (gd l11 x13.toNat)).length).bind fun _ =>
   some (.inl ((nB (nB l11 x12.toNat (gd l11 x13.toNat)) x13.toNat (gd l11 x12.toNat)),w64 (x12 + 1),w64 (x13 - 1)))
  else
   esc (some l11))
  (fun i s=>s.1.length=l.length/\s.2.1=i/\s.2.2=(l.length:Int) - 1 - i/\∀ k,k < l.length->gd s.1 k=if k < i \/ l.length - i <= k then gd l (l.length - 1 - k) else gd l k) (fun b=>b=l.reverse) (l.length / 2)
  (by
   rintro i ⟨c,a,b⟩ hi ⟨g1,g2,g3,g4⟩
   simp only at g1 g2 g3 g4
   subst g2 g3
   by_cases hlt:i < l.length / 2
   ·left
    refine ⟨hlt,?_⟩
    have hA:((i:Int)).toNat=i:=by omega
    have hB:((l.length:Int) - 1 - i).toNat=l.length - 1 - i:=by omega
    refine ⟨((c.set i (gd c (l.length - 1 - i))).set (l.length - 1 - i) (gd c i),(i:Int) + 1,(l.length:Int) - 1 - i - 1),?_,?_,by simp,by show (l.length:Int) - 1 - i - 1=_;omega,fun k hk=>?_⟩
    ·simp only
     rw [if_pos (by omega),wDX (by omega) (by omega),hD,wDX (by omega) (by omega),hD,nM,wDX (by omega) (by omega),hD,hA,hB,wAT (by omega) (by omega),wAT (by omega) (by omega)]
    ·simp only [nM];exact g1
    ·simp only
     rw [wEs (by rw [nM];omega) (by rw [nM];omega),wEs (by omega) (by omega)]
     by_cases e1:k=l.length - 1 - i
     ·rw [if_pos e1,if_pos (by omega),g4 i (by omega),if_neg (by omega)]
      congr 1
      omega
     ·rw [if_neg e1]
      by_cases e2:k=i
      ·rw [if_pos e2,if_pos (by omega),g4 _ (by omega),if_neg (by omega)]
       congr 1
       omega
      ·rw [if_neg e2,g4 k hk]
       by_cases e3:k < i \/ l.length - i <= k
       ·rw [if_pos e3,if_pos (by omega)]
       ·rw [if_neg e3,if_neg (by omega)]
   ·right
    refine ⟨c,by simp only;rw [if_neg (by omega)];rfl,?_⟩
    apply kM
    intro k
    rcases kJ k l.length with hk | hk
    ·rw [wBr (by omega),List.getElem?_reverse hk,wBr (by omega),g4 k hk]
     congr 1
     split
     ·rfl
     ·congr 1
      omega
    ·rw [nW (by omega),nW (by rw [List.length_reverse];omega)])
  (s0:=(l,0,w64 ((↑l.length:Int) - 1))) ⟨rfl,rfl,by show w64 _=_;rw [wAT (by omega) (by omega)];omega,fun k hk=>by rw [if_neg (by omega)]⟩ (by omega)
 rw [h1,h2]
end Go.KL
namespace Go.Proofs.Ytlnfbjphfoipaaa
open Go.KL Go.KL.Net
structure wLN (n:Nat) (e:wAV):Prop where
 f0:0 <= e.from_
 f1:e.from_ < n
 t0:0 <= e.to_
 t1:e.to_ < n
 c0:-400000 <= e.count
 c1:e.count <= 400000
def ed (p:Bool) (e:wAV):Ed:=if p then ⟨e.to_.toNat,e.from_.toNat,e.count⟩ else ⟨e.from_.toNat,e.to_.toNat,e.count⟩
abbrev SS:=List Int × List Int × Int
def spB (es:List wAV) (p2:Bool):Nat->SS->Option SS:=fun k1375 (l1372,l1373,x1374) =>
      ((idx es (↑k1375:Int)).bind fun x1412 =>
      if p2=true then
        (chk x1412.to_ l1372.length).bind fun _ =>
        if (gd l1372 x1412.to_.toNat) < 1125899906842624 then
          (chk x1412.from_ l1372.length).bind fun _ =>
          if (w64 ((gd l1372 x1412.to_.toNat) + x1412.count)) < (gd l1372 x1412.from_.toNat) then
            ((chk x1412.from_ l1373.length).bind fun _ =>
            some ()).bind fun _ =>
            some ((nB l1372 x1412.from_.toNat (w64 ((gd l1372 x1412.to_.toNat) + x1412.count))),(nB l1373 x1412.from_.toNat (↑k1375:Int)),x1412.from_)
          else
            some (l1372,l1373,x1374)
        else
          some (l1372,l1373,x1374)
      else
        (chk x1412.from_ l1372.length).bind fun _ =>
        if (gd l1372 x1412.from_.toNat) < 1125899906842624 then
          (chk x1412.to_ l1372.length).bind fun _ =>
          if (w64 ((gd l1372 x1412.from_.toNat) + x1412.count)) < (gd l1372 x1412.to_.toNat) then
            ((chk x1412.to_ l1373.length).bind fun _ =>
            some ()).bind fun _ =>
            some ((nB l1372 x1412.to_.toNat (w64 ((gd l1372 x1412.from_.toNat) + x1412.count))),(nB l1373 x1412.to_.toNat (↑k1375:Int)),x1412.to_)
          else
            some (l1372,l1373,x1374)
        else
          some (l1372,l1373,x1374)).bind fun (l1406,l1407,x1408) =>
      some (l1406,l1407,x1408)
theorem wLO {n:Nat} {es:List wAV} (hes:∀ e ∈ es,wLN n e) {p:Bool} {k:Nat} (hk:k < es.length) {far by_:List Int} {last:Int} (hf:far.length=n) (hb:by_.length=n) {M:Int} (hM:M <= 1000000000000000) (h0:0 <= M) (hr:∀ v,v < n->gd far v=1125899906842624 \/ (-M <= gd far v/\gd far v <= M)) :
  (ed p (gd es k)).a < n/\(ed p (gd es k)).b < n /\
  spB es p k (far,by_,last)=some (if gd far (ed p (gd es k)).a < 1125899906842624/\gd far (ed p (gd es k)).a + (ed p (gd es k)).c < gd far (ed p (gd es k)).b then
   (far.set (ed p (gd es k)).b (gd far (ed p (gd es k)).a + (ed p (gd es k)).c),by_.set (ed p (gd es k)).b (k:Int),((ed p (gd es k)).b:Int)) else (far,by_,last)):=by
 obtain ⟨f0,f1,t0,t1,c0,c1⟩:=hes _ (wBo hk)
 have hw:∀ a:Int,0 <= a->a < n->gd far a.toNat < 1125899906842624->w64 (gd far a.toNat + (gd es k).count)=gd far a.toNat + (gd es k).count:=fun a h1 h2 h3=>by
  rcases hr a.toNat (by omega) with c | c
  ·omega
  ·exact wAT (by omega) (by omega)
 unfold spB ed
 rw [wBk hk]
 cases p with
 | true =>
  refine ⟨by simp only [if_true];omega,by simp only [if_true];omega,?_⟩
  simp only [hD,if_true]
  rw [wDX t0 (by omega),hD]
  by_cases a:gd far (gd es k).to_.toNat < 1125899906842624
  ·rw [if_pos a,wDX f0 (by omega),hD,hw _ t0 t1 a]
   by_cases b:gd far (gd es k).to_.toNat + (gd es k).count < gd far (gd es k).from_.toNat
   ·rw [if_pos b,wDX f0 (by omega),if_pos ⟨a,b⟩]
    simp only [hD]
    rw [show (((gd es k).from_.toNat:Nat):Int)=(gd es k).from_ by omega]
   ·rw [if_neg b,if_neg (fun h=>b h.2)];rfl
  ·rw [if_neg a,if_neg (fun h=>a h.1)];rfl
 | false =>
  refine ⟨by simp only [nO,if_false];omega,by simp only [nO,if_false];omega,?_⟩
  simp only [hD,nO,if_false]
  rw [wDX f0 (by omega),hD]
  by_cases a:gd far (gd es k).from_.toNat < 1125899906842624
  ·rw [if_pos a,wDX t0 (by omega),hD,hw _ f0 f1 a]
   by_cases b:gd far (gd es k).from_.toNat + (gd es k).count < gd far (gd es k).to_.toNat
   ·rw [if_pos b,wDX t0 (by omega),if_pos ⟨a,b⟩]
    simp only [hD]
    rw [show (((gd es k).to_.toNat:Nat):Int)=(gd es k).to_ by omega]
   ·rw [if_neg b,if_neg (fun h=>b h.2)];rfl
  ·rw [if_neg a,if_neg (fun h=>a h.1)];rfl
structure Ps (n:Nat) (es:List wAV) (p:Bool) (far:List Int) (M:Int) (i:Nat) (s:SS):Prop where
 fl:s.1.length=n
 bl:s.2.1.length=n
 rg:∀ v,v < n->gd s.1 v=1125899906842624 \/ (-(M + 400000 * (i:Int)) <= gd s.1 v/\gd s.1 v <= M + 400000 * (i:Int))
 le:∀ v,v < n->gd s.1 v <= gd far v
 ch:(s.2.2=-1/\s.1=far/\∀ e ∈ es.take i,gd far (ed p e).a < 1125899906842624->gd far (ed p e).b <= gd far (ed p e).a + (ed p e).c) \/ (0 <= s.2.2/\s.2.2 < n/\∃ v,v < n/\gd s.1 v < gd far v)
 fe:∀ x,wHH (es.map (ed p)) x->(∀ v,v < n->x v <= gd far v)->∀ v,v < n->x v <= gd s.1 v
 st:∀ δ,wHH (es.map (ed p)) δ->(∀ v,v < n->δ v <= gd far v)->(∀ v,v < n->δ v < 1125899906842624)->∀ e ∈ es.take i,gd far (ed p e).a=δ (ed p e).a->δ (ed p e).b=δ (ed p e).a + (ed p e).c->gd s.1 (ed p e).b=δ (ed p e).b
theorem wKD {n:Nat} {es:List wAV} (hes:∀ e ∈ es,wLN n e) (hl:es.length <= 1000) (p:Bool) {far by_:List Int} (hf:far.length=n) (hb:by_.length=n) {M:Int} (hM:M <= 900000000000000) (h0:0 <= M) (hr:∀ v,v < n->gd far v=1125899906842624 \/ (-M <= gd far v/\gd far v <= M)) :
  ∃ s,wBY 0 (↑es.length:Int) (spB es p) (far,by_,-1)=some s/\Ps n es p far M es.length s:=by
 rw [wCv (by omega)]
 obtain ⟨s,e,P⟩:=wDW (body:=spB es p) (fun i s=>Ps n es p far M i s) es.length 0 (far,by_,-1)
  ⟨hf,hb,fun v hv=>by have:=hr v hv;simp only;omega,fun _ _=>kQ _,.inl ⟨rfl,rfl,fun e he=>by simp at he⟩,fun _ _ h=>h,fun _ _ _ _ e he=>by simp at he⟩ (by
  rintro i ⟨f,b,last⟩ _ hi P
  have hi':i < es.length:=by omega
  obtain ⟨fl,bl,rg,le,ch,fe,st⟩:=P
  simp only at fl bl rg le ch fe st
  obtain ⟨ha,hbb,e⟩:=wLO hes (p:=p) hi' (last:=last) fl bl (M:=M + 400000 * (i:Int)) (by omega) (by omega) rg
  have hm:=wBo hi'
  have hok:=hes _ hm
  have hc:-400000 <= (ed p (gd es i)).c/\(ed p (gd es i)).c <= 400000:=by
   have:=hok.c0;have:=hok.c1
   unfold ed
   split <;> exact ⟨by assumption,by assumption⟩
  have hfe:∀ x,wHH (es.map (ed p)) x->x (ed p (gd es i)).b <= x (ed p (gd es i)).a + (ed p (gd es i)).c:=fun x hx=>hx _ (nT.2 ⟨_,hm,rfl⟩)
  have hends:∀ e ∈ es.take i,(ed p e).a < n/\(ed p e).b < n:=fun e he=>by
   obtain ⟨a1,a2,a3,a4,_,_⟩:=hes e (List.mem_of_mem_take he)
   unfold ed
   split <;> (simp only;omega)
  generalize hE:ed p (gd es i)=E at ha hbb e hc hfe
  rw [e]
  by_cases c:gd f E.a < 1125899906842624/\gd f E.a + E.c < gd f E.b
  ·rw [if_pos c]
   obtain ⟨c1,c2⟩:=c
   have rga:-(M + 400000 * (i:Int)) <= gd f E.a/\gd f E.a <= M + 400000 * (i:Int):=by
    rcases rg E.a ha with q | q
    ·omega
    ·exact q
   have hg:∀ v,v < n->gd (f.set E.b (gd f E.a + E.c)) v=if v=E.b then gd f E.a + E.c else gd f v:=fun v hv=>wEs (by omega) (by omega)
   refine ⟨_,rfl,by simp [fl],by simp [bl],fun v hv=>?_,fun v hv=>?_,.inr ⟨by simp only;omega,by simp only;omega,E.b,hbb,?_⟩,fun x hx hxt v hv=>?_,fun δ hδ h1 h2 e' he' g1 g2=>?_⟩
   ·simp only
    rw [hg v hv]
    split
    ·right;omega
    ·rcases rg v hv with q | q
     ·exact .inl q
     ·right;omega
   ·simp only
    rw [hg v hv]
    split
    ·rename_i h;have:=le E.b hbb;rw [h];omega
    ·exact le v hv
   ·simp only
    rw [hg _ hbb,if_pos rfl]
    have:=le E.b hbb
    omega
   ·simp only
    rw [hg v hv]
    have:=fe x hx hxt
    split
    ·rename_i h
     have a1:=this E.a ha
     have a2:=hfe x hx
     rw [h];omega
    ·exact this v hv
   ·have lo:=fe δ hδ h1
    simp only
    rw [wEe hi'] at he'
    rcases nP.1 he' with he' | he'
    ·have old:=st δ hδ h1 h2 e' he' g1 g2
     rw [hg _ (hends e' he').2]
     split
     ·rename_i h
      have a1:=lo E.a ha
      have a2:=hfe δ hδ
      rw [h] at old ⊢
      omega
     ·exact old
    ·have:=nH.1 he'
     subst this
     rw [hE] at g1 g2 ⊢
     rw [hg _ hbb,if_pos rfl]
     have a1:=lo E.a ha
     have a2:=le E.a ha
     omega
  ·rw [if_neg c]
   refine ⟨_,rfl,fl,bl,fun v hv=>?_,le,?_,fe,fun δ hδ h1 h2 e' he' g1 g2=>?_⟩
   ·rcases rg v hv with q | q
    ·exact .inl q
    ·right;simp only;omega
   ·simp only
    rcases ch with ⟨q1,q2,q3⟩ | q
    ·refine .inl ⟨q1,q2,fun e' he' g=>?_⟩
     rw [wEe hi'] at he'
     rcases nP.1 he' with he' | he'
     ·exact q3 e' he' g
     ·have:=nH.1 he'
      subst this
      rw [hE] at g ⊢
      rw [q2] at c
      rcases kI (gd far E.a + E.c) (gd far E.b) with d | d
      ·exact absurd ⟨g,d⟩ c
      ·exact d
    ·exact .inr q
   ·have lo:=fe δ hδ h1
    rw [wEe hi'] at he'
    rcases nP.1 he' with he' | he'
    ·exact st δ hδ h1 h2 e' he' g1 g2
    ·have:=nH.1 he'
     subst this
     rw [hE] at g1 g2 ⊢
     simp only
     have a1:=lo E.a ha
     have a2:=le E.a ha
     have a3:=lo E.b hbb
     have a4:=h2 E.a ha
     have fa:gd f E.a=δ E.a:=by omega
     rw [fa] at c
     rcases kI (δ E.a + E.c) (gd f E.b) with d | d
     ·exact absurd ⟨a4,d⟩ c
     ·omega)
 rw [nK] at P
 exact ⟨s,e,P⟩
end Go.Proofs.Ytlnfbjphfoipaaa
namespace Go.Proofs.Ytlnfbjphfoipaaa
open Go.KL Go.KL.Net
theorem wEx {α:Type} [Inhabited α] (l:List α) (k:Nat):gd l k=(l[k]?).getD default:=by unfold gd;rw [nk]
theorem wKE {α:Type} {m ys:List α} {a:Nat} (h:a <= m.length):(cpy m a ys).length=m.length:=by
 unfold cpy
 simp only [nI,nG,List.length_drop]
 omega
theorem wLP {α:Type} [Inhabited α] {m ys:List α} {a j:Nat} (h:a <= m.length) (hj:j < m.length):gd (cpy m a ys) j=if j < a then gd m j else if j < a + ys.length then gd ys (j - a) else gd m j:=by
 rw [wEx,wEx,wEx]
 unfold cpy
 rw [np]
 by_cases c:j < a
 ·rw [if_pos c,nZ (by rw [nG];omega),ni,if_pos c]
 ·rw [if_neg c,nY (by rw [nG];omega),nG,Nat.min_eq_left h]
  by_cases d:j < a + ys.length
  ·rw [if_pos d,nZ (by rw [nG];omega),ni,if_pos (by omega)]
  ·rw [if_neg d,nY (by rw [nG];omega),nG,List.getElem?_drop,Nat.min_eq_right (by omega)]
   congr 2
   omega
theorem wFe (x:Int) {n:Nat} (h1:1 <= n) (h2:n <= 1000):wBC [x] (n:Int)=some (hU n x):=by
 unfold wBC wDR
 have e1:wKb (([x]:List Int).length:Int)=1:=rfl
 have e2:wKb (n:Int)=n:=by unfold wKb;omega
 rw [if_neg (by omega),e1,e2,if_pos (by omega),hD]
 simp only
 rw [show (1:Int) * (n:Int) / 18446744073709551616=0 by omega,show (1:Int) * (n:Int) % 18446744073709551616=n by omega,if_neg (by omega),hD,decide_eq_false (by omega),if_neg (by simp),wAT (by omega) (by omega),mkz,if_pos (by omega),hD,wJq,if_pos (by simp),hD]
 have hlen:(hU (n:Int).toNat (0:Int)).length=n:=by simp
 generalize hU (n:Int).toNat (0:Int)=z at hlen
 have e3:((min ([x]:List Int).length z.length:Nat):Int)=1:=by simp only [nX];omega
 refine wIV (I:=fun i (s:List Int × Int)=>s.1.length=n/\(i:Int) + 1 <= s.2/\s.2 <= n/\∀ j,j < s.2.toNat->gd s.1 j=x) n ⟨by rw [wKE (by simp)];exact hlen,by simp only;omega,by simp only;omega,fun j hj=>?_⟩ (by omega) ?_
 ·simp only at hj ⊢
  rw [wLP (by simp) (by omega),if_neg (by simp),if_pos (by simp only [nX];omega)]
  have:j=0:=by omega
  subst this
  rfl
 ·rintro i ⟨l,k⟩ hi ⟨q1,q2,q3,q4⟩
  simp only at q1 q2 q3 q4 ⊢
  by_cases c:k < (l.length:Int)
  ·left
   refine ⟨by omega,?_⟩
   have hd:(List.take ((l.length:Int).toNat - k.toNat) (List.drop k.toNat l)).length=l.length - k.toNat:=by
    rw [nG,List.length_drop];omega
   have ht:(List.take (k.toNat - (0:Int).toNat) (List.drop (0:Int).toNat l))=l.take k.toNat:=by simp
   rw [if_pos c,cut,if_pos (by omega),hD,cut,if_pos (by omega),hD,wJq,if_pos (by omega),hD,ht,hd,nG]
   rw [wAT (by omega) (by omega)]
   refine ⟨_,rfl,by simp only;rw [wKE (by omega)];exact q1,by simp only;omega,by simp only;omega,fun j hj=>?_⟩
   simp only at hj ⊢
   rw [wLP (by omega) (by omega),nG]
   by_cases d:j < k.toNat
   ·rw [if_pos d];exact q4 j d
   ·rw [if_neg d,if_pos (by omega)]
    have:=q4 (j - k.toNat) (by omega)
    rw [wEx] at this ⊢
    rw [ni,if_pos (by omega)]
    exact this
  ·right
   rw [if_neg c,wKc]
   have:l=hU n x:=wMk (by simp [q1]) fun j hj=>by
    rw [q4 j (by omega),wHv (by simpa [q1] using hj)];simp
   rw [this]
def wHU (i:Int) (v:Nat):Int:=if i < 0 \/ (v:Int)=i then 0 else 1125899906842624
theorem wMl (i:Int) (v:Nat):0 <= wHU i v/\wHU i v <= 1125899906842624:=by unfold wHU;split <;> omega
theorem wKF {n:Nat} (i:Int) {l:List Int} (hl:l.length=n) (hn:n <= 1000) (h0:∀ v,v < n->gd l v=1125899906842624):∃ y,(wBY 0 (↑l.length:Int) (fun k1254 l1253 =>
  if i < 0 then
   (chk (↑k1254:Int) l1253.length).bind fun _ =>
   some (nB l1253 k1254 0)
  else
   if (↑k1254:Int)=i then
    (chk (↑k1254:Int) l1253.length).bind fun _ =>
    some (nB l1253 k1254 0)
   else
    some l1253) l)=some y/\y.length=n/\∀ v,v < n->gd y v=wHU i v:=by
 rw [wCv (by omega)]
 obtain ⟨y,e,y1,y2⟩:=wDW (body:=fun (k1254:Nat) (l1253:List Int) =>
  if i < 0 then
   (chk (↑k1254:Int) l1253.length).bind fun _ =>
   some (nB l1253 k1254 0)
  else
   if (↑k1254:Int)=i then
    (chk (↑k1254:Int) l1253.length).bind fun _ =>
    some (nB l1253 k1254 0)
   else
    some l1253) (fun k s=>s.length=n/\∀ v,v < n->gd s v=if v < k then wHU i v else 1125899906842624) l.length 0 l ⟨hl,fun v hv=>by rw [if_neg (by omega)];exact h0 v hv⟩ (by
  rintro k s _ hk ⟨s1,s2⟩
  have hk':k < n:=by omega
  have hset:∀ v,v < n->gd (s.set k 0) v=if v=k then 0 else gd s v:=fun v hv=>wEs (by omega) (by omega)
  by_cases c:i < 0 \/ (k:Int)=i
  ·have hb:(if i < 0 then (chk (↑k:Int) s.length).bind fun _=>some (nB s k 0) else if (↑k:Int)=i then (chk (↑k:Int) s.length).bind fun _=>some (nB s k 0) else some s)=some (s.set k 0):=by
    rw [wDX (by omega) (by omega)]
    rcases c with c | c
    ·rw [if_pos c];rfl
    ·rw [if_pos c]
     split <;> rfl
   refine ⟨_,hb,by simp [s1],fun v hv=>?_⟩
   rw [hset v hv]
   by_cases e:v=k
   ·subst e
    rw [if_pos rfl,if_pos (by omega),wHU,if_pos c]
   ·rw [if_neg e,s2 v hv]
    by_cases d:v < k
    ·rw [if_pos d,if_pos (by omega)]
    ·rw [if_neg d,if_neg (by omega)]
  ·refine ⟨s,by rw [if_neg (fun h=>c (.inl h)),if_neg (fun h=>c (.inr h))],s1,fun v hv=>?_⟩
   rw [s2 v hv]
   by_cases d:v < k
   ·rw [if_pos d,if_pos (by omega)]
   ·by_cases e:v=k
    ·subst e
     rw [if_neg (by omega),if_pos (by omega),wHU,if_neg c]
    ·rw [if_neg d,if_neg (by omega)])
 rw [nK] at y2
 exact ⟨y,e,y1,fun v hv=>by rw [y2 v hv,if_pos (by omega)]⟩
structure SpT (n:Nat) (es:List Ed) (i:Int) (far:List Int):Prop where
 fl:far.length=n
 rl:∀ e ∈ es,gd far e.a < 1125899906842624->gd far e.b <= gd far e.a + e.c
 rg:∀ v,v < n->gd far v=1125899906842624 \/ (-400000000000 <= gd far v/\gd far v <= 400000000000)
 le:∀ v,v < n->gd far v <= wHU i v
 fe:∀ x,wHH es x->(∀ v,v < n->x v <= wHU i v)->∀ v,v < n->x v <= gd far v
structure SpI (n:Nat) (es:List Ed) (i:Int) (t:Nat) (s:SS):Prop where
 fl:s.1.length=n
 bl:s.2.1.length=n
 rg:∀ v,v < n->gd s.1 v=1125899906842624 \/ (-(400000000 * (t:Int)) <= gd s.1 v/\gd s.1 v <= 400000000 * (t:Int))
 le:∀ v,v < n->gd s.1 v <= wHU i v
 fe:∀ x,wHH es x->(∀ v,v < n->x v <= wHU i v)->∀ v,v < n->x v <= gd s.1 v
 st:∀ δ,Most n es (wHU i) δ->(∀ v,v < n->δ v < 1125899906842624)->t <= wMK n δ fun v=>gd s.1 v
 la:t=0 \/ (0 <= s.2.2/\s.2.2 < n)
theorem wKG {d:wAW} {n:Nat} (hn:d.number.length=n) (h1:1 <= n) (h2:n <= 500) (hes:∀ e ∈ d.edges,wLN n e) (hl:d.edges.length <= 1000) (i:Int) (p:Bool) :
  ∃ f last ok,wAd d i p=some (f,last,ok)/\f.by_.length=n/\f.far.length=n/\(ok=true->SpT n (d.edges.map (ed p)) i f.far)/\(ok=false->0 <= last/\last < n/\∀ δ,Most n (d.edges.map (ed p)) (wHU i) δ->¬ ∀ v,v < n->δ v < 1125899906842624):=by
 unfold wAd
 rw [hn,wFe _ h1 (by omega),hD,wFe _ h1 (by omega),hD,hD]
 simp only
 obtain ⟨y,e1,y1,y2⟩:=wKF (n:=n) i (l:=hU n 1125899906842624) (by simp) (by omega) (fun v hv=>by rw [wHv (by simpa using hv)];simp)
 rw [e1,hD,wAT (by omega) (by omega)]
 have hn1:((n:Int) + 1)=((n + 1:Nat):Int):=by omega
 rw [hn1,wCo (by omega)]
 have hmap:∀ e ∈ d.edges.map (ed p),e.a < n/\e.b < n:=fun e he=>by
  obtain ⟨q,hq,rfl⟩:=nT.1 he
  obtain ⟨a1,a2,a3,a4,_,_⟩:=hes q hq
  unfold ed
  split <;> (simp only;omega)
 rcases wFb (B:=wAb × Int × Bool) (body:=fun (k1336:Nat) ((l1333,l1334,x1335):SS) =>
  (wBY 0 (↑d.edges.length:Int) (spB d.edges p) (l1333,l1334,-1)).bind fun (y1380,y1381,y1382) =>
  if y1382 < 0 then
   esc (some ((⟨y1380,y1381⟩:wAb),0,true))
  else
   some (.inl (y1380,y1381,y1382))) (fun t s=>SpI n (d.edges.map (ed p)) i t s) (fun b=>b.2.2=true/\b.1.by_.length=n/\SpT n (d.edges.map (ed p)) i b.1.far) (n + 1) 0 (y,hU n (-1),-1)
  ⟨y1,by simp,fun v hv=>by simp only;rw [y2 v hv];unfold wHU;split <;> omega,fun v hv=>by simp only;rw [y2 v hv];exact kQ _,fun x _ hx v hv=>by simp only;rw [y2 v hv];exact hx v hv,fun _ _ _=>kR _,.inl rfl⟩ (by
   rintro t ⟨far,by_,last⟩ _ ht ⟨fl,bl,rg,le,fe,st,la⟩
   simp only at fl bl rg le fe st
   obtain ⟨⟨far',by',last'⟩,e,P⟩:=wKD hes hl p fl bl (M:=400000000 * (t:Int)) (by omega) (by omega) rg
   obtain ⟨gl,ql,qg,qle,ch,qfe,qst⟩:=P
   simp only at gl ql qg qle ch qfe qst
   simp only
   rw [e,hD]
   simp only
   rcases ch with ⟨c1,c2,c3⟩ | ⟨c1,c2,v,hv,c3⟩
   ·right
    subst c1
    rw [if_pos (by omega)]
    refine ⟨_,rfl,rfl,ql,gl,fun e' he' hlt=>?_,fun v hv=>?_,fun v hv=>Int.le_trans (qle v hv) (le v hv),fun x hx hxt v hv=>qfe x hx (fe x hx hxt) v hv⟩
    ·obtain ⟨q,hq,rfl⟩:=nT.1 he'
     simp only at hlt ⊢
     rw [c2] at hlt ⊢
     rw [nR] at c3
     exact c3 q hq hlt
    ·simp only
     rw [c2]
     rcases rg v hv with q | q
     ·exact .inl q
     ·right;omega
   ·left
    rw [if_neg (by omega)]
    refine ⟨_,rfl,gl,ql,fun v hv=>?_,fun v hv=>Int.le_trans (qle v hv) (le v hv),fun x hx hxt v hv=>qfe x hx (fe x hx hxt) v hv,fun δ M hδ=>?_,.inr ⟨c1,c2⟩⟩
    ·simp only
     rcases qg v hv with q | q
     ·exact .inl q
     ·right;omega
    ·have old:=st δ M hδ
     have lo:=fe δ M.ok M.le
     have lo':=qfe δ M.ok lo
     simp only
     obtain ⟨e',he',g1,g2,g3⟩:=M.tight hmap (fun u=>gd far u) (fun u hu=>le u hu) ⟨v,hv,by have:=lo' v hv;omega⟩ lo
     obtain ⟨q,hq,rfl⟩:=nT.1 he'
     rw [nR] at qst
     have h5:=qst δ M.ok lo hδ q hq g1 g3
     have:=wLi (n:=n) (δ:=δ) (low:=fun u=>gd far u) (low':=fun u=>gd far' u) lo' (fun u hu=>qle u hu) (hmap _ he').2 g2 h5
     omega) with ⟨⟨far,by_,last⟩,e,I⟩ | ⟨⟨f,last,ok⟩,e,h3,h4,h5⟩
 ·refine ⟨⟨far,by_⟩,last,false,?_,I.bl,I.fl,(fun h=>by cases h),fun _=>?_⟩
  ·show jn (forN _ (n + 1) 0 (y,hU n (-1),-1)) _=_
   erw [e]
   rfl
  ·have hla:=I.la
   simp only at hla
   refine ⟨by omega,by omega,fun δ M hδ=>?_⟩
   have h6:0 + (n + 1) <= wMK n δ fun v=>gd far v:=I.st δ M hδ
   have:=wLh n δ fun v=>gd far v
   omega
 ·simp only at h3 h4 h5
  subst h3
  refine ⟨f,last,true,?_,h4,h5.fl,fun _=>h5,fun h=>by cases h⟩
  show jn (forN _ (n + 1) 0 (y,hU n (-1),-1)) _=_
  erw [e]
  rfl
theorem SpT.fin {n:Nat} {R:Int} {es:List Ed} (C:Con n R es) (hc:∀ e ∈ es,e.c <= 400000) {i:Int} {far:List Int} (S:SpT n es i far) {k:Nat} (hk:k < n) (h0:wHU i k=0):∀ v,v < n->gd far v < 1125899906842624 :=
 C.all (fun v=>v < n->gd far v < 1125899906842624) k hk (fun _=>by have:=S.le k hk;omega) (fun e he h _=>by
  obtain ⟨h1,h2⟩:=C.ends e he
  have a:=h h1
  have b:=S.rl e he a
  have c:=hc e he
  rcases S.rg e.a h1 with q | q <;> omega) |> fun h v hv=>h v hv hv
theorem SpT.feas {n:Nat} {R:Int} {es:List Ed} (C:Con n R es) (hc:∀ e ∈ es,e.c <= 400000) {i:Int} {far:List Int} (S:SpT n es i far) {k:Nat} (hk:k < n) (h0:wHU i k=0):wHH es fun v=>gd far v :=
 fun e he=>S.rl e he (S.fin C hc hk h0 e.a (C.ends e he).1)
end Go.Proofs.Ytlnfbjphfoipaaa
namespace Go.KL
def wKZ (q:Nat->Bool):Nat->Nat->Bool
 | 0,_=>true
 | m + 1,k=>q k && wKZ q m (k + 1)
def fnd {B:Type} (f:Nat->Option B):Nat->Nat->Option B
 | 0,_=>none
 | m + 1,k=>match f k with
  | some c=>some c
  | none=>fnd f m (k + 1)
theorem wCE (q:Nat->Bool):∀ m k,wKZ q m k=true ↔ ∀ i,k <= i->i < k + m->q i=true
 | 0,k=>⟨fun _ i h1 h2=>by omega,fun _=>rfl⟩
 | m + 1,k=>by
  rw [wKZ,nJ,wCE q m (k + 1)]
  constructor
  ·rintro ⟨h1,h2⟩ i h3 h4
   by_cases e:i=k
   ·exact e ▸ h1
   ·exact h2 i (by omega) (by omega)
  ·exact fun h=>⟨h k (by omega) (by omega),fun i h1 h2=>h i (by omega) (by omega)⟩
theorem wKH {A B:Type} (g:A->B) (f:Nat->Option A):∀ m k,fnd (fun i=>(f i).map g) m k=(fnd f m k).map g
 | 0,_=>rfl
 | m + 1,k=>by
  rw [fnd,fnd,wKH g f m (k + 1)]
  cases f k <;> rfl
def out {S B:Type} (s:S):Option B->S ⊕ B
 | none=>.inl s
 | some c=>.inr c
theorem wIz {B:Type} {body:Nat->Unit->Option (Unit ⊕ B)} {f:Nat->Option B}:∀ (m k:Nat),(∀ i,k <= i->i < k + m->body i ()=some (out () (f i)))->forN body m k ()=some (out () (fnd f m k))
 | 0,_,_=>rfl
 | m + 1,k,h=>by
  rw [forN,h k (by omega) (by omega),fnd]
  cases f k with
  | none=>exact wIz m (k + 1) fun i h1 h2=>h i (by omega) (by omega)
  | some c=>rfl
theorem wJA {B:Type} {body:Nat->Unit->Option (Unit ⊕ B)} {n:Nat} (f:Nat->Option B) (hn:n <= 1000) (h:∀ i,i < n->body i ()=some (out () (f i))):wEW 0 (n:Int) body ()=some (out () (fnd f n 0)):=by
 rw [wCo (by omega)]
 exact wIz n 0 fun i _ hi=>h i (by omega)
theorem wFf {B:Type} {body:Int->Option (Int ⊕ B)} {f:Nat->Option B} {z:B} {n:Nat} (h:∀ i,i < n->body (i:Int)=some (out ((i:Int) + 1) (f i))) (hz:body (n:Int)=some (.inr z)):∀ (m k F:Nat),k + m=n->m < F->iter body F (k:Int)=some ((fnd f m k).getD z)
 | 0,k,F,hk,hF=>by
  obtain ⟨F,rfl⟩:∃ G,F=G + 1:=⟨F - 1,by omega⟩
  obtain rfl:k=n:=by omega
  rw [iter,hz]
  rfl
 | m + 1,k,F,hk,hF=>by
  obtain ⟨F,rfl⟩:∃ G,F=G + 1:=⟨F - 1,by omega⟩
  rw [iter,h k (by omega),fnd]
  cases f k with
  | none=>exact wFf h hz m (k + 1) F (by omega) (by omega)
  | some c=>rfl
end Go.KL
namespace Go.Proofs.Ytlnfbjphfoipaaa
open Go.KL Go.KL.Net
structure RC (r:wAC):Prop where
 n:1 <= r.Starts.length/\r.Starts.length <= 8
 m:r.Splits.length <= 7
 c:r.Clocks.length <= 4
 q:r.Readings.length <= 40
 st:∀ s ∈ r.Starts,0 <= s/\s <= 360000
 sp:∀ s ∈ r.Splits,s.Lo <= s.Hi/\0 <= s.Lo/\s.Hi <= 360000
 ck:∀ s ∈ r.Clocks,(s.Offset.Lo <= s.Offset.Hi/\-36000 <= s.Offset.Lo/\s.Offset.Hi <= 36000)/\0 <= s.Error/\s.Error <= 600
 rt:∀ x ∈ r.Readings,0 <= x.Time/\x.Time <= 360000
 ru:∀ x ∈ r.Readings,0 <= x.Skier/\x.Skier < r.Starts.length/\0 <= x.Mat/\x.Mat <= r.Splits.length/\0 <= x.Clock/\x.Clock < r.Clocks.length
def zp:wAJ:=⟨-1,0⟩
def wGL (r:wAC) (p:wAJ):Prop:=p=zp \/ (0 <= p.skier/\p.skier < r.Starts.length/\0 <= p.mat/\p.mat <= r.Splits.length) \/ (p.skier=-1/\1 <= p.mat/\p.mat <= r.Clocks.length)
def wCZ (r:wAC) (x:wAF):Prop :=
 (x.Kind=0/\0 <= x.Skier/\x.Skier < r.Starts.length/\x.Index=0) \/ (x.Kind=1/\0 <= x.Skier/\x.Skier < r.Starts.length/\0 <= x.Index/\x.Index < r.Splits.length) \/
 (x.Kind=2/\x.Skier=0/\0 <= x.Index/\x.Index < r.Clocks.length) \/ (x.Kind=3/\x.Skier=0/\0 <= x.Index/\x.Index < r.Readings.length)
abbrev Pt:=wAJ
def wDw (r:wAC) (x:wAF):Pt × Pt × Int × Int :=
 if x.Kind=0 then (zp,⟨x.Skier,0⟩,gd r.Starts x.Skier.toNat,-gd r.Starts x.Skier.toNat)
 else if x.Kind=1 then (⟨x.Skier,x.Index⟩,⟨x.Skier,x.Index + 1⟩,(gd r.Splits x.Index.toNat).Hi,-(gd r.Splits x.Index.toNat).Lo)
 else if x.Kind=2 then (zp,⟨-1,1 + x.Index⟩,-(gd r.Clocks x.Index.toNat).Offset.Lo,(gd r.Clocks x.Index.toNat).Offset.Hi)
 else (⟨-1,1 + (gd r.Readings x.Index.toNat).Clock⟩,⟨(gd r.Readings x.Index.toNat).Skier,(gd r.Readings x.Index.toNat).Mat⟩,(gd r.Readings x.Index.toNat).Time + (gd r.Clocks (gd r.Readings x.Index.toNat).Clock.toNat).Error,(gd r.Clocks (gd r.Readings x.Index.toNat).Clock.toNat).Error - (gd r.Readings x.Index.toNat).Time)
def wCS (r:wAC) (x:wAF):Pt × Pt × Int:=if x.Up=true then ((wDw r x).1,(wDw r x).2.1,(wDw r x).2.2.1) else ((wDw r x).2.1,(wDw r x).1,(wDw r x).2.2.2)
theorem wED {α:Type} [Inhabited α] {l:List α} {i:Int} (h0:0 <= i) (h1:i < l.length):idx l i=some (gd l i.toNat):=by
 obtain ⟨k,rfl⟩:=nv h0
 rw [wBk (by omega)]
 rfl
theorem wCp {α:Type} [Inhabited α] {l:List α} {i:Int} (h0:0 <= i) (h1:i < l.length):gd l i.toNat ∈ l:=wBo (by omega)
theorem wFg {r:wAC} (C:RC r) {x:wAF} (h:wCZ r x):wAt r x=some (wCS r x):=by
 unfold wAt wAg wDe wDf wDg wDh wDi wDj wDP wDQ wCU wBu
 have hm:=C.m;have hc:=C.c;have hq:=C.q;have hn:=C.n
 rcases h with ⟨k,a,b,c⟩ | ⟨k,a,b,c,d⟩ | ⟨k,a,c,d⟩ | ⟨k,a,c,d⟩
 ·have g:=C.st _ (wCp a b)
  have e4:wDw r x=(zp,⟨x.Skier,0⟩,gd r.Starts x.Skier.toNat,-gd r.Starts x.Skier.toNat):=if_pos k
  have w:w64 (-gd r.Starts x.Skier.toNat)=-gd r.Starts x.Skier.toNat:=wAT (by omega) (by omega)
  rw [if_pos k,wED a b]
  simp only [hD]
  rw [w]
  unfold wCS
  rw [e4]
  split <;> rfl
 ·have g:=C.sp _ (wCp c d)
  have e4:wDw r x=(⟨x.Skier,x.Index⟩,⟨x.Skier,x.Index + 1⟩,(gd r.Splits x.Index.toNat).Hi,-(gd r.Splits x.Index.toNat).Lo):=(if_neg (by omega)).trans (if_pos k)
  have w:w64 (-(gd r.Splits x.Index.toNat).Lo)=-(gd r.Splits x.Index.toNat).Lo:=wAT (by omega) (by omega)
  have w2:w64 (x.Index + 1)=x.Index + 1:=wAT (by omega) (by omega)
  rw [if_neg (by omega),if_pos k,wED c d]
  simp only [hD]
  rw [w,w2]
  unfold wCS
  rw [e4]
  split <;> rfl
 ·have g:=C.ck _ (wCp c d)
  have e4:wDw r x=(zp,⟨-1,1 + x.Index⟩,-(gd r.Clocks x.Index.toNat).Offset.Lo,(gd r.Clocks x.Index.toNat).Offset.Hi):=(if_neg (by omega)).trans ((if_neg (by omega)).trans (if_pos k))
  have w:w64 (-(gd r.Clocks x.Index.toNat).Offset.Lo)=-(gd r.Clocks x.Index.toNat).Offset.Lo:=wAT (by omega) (by omega)
  have w2:w64 (1 + x.Index)=1 + x.Index:=wAT (by omega) (by omega)
  rw [if_neg (by omega),if_neg (by omega),if_pos k,wED c d]
  simp only [hD]
  rw [w,w2]
  unfold wCS
  rw [e4]
  split <;> rfl
 ·have g:=C.rt _ (wCp c d)
  have u:=C.ru _ (wCp c d)
  have gc:=C.ck _ (wCp u.2.2.2.2.1 u.2.2.2.2.2)
  have e4:wDw r x=(⟨-1,1 + (gd r.Readings x.Index.toNat).Clock⟩,⟨(gd r.Readings x.Index.toNat).Skier,(gd r.Readings x.Index.toNat).Mat⟩,(gd r.Readings x.Index.toNat).Time + (gd r.Clocks (gd r.Readings x.Index.toNat).Clock.toNat).Error,(gd r.Clocks (gd r.Readings x.Index.toNat).Clock.toNat).Error - (gd r.Readings x.Index.toNat).Time):=(if_neg (by omega)).trans ((if_neg (by omega)).trans (if_neg (by omega)))
  rw [if_neg (by omega),if_neg (by omega),if_neg (by omega),if_pos k,wED c d]
  simp only [hD]
  rw [wED u.2.2.2.2.1 u.2.2.2.2.2]
  simp only [hD]
  generalize gd r.Readings x.Index.toNat=X at *
  generalize gd r.Clocks X.Clock.toNat=Y at *
  have w:w64 (X.Time + Y.Error)=X.Time + Y.Error:=wAT (by omega) (by omega)
  have w2:w64 (1 + X.Clock)=1 + X.Clock:=wAT (by omega) (by omega)
  have w3:w64 (Y.Error - X.Time)=Y.Error - X.Time:=wAT (by omega) (by omega)
  rw [w,w2,w3]
  unfold wCS
  rw [e4]
  split <;> rfl
theorem wEE {r:wAC} (C:RC r) {x:wAF} (h:wCZ r x):wGL r (wCS r x).1/\wGL r (wCS r x).2.1/\-400000 <= (wCS r x).2.2/\(wCS r x).2.2 <= 400000:=by
 have key:wGL r (wDw r x).1/\wGL r (wDw r x).2.1/\(-400000 <= (wDw r x).2.2.1/\(wDw r x).2.2.1 <= 400000)/\(-400000 <= (wDw r x).2.2.2/\(wDw r x).2.2.2 <= 400000):=by
  have hn:=C.n
  unfold wDw
  rcases h with ⟨k,a,b,c⟩ | ⟨k,a,b,c,d⟩ | ⟨k,a,c,d⟩ | ⟨k,a,c,d⟩
  ·have g:=C.st _ (wCp a b)
   rw [if_pos k]
   exact ⟨.inl rfl,.inr (.inl ⟨a,b,by simp only;omega,by simp only;omega⟩),by simp only;omega,by simp only;omega⟩
  ·have g:=C.sp _ (wCp c d)
   rw [if_neg (by omega),if_pos k]
   exact ⟨.inr (.inl ⟨a,b,by simp only;omega,by simp only;omega⟩),.inr (.inl ⟨a,b,by simp only;omega,by simp only;omega⟩),by simp only;omega,by simp only;omega⟩
  ·have g:=C.ck _ (wCp c d)
   rw [if_neg (by omega),if_neg (by omega),if_pos k]
   exact ⟨.inl rfl,.inr (.inr ⟨rfl,by simp only;omega,by simp only;omega⟩),by simp only;omega,by simp only;omega⟩
  ·have g:=C.rt _ (wCp c d)
   have u:=C.ru _ (wCp c d)
   have gc:=C.ck _ (wCp u.2.2.2.2.1 u.2.2.2.2.2)
   rw [if_neg (by omega),if_neg (by omega),if_neg (by omega)]
   exact ⟨.inr (.inr ⟨rfl,by simp only;omega,by simp only;omega⟩),.inr (.inl ⟨u.1,u.2.1,u.2.2.1,u.2.2.2.1⟩),by simp only;omega,by simp only;omega⟩
 obtain ⟨h1,h2,h3,h4⟩:=key
 unfold wCS
 split
 ·exact ⟨h1,h2,h3⟩
 ·exact ⟨h2,h1,h4⟩
def two (kind skier i:Nat):List wAF:=[⟨kind,skier,i,true⟩,⟨kind,skier,i,false⟩]
def wHw (kind skier m:Nat):List wAF:=(nD m).flatMap (two kind skier)
def skL (kind ns m:Nat):List wAF:=(nD ns).flatMap fun s=>wHw kind s m
def wHx (r:wAC):List wAF:=skL 0 r.Starts.length 1 ++ (skL 1 r.Starts.length r.Splits.length ++ (skL 2 1 r.Clocks.length ++ skL 3 1 r.Readings.length))
theorem wLj {kind ns m:Nat} {x:wAF}:x ∈ skL kind ns m ↔ x.Kind=kind/\0 <= x.Skier/\x.Skier < ns/\0 <= x.Index/\x.Index < m:=by
 unfold skL wHw two
 simp only [List.mem_flatMap,nh,nj,List.not_mem_nil,or_false]
 constructor
 ·rintro ⟨s,hs,i,hi,rfl | rfl⟩ <;> exact ⟨rfl,by simp only;omega,by simp only;omega,by simp only;omega,by simp only;omega⟩
 ·rintro ⟨a,b,c,d,e⟩
  refine ⟨x.Skier.toNat,by omega,x.Index.toNat,by omega,?_⟩
  obtain ⟨k,s,i,u⟩:=x
  simp only at a b c d e
  subst a
  rw [nL b,nL d]
  cases u <;> simp
theorem wEU {r:wAC} {x:wAF}:x ∈ wHx r ↔ wCZ r x:=by
 unfold wHx wCZ
 simp only [nP,wLj]
 omega
theorem wLk (kind ns m:Nat):(skL kind ns m).length=2 * m * ns:=by
 unfold skL wHw
 rw [kF]
 have:∀ s:Nat,((nD m).flatMap (two kind s)).length=2 * m:=fun s=>by
  rw [kF]
  have e:(nD m).map (fun a=>(two kind s a).length)=hU m 2:=by
   apply nt (by simp)
   intro i h1 h2
   simp [two]
  rw [e,kC]
  omega
 have e:(nD ns).map (fun s=>((nD m).flatMap (two kind s)).length)=hU ns (2 * m):=by
  apply nt (by simp)
  intro i h1 h2
  simp [this]
 rw [e,kC,Nat.mul_comm]
theorem wHy {r:wAC} (C:RC r):(wHx r).length <= 216:=by
 unfold wHx
 simp only [nI,wLk]
 have hm:=C.m;have hc:=C.c;have hq:=C.q;have hn:=C.n
 have h1:2 * r.Splits.length * r.Starts.length <= 14 * 8:=Nat.mul_le_mul (by omega) hn.2
 omega
section
variable {S E:Type}
def wHf (f:S->wAF->Option (S ⊕ E)):List wAF->S->Option (S ⊕ E)
 | [],s=>some (.inl s)
 | x :: l,s=>(f s x).bind fun y=>match y with
  | .inl s'=>wHf f l s'
  | .inr e=>some (.inr e)
theorem wJB (f:S->wAF->Option (S ⊕ E)):∀ (l m:List wAF) (s:S),wHf f (l ++ m) s=(wHf f l s).bind fun y=>match y with
  | .inl s'=>wHf f m s'
  | .inr e=>some (.inr e)
 | [],_,_=>rfl
 | x :: l,m,s=>by
  rw [nu,wHf,wHf]
  cases f s x with
  | none=>rfl
  | some y=>cases y with
   | inl s'=>exact wJB f l m s'
   | inr e=>rfl
def lif {B:Type} (k:E->B) (x:Option (S ⊕ E)):Option (S ⊕ B):=x.bind fun y=>match y with
 | .inl s=>some (.inl s)
 | .inr e=>some (.inr (k e))
theorem wGM {B:Type} (k:E->B) {body:Nat->S->Option (S ⊕ B)} {f:S->wAF->Option (S ⊕ E)} {L:Nat->List wAF}:∀ (m i:Nat) (s:S),(∀ j s,i <= j->j < i + m->body j s=lif k (wHf f (L j) s))->forN body m i s=lif k (wHf f ((List.range' i m).flatMap L) s)
 | 0,_,_,_=>rfl
 | m + 1,i,s,h=>by
  rw [forN,h i s (nA _) (by omega),List.range'_succ,nn,wJB]
  cases wHf f (L i) s with
  | none=>rfl
  | some y=>cases y with
   | inl s'=>exact wGM k m (i + 1) s' fun j s h1 h2=>h j s (by omega) (by omega)
   | inr e=>rfl
theorem wLQ {B:Type} (k:E->B) (x:Option (S ⊕ E)):jn (lif (fun e=>(.inr (k e):S ⊕ B)) x) (fun y=>some (.inl y))=lif k x:=by
 cases x with
 | none=>rfl
 | some y=>cases y <;> rfl
theorem wMm (x:Option (S ⊕ E)):jn (lif (fun e=>(.inr e:S ⊕ E)) x) (fun y=>some (.inl y))=x:=by
 cases x with
 | none=>rfl
 | some y=>cases y <;> rfl
theorem wMn (f:S->wAF->Option (S ⊕ E)) (kind skier i:Nat) (s:S):((f s (⟨(kind:Int),(skier:Int),(i:Int),true⟩:wAF)).bind fun yr141 =>
          match yr141 with
          | .inl s151 =>
            (f s151 (⟨(kind:Int),(skier:Int),(i:Int),false⟩:wAF)).bind fun yr154 =>
            match yr154 with
            | .inl s164 =>
              some (.inl s164)
            | .inr s164 =>
              esc (esc (esc (some (.inr s164))))
          | .inr s151 =>
            esc (esc (esc (some (.inr s151)))))=lif (fun e=>(.inr (.inr (.inr e)):S ⊕ (S ⊕ (S ⊕ E)))) (wHf f (two kind skier i) s):=by
  unfold two
  rw [wHf]
  cases f s (⟨(kind:Int),(skier:Int),(i:Int),true⟩:wAF) with
  | none=>rfl
  | some y=>cases y with
    | inr e=>rfl
    | inl s' =>
      simp only [hD]
      rw [wHf]
      cases f s' (⟨(kind:Int),(skier:Int),(i:Int),false⟩:wAF) with
      | none=>rfl
      | some y=>cases y <;> rfl
theorem wKI (f:S->wAF->Option (S ⊕ E)) (s0:S) {r:wAC} (C:RC r):wBy f s0 r=wHf f (wHx r) s0:=by
  unfold wBy
  have hm:=C.m;have hc:=C.c;have hq:=C.q;have hn:=C.n
  have inner:∀ (kind skier m:Nat) (s:S),m <= 1000->(wEW 0 (m:Int) (fun k113 s111 =>
          (f s111 (⟨(kind:Int),(skier:Int),(↑k113:Int),true⟩:wAF)).bind fun yr141 =>
          match yr141 with
          | .inl s151 =>
            (f s151 (⟨(kind:Int),(skier:Int),(↑k113:Int),false⟩:wAF)).bind fun yr154 =>
            match yr154 with
            | .inl s164 =>
              some (.inl s164)
            | .inr s164 =>
              esc (esc (esc (some (.inr s164))))
          | .inr s151 =>
            esc (esc (esc (some (.inr s151))))) s)=lif (fun e=>(.inr (.inr (.inr e)):S ⊕ (S ⊕ (S ⊕ E)))) (wHf f (wHw kind skier m) s):=fun kind skier m s hm=>by
    rw [wCo (by omega),wGM (fun e=>(.inr (.inr (.inr e)):S ⊕ (S ⊕ (S ⊕ E)))) (f:=f) (L:=two kind skier) m 0 s fun j s _ _=>wMn f kind skier j s,<- kE]
    rfl
  have skier:∀ (kind ns m:Nat) (s:S),ns <= 1000->m <= 1000->(jn (wEW 0 (ns:Int) (fun k78 s76 =>
        jn (wEW 0 (m:Int) (fun k113 s111 =>
          (f s111 (⟨(kind:Int),(↑k78:Int),(↑k113:Int),true⟩:wAF)).bind fun yr141 =>
          match yr141 with
          | .inl s151 =>
            (f s151 (⟨(kind:Int),(↑k78:Int),(↑k113:Int),false⟩:wAF)).bind fun yr154 =>
            match yr154 with
            | .inl s164 =>
              some (.inl s164)
            | .inr s164 =>
              esc (esc (esc (some (.inr s164))))
          | .inr s151 =>
            esc (esc (esc (some (.inr s151))))) s76) fun y195 =>
        some (.inl y195)) s) fun y219 =>
      some (.inl y219))=lif (fun e=>(.inr e:S ⊕ E)) (wHf f (skL kind ns m) s):=fun kind ns m s hns hm=>by
    rw [wCo (by omega),wGM (fun e=>(.inr (.inr e):S ⊕ (S ⊕ E))) (f:=f) (L:=fun q=>wHw kind q m) ns 0 s fun j s _ _=>by rw [inner kind j m s hm,wLQ],wLQ,<- kE]
    rfl
  unfold wEW
  rw [if_pos (by omega)]
  show jn (forN _ 4 0 s0) _=_
  rw [wGM (fun e=>(.inr e:S ⊕ E)) (f:=f) (L:=fun k=>if k=0 then skL 0 r.Starts.length 1 else if k=1 then skL 1 r.Starts.length r.Splits.length else if k=2 then skL 2 1 r.Clocks.length else skL 3 1 r.Readings.length) 4 0 s0 fun j s _ hj=>?_,wMm]
  · congr 1
    show nS _ [0,1,2,3]=_
    simp only [nn,List.flatMap_nil,ny]
    rfl
  · have:j=0 \/ j=1 \/ j=2 \/ j=3:=by omega
    rcases this with rfl | rfl | rfl | rfl
    · exact skier 0 r.Starts.length 1 s (by omega) (by omega)
    · exact skier 1 r.Starts.length r.Splits.length s (by omega) (by omega)
    · exact skier 2 1 r.Clocks.length s (by omega) (by omega)
    · exact skier 3 1 r.Readings.length s (by omega) (by omega)
end
end Go.Proofs.Ytlnfbjphfoipaaa
namespace Go.Proofs.Ytlnfbjphfoipaaa
open Go.KL Go.KL.Net
def wEi:List Pt->Nat->List (Pt × Int)
 | [],_=>[]
 | p :: l,k=>(p,(k:Int)) :: wEi l (k + 1)
theorem wHV:∀ (l:List Pt) (k:Nat),(wEi l k).length=l.length
 | [],_=>rfl
 | _ :: l,k=>by rw [wEi,hH,hH,wHV l]
theorem wJC:∀ (l:List Pt) (p:Pt) (k:Nat),wEi (l ++ [p]) k=wEi l k ++ [(p,((k + l.length:Nat):Int))]
 | [],p,k=>by simp [wEi]
 | a :: l,p,k=>by
  rw [nu,wEi,wEi,wJC l p (k + 1),nu,hH]
  congr 4
  omega
theorem wJD:∀ {l:List Pt} {k:Nat} {p:Pt},p ∉ l->wKY (wEi l k) p=none/\∀ v,wFm (wEi l k) p v=wEi l k ++ [(p,v)]
 | [],_,_,_=>⟨rfl,fun _=>rfl⟩
 | a :: l,k,p,h=>by
  rw [nj,not_or] at h
  obtain ⟨h1,h2⟩:=wJD (l:=l) (k:=k + 1) h.2
  refine ⟨by rw [wEi,wKY,if_neg h.1];exact h1,fun v=>?_⟩
  rw [wEi,wFm,if_neg h.1,h2 v];rfl
theorem wKJ:∀ {l:List Pt} {k i:Nat},l.Nodup->i < l.length->wKY (wEi l k) (gd l i)=some ((k + i:Nat):Int)
 | a :: l,k,0,_,_=>by
  rw [wEi,wKY]
  exact if_pos rfl
 | a :: l,k,i + 1,nd,hi=>by
  rw [List.nodup_cons] at nd
  have hi':i < l.length:=by simpa using hi
  have e:gd (a :: l) (i + 1)=gd l i:=rfl
  have hne:gd l i ≠ a:=fun h=>nd.1 (h ▸ wBo hi')
  rw [e,wEi,wKY,if_neg hne,wKJ nd.2 hi']
  congr 2
  omega
def pos (pts:List Pt) (p:Pt):Nat:=(wBH (wEi pts 0) p 0).toNat
theorem wHz {α:Type} [Inhabited α] {l:List α} {a:α} (h:a ∈ l):∃ i,i < l.length/\gd l i=a:=by
 obtain ⟨i,hi,e⟩:=List.getElem_of_mem h
 exact ⟨i,hi,by rw [wHv hi,e]⟩
theorem wIA {pts:List Pt} (nd:pts.Nodup) {i:Nat} (hi:i < pts.length):pos pts (gd pts i)=i/\wBH (wEi pts 0) (gd pts i) 0=(i:Int)/\wJh (wEi pts 0) (gd pts i)=true:=by
 unfold pos wBH wJh
 rw [wKJ nd hi]
 simp
theorem wGE {pts:List Pt} (nd:pts.Nodup) {p:Pt} (h:p ∈ pts):pos pts p < pts.length/\gd pts (pos pts p)=p/\wBH (wEi pts 0) p 0=(pos pts p:Int)/\wJh (wEi pts 0) p=true:=by
 obtain ⟨i,hi,rfl⟩:=wHz h
 obtain ⟨h1,h2,h3⟩:=wIA nd hi
 rw [h1]
 exact ⟨hi,rfl,h2,h3⟩
def wGh (pts:List Pt) (p:Pt):List Pt:=if p ∈ pts then pts else pts ++ [p]
theorem wIW {pts:List Pt} (nd:pts.Nodup) (p:Pt):(wGh pts p).Nodup:=by
 unfold wGh
 split
 ·exact nd
 ·rename_i h
  rw [List.nodup_append]
  exact ⟨nd,by simp,fun a ha b hb e=>h (by rw [nH.1 hb] at e;exact e ▸ ha)⟩
theorem wDl {pts:List Pt} {p q:Pt}:q ∈ wGh pts p ↔ q ∈ pts \/ q=p:=by
 unfold wGh
 split
 ·rename_i h
  exact ⟨.inl,fun e=>e.elim id fun e=>e ▸ h⟩
 ·rw [nP,nH]
theorem wJE (pts:List Pt) (p:Pt):pts.length <= (wGh pts p).length/\(wGh pts p).length <= pts.length + 1:=by
 unfold wGh
 split <;> simp
theorem wJF {pts:List Pt} (nd:pts.Nodup) {p q:Pt} (h:q ∈ pts):wBH (wEi (wGh pts p) 0) q 0=wBH (wEi pts 0) q 0:=by
 unfold wGh
 split
 ·rfl
 ·rename_i hp
  obtain ⟨i,hi,rfl⟩:=wHz h
  have e:gd (pts ++ [p]) i=gd pts i:=wDk hi
  have nd2:=wIW nd p
  unfold wGh at nd2
  rw [if_neg hp] at nd2
  rw [(wIA nd hi).2.1,<- e,(wIA nd2 (by rw [nI];omega)).2.1]
theorem wJG {pts:List Pt} (nd:pts.Nodup) (p:Pt):(if (wJh (wEi pts 0) p)=true then some (wEi pts 0) else some (wFm (wEi pts 0) p (↑((wEi pts 0).length):Int)))=some (wEi (wGh pts p) 0):=by
 by_cases h:p ∈ pts
 ·rw [if_pos (wGE nd h).2.2.2,wGh,if_pos h]
 ·have ho:=wJD (k:=0) h
  have hn:¬ wJh (wEi pts 0) p=true:=by unfold wJh;rw [ho.1];simp
  rw [if_neg hn,ho.2,wGh,if_neg h,wJC,wHV,nK]
theorem wKK {pts:List Pt} {p:Pt} {i:Nat} (h:i < pts.length):gd (wGh pts p) i=gd pts i:=by
 unfold wGh
 split
 ·rfl
 ·exact wDk h
def mkE (r:wAC) (pts:List Pt) (x:wAF):wAV:=⟨x,wBH (wEi pts 0) (wCS r x).1 0,wBH (wEi pts 0) (wCS r x).2.1 0,(wCS r x).2.2⟩
structure Desk (r:wAC) (d:wAW) (pts:List Pt):Prop where
 c:RC r
 race:d.Race=r
 num:d.number=wEi pts 0
 nd:pts.Nodup
 len:1 <= pts.length/\pts.length <= 433
 zero:gd pts 0=zp
 all:∀ p,p ∈ pts ↔ wGL r p
 edges:d.edges=(wHx r).map (mkE r pts)
structure OpI (r:wAC) (pre:List wAF) (s:List wAV × List (Pt × Int)) (pts:List Pt):Prop where
 num:s.2=wEi pts 0
 nd:pts.Nodup
 len:1 <= pts.length/\pts.length <= 1 + 2 * pre.length
 zero:gd pts 0=zp
 ok:∀ p ∈ pts,wGL r p
 has:∀ x ∈ pre,(wCS r x).1 ∈ pts/\(wCS r x).2.1 ∈ pts
 edges:s.1=pre.map (mkE r pts)
def opF (r:wAC):List wAV × List (Pt × Int)->wAF->Option ((List wAV × List (Pt × Int)) ⊕ Empty):=fun (l1591,l1595) x1616 =>
  (wAt r x1616).bind fun (x1652,x1653,x1654) =>
  (wBY 0 2 (fun k1692 l1689 =>
   (idx ([x1652,x1653]:List wAJ) (↑k1692:Int)).bind fun x1718 =>
   if (wJh l1689 x1718)=true then
    some l1689
   else
    some (wFm l1689 x1718 (↑(l1689.length):Int))) l1595).bind fun y1697 =>
  (app 56 l1591 [(⟨x1616,(wBH y1697 x1652 0),(wBH y1697 x1653 0),x1654⟩:wAV)]).bind fun x1773 =>
  some (.inl (x1773,y1697))
theorem wMo {r:wAC} (C:RC r) {pre:List wAF} (hp:pre.length <= 216) {x:wAF} (hx:wCZ r x) {s:List wAV × List (Pt × Int)} {pts:List Pt} (I:OpI r pre s pts):∃ s' pts',opF r s x=some (.inl s')/\OpI r (pre ++ [x]) s' pts':=by
 obtain ⟨es,num⟩:=s
 obtain ⟨hn,nd,hl,hz,ok,has,he⟩:=I
 simp only at hn he
 subst hn he
 obtain ⟨o1,o2,_,_⟩:=wEE C hx
 unfold opF
 simp only
 rw [wFg C hx,hD]
 have nd1:=wIW nd (wCS r x).1
 have nd2:=wIW nd1 (wCS r x).2.1
 have loop:(wBY 0 2 (fun k1692 l1689 =>
   (idx ([(wCS r x).1,(wCS r x).2.1]:List wAJ) (↑k1692:Int)).bind fun x1718 =>
   if (wJh l1689 x1718)=true then
    some l1689
   else
    some (wFm l1689 x1718 (↑(l1689.length):Int))) (wEi pts 0))=some (wEi (wGh (wGh pts (wCS r x).1) (wCS r x).2.1) 0):=by
  unfold wBY
  rw [if_pos (by omega)]
  show forN' _ 2 0 (wEi pts 0)=_
  have i0:idx ([(wCS r x).1,(wCS r x).2.1]:List wAJ) ((0:Nat):Int)=some (wCS r x).1:=rfl
  have i1:idx ([(wCS r x).1,(wCS r x).2.1]:List wAJ) ((0 + 1:Nat):Int)=some (wCS r x).2.1:=rfl
  simp only [forN',i0,i1,hD]
  rw [wJG nd]
  simp only
  rw [wJG nd1]
 rw [loop,hD,wCx (by rw [nz];simp only [hH,hJ];omega),hD]
 have l1:=wJE pts (wCS r x).1
 have l2:=wJE (wGh pts (wCS r x).1) (wCS r x).2.1
 have same:∀ q ∈ pts,wBH (wEi (wGh (wGh pts (wCS r x).1) (wCS r x).2.1) 0) q 0=wBH (wEi pts 0) q 0:=fun q hq=>by
  rw [wJF nd1 (wDl.2 (.inl hq)),wJF nd hq]
 refine ⟨_,wGh (wGh pts (wCS r x).1) (wCS r x).2.1,rfl,rfl,nd2,⟨by omega,by rw [nI,nX];omega⟩,?_,fun p hp=>?_,fun y hy=>?_,?_⟩
 ·rw [wKK (by omega),wKK (by omega),hz]
 ·rcases wDl.1 hp with hp | rfl
  ·rcases wDl.1 hp with hp | rfl
   ·exact ok p hp
   ·exact o1
  ·exact o2
 ·rcases nP.1 hy with hy | hy
  ·obtain ⟨a,b⟩:=has y hy
   exact ⟨wDl.2 (.inl (wDl.2 (.inl a))),wDl.2 (.inl (wDl.2 (.inl b)))⟩
  ·have:=nH.1 hy
   subst this
   exact ⟨wDl.2 (.inl (wDl.2 (.inr rfl))),wDl.2 (.inr rfl)⟩
 ·simp only
  rw [na]
  congr 1
  refine kG fun y hy=>?_
  obtain ⟨a,b⟩:=has y hy
  unfold mkE
  rw [same _ a,same _ b]
theorem skip (r:wAC) (p:Pt) (h:wGL r p) (C:RC r):p=zp \/ ∃ x,wCZ r x/\(wCS r x).2.1=p:=by
 rcases h with h | ⟨a,b,c,d⟩ | ⟨a,b,c⟩
 ·exact .inl h
 ·right
  by_cases e:p.mat=0
  ·refine ⟨⟨0,p.skier,0,true⟩,.inl ⟨rfl,a,b,rfl⟩,?_⟩
   show (⟨p.skier,0⟩:Pt)=p
   rw [<- e]
  ·refine ⟨⟨1,p.skier,p.mat - 1,true⟩,.inr (.inl ⟨rfl,a,b,by simp only;omega,by simp only;omega⟩),?_⟩
   show (⟨p.skier,p.mat - 1 + 1⟩:Pt)=p
   rw [nU]
 ·right
  refine ⟨⟨2,0,p.mat - 1,true⟩,.inr (.inr (.inl ⟨rfl,rfl,by simp only;omega,by simp only;omega⟩)),?_⟩
  show (⟨-1,1 + (p.mat - 1)⟩:Pt)=p
  rw [<- a,ng,nU]
theorem wIB {r:wAC} (C:RC r):∃ d pts,wCt r=some d/\Desk r d pts:=by
 unfold wCt wCU wCs
 simp only [hD]
 rw [wKI _ _ C]
 have hlen:=wHy C
 have key:∀ (l pre:List wAF) (s:List wAV × List (Pt × Int)) (pts:List Pt),OpI r pre s pts->pre.length + l.length <= 216->(∀ x ∈ l,wCZ r x)->∃ s' pts',wHf (opF r) l s=some (.inl s')/\OpI r (pre ++ l) s' pts':=by
  intro l
  induction l with
  | nil=>intro pre s pts I _ _;exact ⟨s,pts,rfl,by rw [ny];exact I⟩
  | cons x l ih =>
   intro pre s pts I hl hx
   simp only [hH] at hl
   obtain ⟨s1,p1,e,I1⟩:=wMo C (by omega) (hx x (by simp)) I
   obtain ⟨s2,p2,e2,I2⟩:=ih (pre ++ [x]) s1 p1 I1 (by rw [nI,nX];omega) fun y hy=>hx y (by simp [hy])
   refine ⟨s2,p2,by rw [wHf,e];exact e2,?_⟩
   rw [np] at I2
   exact I2
 obtain ⟨⟨es,num⟩,pts,e,I⟩:=key (wHx r) [] ([],wFm ([]:List (Pt × Int)) (⟨-1,0⟩:wAJ) 0) [zp] ⟨rfl,by simp,⟨by simp,by simp⟩,rfl,fun p hp=>.inl (nH.1 hp),(fun x hx=>by cases hx),rfl⟩ (by simpa using hlen) fun x hx=>wEU.1 hx
 rw [nw] at I
 have hz:zp ∈ pts:=I.zero ▸ wBo I.len.1
 refine ⟨⟨r,num,es⟩,pts,?_,C,rfl,I.num,I.nd,⟨I.len.1,by have:=I.len.2;omega⟩,I.zero,fun p=>⟨I.ok p,fun h=>?_⟩,I.edges⟩
 ·show (wHf (opF r) (wHx r) _).bind _=_
  rw [e]
  rfl
 ·rcases skip r p h C with rfl | ⟨x,hx,rfl⟩
  ·exact hz
  ·exact (I.has x (wEU.2 hx)).2
end Go.Proofs.Ytlnfbjphfoipaaa
namespace Go.Proofs.Ytlnfbjphfoipaaa
open Go.KL Go.KL.Net
def wCq (r:wAC) (y:Pt->Int):Prop:=∀ x,wCZ r x->y (wCS r x).2.1 <= y (wCS r x).1 + (wCS r x).2.2
section
variable {r:wAC} {y:Pt->Int}
theorem fp0 (F:wCq r y) {s:Int} (h0:0 <= s) (h1:s < r.Starts.length):y ⟨s,0⟩=y zp + gd r.Starts s.toNat:=by
 have a:y ⟨s,0⟩ <= y zp + gd r.Starts s.toNat:=F ⟨0,s,0,true⟩ (.inl ⟨rfl,h0,h1,rfl⟩)
 have b:y zp <= y ⟨s,0⟩ + -gd r.Starts s.toNat:=F ⟨0,s,0,false⟩ (.inl ⟨rfl,h0,h1,rfl⟩)
 omega
theorem fp1 (F:wCq r y) {s k:Int} (h0:0 <= s) (h1:s < r.Starts.length) (k0:0 <= k) (k1:k < r.Splits.length):y ⟨s,k⟩ + (gd r.Splits k.toNat).Lo <= y ⟨s,k + 1⟩/\y ⟨s,k + 1⟩ <= y ⟨s,k⟩ + (gd r.Splits k.toNat).Hi:=by
 have a:y ⟨s,k + 1⟩ <= y ⟨s,k⟩ + (gd r.Splits k.toNat).Hi:=F ⟨1,s,k,true⟩ (.inr (.inl ⟨rfl,h0,h1,k0,k1⟩))
 have b:y ⟨s,k⟩ <= y ⟨s,k + 1⟩ + -(gd r.Splits k.toNat).Lo:=F ⟨1,s,k,false⟩ (.inr (.inl ⟨rfl,h0,h1,k0,k1⟩))
 omega
theorem fp2 (F:wCq r y) {k:Int} (k0:0 <= k) (k1:k < r.Clocks.length):y ⟨-1,1 + k⟩ <= y zp - (gd r.Clocks k.toNat).Offset.Lo/\y zp <= y ⟨-1,1 + k⟩ + (gd r.Clocks k.toNat).Offset.Hi:=by
 have a:y ⟨-1,1 + k⟩ <= y zp + -(gd r.Clocks k.toNat).Offset.Lo:=F ⟨2,0,k,true⟩ (.inr (.inr (.inl ⟨rfl,rfl,k0,k1⟩)))
 have b:y zp <= y ⟨-1,1 + k⟩ + (gd r.Clocks k.toNat).Offset.Hi:=F ⟨2,0,k,false⟩ (.inr (.inr (.inl ⟨rfl,rfl,k0,k1⟩)))
 omega
theorem wIC (C:RC r) (F:wCq r y) {p:Pt} (hp:wGL r p):-3300000 <= y p - y zp/\y p - y zp <= 3300000:=by
 rcases hp with rfl | ⟨a,b,c,d⟩ | ⟨a,b,c⟩
 ·omega
 ·have key:∀ k:Nat,(k:Int) <= r.Splits.length->0 <= y ⟨p.skier,k⟩ - y zp/\y ⟨p.skier,k⟩ - y zp <= 360000 * ((k:Int) + 1):=by
   intro k
   induction k with
   | zero =>
    intro _
    have:=fp0 F a b
    have:=C.st _ (wCp a b)
    show 0 <= y ⟨p.skier,0⟩ - y zp/\y ⟨p.skier,0⟩ - y zp <= _
    omega
   | succ k ih =>
    intro hk
    have h:=ih (by omega)
    have f:=fp1 F a b (k:=(k:Int)) (by omega) (by omega)
    have g:=C.sp _ (wCp (l:=r.Splits) (i:=(k:Int)) (by omega) (by omega))
    have e:((k + 1:Nat):Int)=(k:Int) + 1:=by omega
    rw [e]
    omega
  have:=key p.mat.toNat (by omega)
  rw [nL c] at this
  have hm:=C.m
  have e:(⟨p.skier,p.mat⟩:Pt)=p:=rfl
  rw [e] at this
  omega
 ·have f:=fp2 F (k:=p.mat - 1) (by omega) (by omega)
  have g:=(C.ck _ (wCp (l:=r.Clocks) (i:=p.mat - 1) (by omega) (by omega))).1
  have e:(⟨-1,1 + (p.mat - 1)⟩:Pt)=p:=by rw [<- a,ng,nU]
  rw [e] at f
  omega
theorem to_zp {S:Pt->Prop} (hS:∀ x,wCZ r x->S (wCS r x).1->S (wCS r x).2.1) {p:Pt} (hp:wGL r p) (h:S p):S zp:=by
 rcases hp with rfl | ⟨a,b,c,d⟩ | ⟨a,b,c⟩
 ·exact h
 ·have key:∀ k:Nat,(k:Int) <= r.Splits.length->S ⟨p.skier,k⟩->S zp:=by
   intro k
   induction k with
   | zero=>intro _ hk;exact hS ⟨0,p.skier,0,false⟩ (.inl ⟨rfl,a,b,rfl⟩) hk
   | succ k ih =>
    intro hk h
    refine ih (by omega) ?_
    have e:((k + 1:Nat):Int)=(k:Int) + 1:=by omega
    rw [e] at h
    exact hS ⟨1,p.skier,k,false⟩ (.inr (.inl ⟨rfl,a,b,by simp only;omega,by simp only;omega⟩)) h
  refine key p.mat.toNat (by omega) ?_
  rw [nL c];exact h
 ·have e:(⟨-1,1 + (p.mat - 1)⟩:Pt)=p:=by rw [<- a,ng,nU]
  refine hS ⟨2,0,p.mat - 1,false⟩ (.inr (.inr (.inl ⟨rfl,rfl,by simp only;omega,by simp only;omega⟩))) ?_
  show S ⟨-1,1 + (p.mat - 1)⟩
  rw [e];exact h
theorem of_zp {S:Pt->Prop} (hS:∀ x,wCZ r x->S (wCS r x).1->S (wCS r x).2.1) (h:S zp) {p:Pt} (hp:wGL r p):S p:=by
 rcases hp with rfl | ⟨a,b,c,d⟩ | ⟨a,b,c⟩
 ·exact h
 ·have key:∀ k:Nat,(k:Int) <= r.Splits.length->S ⟨p.skier,k⟩:=by
   intro k
   induction k with
   | zero=>intro _;exact hS ⟨0,p.skier,0,true⟩ (.inl ⟨rfl,a,b,rfl⟩) h
   | succ k ih =>
    intro hk
    have e:((k + 1:Nat):Int)=(k:Int) + 1:=by omega
    rw [e]
    exact hS ⟨1,p.skier,k,true⟩ (.inr (.inl ⟨rfl,a,b,by simp only;omega,by simp only;omega⟩)) (ih (by omega))
  have:=key p.mat.toNat (by omega)
  rw [nL c] at this
  exact this
 ·have e:(⟨-1,1 + (p.mat - 1)⟩:Pt)=p:=by rw [<- a,ng,nU]
  have:=hS ⟨2,0,p.mat - 1,true⟩ (.inr (.inr (.inl ⟨rfl,rfl,by simp only;omega,by simp only;omega⟩))) h
  rw [<- e];exact this
def turn (x:wAF):wAF:=⟨x.Kind,x.Skier,x.Index,!x.Up⟩
theorem wLl {x:wAF} (h:wCZ r x):wCZ r (turn x)/\(wCS r (turn x)).1=(wCS r x).2.1/\(wCS r (turn x)).2.1=(wCS r x).1:=by
 refine ⟨h,?_⟩
 obtain ⟨k,s,i,u⟩:=x
 unfold wCS turn
 cases u <;> exact ⟨rfl,rfl⟩
end
section
variable {r:wAC} {d:wAW} {pts:List Pt} (D:Desk r d pts)
include D
theorem Desk.pos_ok {p:Pt} (hp:wGL r p):pos pts p < pts.length/\gd pts (pos pts p)=p/\wBH d.number p 0=(pos pts p:Int):=by
 obtain ⟨h1,h2,h3,_⟩:=wGE D.nd ((D.all p).2 hp)
 exact ⟨h1,h2,by rw [D.num];exact h3⟩
theorem Desk.gd_ok {v:Nat} (hv:v < pts.length):wGL r (gd pts v)/\pos pts (gd pts v)=v:=⟨(D.all _).1 (wBo hv),(wIA D.nd hv).1⟩
theorem Desk.ed_is {x:wAF} (h:wCZ r x) (p:Bool):ed p (mkE r pts x)=if p then ⟨pos pts (wCS r x).2.1,pos pts (wCS r x).1,(wCS r x).2.2⟩ else ⟨pos pts (wCS r x).1,pos pts (wCS r x).2.1,(wCS r x).2.2⟩:=by
 obtain ⟨o1,o2,_,_⟩:=wEE D.c h
 have h1:=(wGE D.nd ((D.all _).2 o1)).2.2.1
 have h2:=(wGE D.nd ((D.all _).2 o2)).2.2.1
 unfold ed mkE
 simp only [h1,h2,nE]
theorem Desk.mem {p:Bool} {e:Ed}:e ∈ d.edges.map (ed p) ↔ ∃ x,wCZ r x/\e=ed p (mkE r pts x):=by
 rw [D.edges,List.map_map]
 constructor
 ·intro h
  obtain ⟨x,hx,rfl⟩:=nT.1 h
  exact ⟨x,wEU.1 hx,rfl⟩
 ·rintro ⟨x,hx,rfl⟩
  exact nT.2 ⟨x,wEU.2 hx,rfl⟩
theorem Desk.edOK:∀ e ∈ d.edges,wLN pts.length e:=by
 intro e he
 rw [D.edges] at he
 obtain ⟨x,hx,rfl⟩:=nT.1 he
 have h:=wEU.1 hx
 obtain ⟨o1,o2,c1,c2⟩:=wEE D.c h
 obtain ⟨h1,_,h2,_⟩:=wGE D.nd ((D.all _).2 o1)
 obtain ⟨g1,_,g2,_⟩:=wGE D.nd ((D.all _).2 o2)
 unfold mkE
 rw [h2,g2]
 exact ⟨by simp only;omega,by simp only;omega,by simp only;omega,by simp only;omega,c1,c2⟩
theorem Desk.elen:d.edges.length <= 1000:=by
 have:=wHy D.c
 rw [D.edges,nz]
 omega
theorem Desk.feas {y:Pt->Int} (F:wCq r y):wHH (d.edges.map (ed false)) fun v=>y (gd pts v):=by
 intro e he
 obtain ⟨x,hx,rfl⟩:=D.mem.1 he
 obtain ⟨o1,o2,_,_⟩:=wEE D.c hx
 rw [D.ed_is hx]
 simp only [nO,if_false]
 rw [(D.pos_ok o1).2.1,(D.pos_ok o2).2.1]
 exact F x hx
theorem Desk.back {z:Nat->Int} (F:wHH (d.edges.map (ed false)) z):wCq r fun p=>z (pos pts p):=by
 intro x hx
 have:=F _ (D.mem.2 ⟨x,hx,rfl⟩)
 rw [D.ed_is hx] at this
 simp only [nO,if_false] at this
 exact this
theorem Desk.backT {z:Nat->Int} (F:wHH (d.edges.map (ed true)) z):wCq r fun p=>-z (pos pts p):=by
 intro x hx
 have:=F _ (D.mem.2 ⟨x,hx,rfl⟩)
 rw [D.ed_is hx] at this
 simp only [if_true] at this
 simp only
 omega
theorem Desk.con (p:Bool):Con pts.length 6600000 (d.edges.map (ed p)):=by
 refine ⟨fun e he=>?_,fun z hz a b ha hb=>?_,fun S i hi hSi hS v hv=>?_⟩
 ·obtain ⟨x,hx,rfl⟩:=D.mem.1 he
  obtain ⟨o1,o2,_,_⟩:=wEE D.c hx
  have h1:=(D.pos_ok o1).1
  have h2:=(D.pos_ok o2).1
  rw [D.ed_is hx]
  split
  ·exact ⟨h2,h1⟩
  ·exact ⟨h1,h2⟩
 ·obtain ⟨pa,ea⟩:=D.gd_ok ha
  obtain ⟨pb,eb⟩:=D.gd_ok hb
  cases p with
  | false =>
   have h1:=wIC D.c (D.back hz) pa
   have h2:=wIC D.c (D.back hz) pb
   simp only [ea,eb] at h1 h2
   omega
  | true =>
   have h1:=wIC D.c (D.backT hz) pa
   have h2:=wIC D.c (D.backT hz) pb
   simp only [ea,eb] at h1 h2
   omega
 ·have hcl:∀ x,wCZ r x->S (pos pts (wCS r x).1)->S (pos pts (wCS r x).2.1):=fun x hx h=>by
   cases p with
   | false =>
    have:=hS _ (D.mem.2 ⟨x,hx,rfl⟩)
    rw [D.ed_is hx] at this
    simp only [nO,if_false] at this
    exact this h
   | true =>
    obtain ⟨t1,t2,t3⟩:=wLl hx
    have:=hS _ (D.mem.2 ⟨_,t1,rfl⟩)
    rw [D.ed_is t1] at this
    simp only [if_true] at this
    rw [t2,t3] at this
    exact this h
  obtain ⟨pi,ei⟩:=D.gd_ok hi
  obtain ⟨pv,ev⟩:=D.gd_ok hv
  have:=of_zp (S:=fun q=>S (pos pts q)) hcl (to_zp (S:=fun q=>S (pos pts q)) hcl pi (by show S (pos pts (gd pts i));rw [ei];exact hSi)) pv
  have this:S (pos pts (gd pts v)):=this
  rwa [ev] at this
theorem Desk.cost (p:Bool):∀ e ∈ d.edges.map (ed p),e.c <= 400000:=by
 intro e he
 obtain ⟨x,hx,rfl⟩:=D.mem.1 he
 obtain ⟨_,_,_,c⟩:=wEE D.c hx
 rw [D.ed_is hx]
 split <;> exact c
theorem Desk.nlen:d.number.length=pts.length:=by rw [D.num,wHV]
theorem Desk.zeroP:pos pts zp=0:=by
 have:=(wIA D.nd (i:=0) (by have:=D.len;omega)).1
 rwa [D.zero] at this
theorem Desk.any:∃ f last ok,wAd d (-1) false=some (f,last,ok)/\f.far.length=pts.length/\f.by_.length=pts.length/\(ok=true ↔ ∃ y,wCq r y)/\(ok=true->wCq r fun p=>gd f.far (pos pts p))/\(ok=false->0 <= last/\last < pts.length):=by
 obtain ⟨f,last,ok,e,bl,fl,h1,h2⟩:=wKG D.nlen D.len.1 (by have:=D.len.2;omega) D.edOK D.elen (-1) false
 have hp:0 < pts.length:=D.len.1
 have t0:wHU (-1) 0=0:=by unfold wHU;rw [if_pos (.inl (by omega))]
 have feas:ok=true->wCq r fun p=>gd f.far (pos pts p):=fun h=>D.back ((h1 h).feas (D.con false) (D.cost false) hp t0)
 refine ⟨f,last,ok,e,fl,bl,⟨fun h=>⟨_,feas h⟩,fun ⟨y,hy⟩=>?_⟩,feas,fun h=>⟨(h2 h).1,(h2 h).2.1⟩⟩
 cases ok with
 | true=>rfl
 | false =>
  exfalso
  obtain ⟨δ,M⟩:=wLg (D.con false) (D.feas hy) hp t0 (fun v _=>(wMl (-1) v).1)
  exact (h2 rfl).2.2 δ M fun v hv=>by have:=M.hi (D.con false) hp t0 v hv;omega
end
end Go.Proofs.Ytlnfbjphfoipaaa
namespace Go.Proofs.Ytlnfbjphfoipaaa
open Go.KL Go.KL.Net
def inB (n lo hi:Int):Bool:=decide (lo <= n/\n <= hi)
theorem wDs (n lo hi:Int):wBJ n lo hi=some (inB n lo hi):=by
 unfold wBJ inB
 by_cases h:lo <= n
 ·rw [if_pos h];simp [h]
 ·rw [if_neg h];simp [h]
def wKn (s:wAK) (lo hi:Int):Bool:=decide (s.Lo <= s.Hi/\lo <= s.Lo/\s.Hi <= hi)
theorem wHI (s:wAK) (lo hi:Int):wCc s lo hi=some (wKn s lo hi):=by
 unfold wCc wKn
 by_cases h:s.Lo <= s.Hi
 ·by_cases h2:lo <= s.Lo
  ·rw [if_pos h,if_pos h2];simp [h,h2]
  ·rw [if_pos h,if_neg h2];simp [h2]
 ·rw [if_neg h];simp [h]
theorem wKL {l:List Int} {f:Int->Option Bool} {p:Int->Bool} (hf:∀ a ∈ l,f a=some (p a)) (hn:l.length <= 1000):wCQ l f=some (l.all p):=by
 unfold wCQ
 refine (wFc (R:=Bool) (p:=p) (z:=false) (K:=fun _=>some true) (fun a ha=>?_) (by omega)).trans ?_
 ·rw [hf a ha,hD];split <;> rfl
 ·split <;> simp_all
theorem wJV {l:List wAK} {f:wAK->Option Bool} {p:wAK->Bool} (hf:∀ a ∈ l,f a=some (p a)) (hn:l.length <= 1000):wBX l f=some (l.all p):=by
 unfold wBX
 refine (wFc (R:=Bool) (p:=p) (z:=false) (K:=fun _=>some true) (fun a ha=>?_) (by omega)).trans ?_
 ·rw [hf a ha,hD];split <;> rfl
 ·split <;> simp_all
theorem wIX {l:List wAM} {f:wAM->Option Bool} {p:wAM->Bool} (hf:∀ a ∈ l,f a=some (p a)) (hn:l.length <= 1000):wBO l f=some (l.all p):=by
 unfold wBO
 refine (wFc (R:=Bool) (p:=p) (z:=false) (K:=fun _=>some true) (fun a ha=>?_) (by omega)).trans ?_
 ·rw [hf a ha,hD];split <;> rfl
 ·split <;> simp_all
theorem wFh {l:List wAI} {f:wAI->Option Bool} {p:wAI->Bool} (hf:∀ a ∈ l,f a=some (p a)) (hn:l.length <= 1000):wAq l f=some (l.all p):=by
 unfold wAq
 refine (wFc (R:=Bool) (p:=p) (z:=false) (K:=fun _=>some true) (fun a ha=>?_) (by omega)).trans ?_
 ·rw [hf a ha,hD];split <;> rfl
 ·split <;> simp_all
structure wEV (r:wAC):Prop where
 n:r.Starts.length <= 10
 m:r.Splits.length <= 9
 c:r.Clocks.length <= 6
 q:r.Readings.length <= 44
def stP (s:Int):Bool:=inB s 0 360000
def spP (s:wAK):Bool:=wKn s 0 360000
def ckP (c:wAM):Bool:=wKn c.Offset (-36000) 36000 && inB c.Error 0 600
def rtP (x:wAI):Bool:=inB x.Time 0 360000
def ruP (r:wAC) (x:wAI):Bool:=inB x.Skier 0 ((r.Starts.length:Int) - 1) && (inB x.Mat 0 r.Splits.length && inB x.Clock 0 ((r.Clocks.length:Int) - 1))
def code (r:wAC):Int :=
 if ¬ (1 <= r.Starts.length/\r.Starts.length <= 8) then 2 else if 7 < r.Splits.length then 2 else if 4 < r.Clocks.length then 2 else if 40 < r.Readings.length then 2
 else if r.Starts.all stP=true then (if r.Splits.all spP=true then (if r.Clocks.all ckP=true then (if r.Readings.all rtP=true then (if r.Readings.all (ruP r)=true then 0 else 1) else 3) else 3) else 3) else 3
theorem wGc {r:wAC} (h:code r=0):RC r:=by
 unfold code at h
 split at h
 ·omega
 ·split at h
  ·omega
  ·split at h
   ·omega
   ·split at h
    ·omega
    ·split at h
     ·split at h
      ·split at h
       ·split at h
        ·split at h
         ·rename_i a1 a2 a3 a4 h1 h2 h3 h4 h5
          rw [nN] at h1 h2 h3 h4 h5
          refine ⟨by omega,by omega,by omega,by omega,fun s hs=>?_,fun s hs=>?_,fun s hs=>?_,fun s hs=>?_,fun s hs=>?_⟩
          ·have:=h1 s hs
           simp only [stP,inB,decide_eq_true_eq] at this
           exact this
          ·have:=h2 s hs
           simp only [spP,wKn,decide_eq_true_eq] at this
           exact this
          ·have:=h3 s hs
           simp only [ckP,wKn,inB,nJ,decide_eq_true_eq] at this
           exact this
          ·have:=h4 s hs
           simp only [rtP,inB,decide_eq_true_eq] at this
           exact this
          ·have:=h5 s hs
           simp only [ruP,inB,nJ,decide_eq_true_eq] at this
           omega
         ·omega
        ·omega
       ·omega
      ·omega
     ·omega
theorem wLm {r:wAC} (S:wEV r) (s:wAS):wAk r s=some (inB s.Skier 0 ((r.Starts.length:Int) - 1) && inB s.Mat 0 r.Splits.length):=by
 have:=S.n
 unfold wAk
 rw [wAT (by omega) (by omega),wDs,hD,wDs,hD]
 cases inB s.Skier 0 ((r.Starts.length:Int) - 1)
 ·rw [if_neg (by simp)];rfl
 ·rw [if_pos rfl,Bool.true_and]
theorem wFv {r:wAC} (S:wEV r):wCT r=some (code r):=by
 have hn:=S.n;have hm:=S.m;have hc:=S.c;have hq:=S.q
 unfold wCT code
 rw [wDs,hD]
 by_cases c1:1 <= r.Starts.length/\r.Starts.length <= 8
 ·have e1:inB (r.Starts.length:Int) 1 8=true:=by unfold inB;rw [decide_eq_true_eq];omega
  rw [e1,if_pos rfl,if_neg (show ¬ ¬ (1 <= r.Starts.length/\r.Starts.length <= 8) from fun h=>h c1)]
  by_cases c2:7 < r.Splits.length
  ·rw [if_pos (show (7:Int) < (r.Splits.length:Int) by omega),if_pos c2]
  ·rw [if_neg (show ¬ (7:Int) < (r.Splits.length:Int) by omega),if_neg c2]
   by_cases c3:4 < r.Clocks.length
   ·rw [if_pos (show (4:Int) < (r.Clocks.length:Int) by omega),if_pos c3]
   ·rw [if_neg (show ¬ (4:Int) < (r.Clocks.length:Int) by omega),if_neg c3]
    by_cases c4:40 < r.Readings.length
    ·rw [if_pos (show (40:Int) < (r.Readings.length:Int) by omega),if_pos c4]
    ·rw [if_neg (show ¬ (40:Int) < (r.Readings.length:Int) by omega),if_neg c4]
     rw [wKL (p:=stP) (fun a _=>by unfold wCb;rw [wDs];rfl) (by omega),hD]
     rw [wJV (p:=spP) (fun a _=>by unfold wCd;rw [wHI];rfl) (by omega),hD]
     rw [wIX (p:=ckP) (fun a _=>by
      unfold wCe ckP
      rw [wHI,hD,wDs,hD]
      cases wKn a.Offset (-36000) 36000
      ·rw [if_neg (by simp)];rfl
      ·rw [if_pos rfl];rfl) (by omega),hD]
     rw [wFh (p:=rtP) (fun a _=>by unfold wCf;rw [wDs];rfl) (by omega),hD]
     rw [wFh (p:=ruP r) (fun a _=>by
      unfold wCg ruP
      rw [wLm S,hD,wAT (by omega) (by omega),wDs,hD]
      simp only
      cases inB a.Skier 0 ((r.Starts.length:Int) - 1)
      ·rw [if_neg (by simp)];rfl
      ·cases inB a.Mat 0 (r.Splits.length:Int)
       ·rw [if_neg (by simp)];rfl
       ·simp) (by omega),hD]
     split
     ·split
      ·split
       ·split
        ·split <;> rfl
        ·rfl
       ·rfl
      ·rfl
     ·rfl
 ·have e1:inB (r.Starts.length:Int) 1 8=false:=by unfold inB;rw [decide_eq_false_iff_not];omega
  rw [e1,if_neg (by simp),if_pos c1]
end Go.Proofs.Ytlnfbjphfoipaaa
namespace Go.Proofs.Ytlnfbjphfoipaaa
open Go.KL Go.KL.Net
open Classical
def spotB (r:wAC) (s:wAS):Bool:=inB s.Skier 0 ((r.Starts.length:Int) - 1) && inB s.Mat 0 r.Splits.length
noncomputable def wJW (r:wAC) (l:List wAS):Int:=if code r=0 then (if l.all (spotB r)=true then (if ∃ y,wCq r y then 0 else 7) else 1) else code r
theorem wGN {r:wAC} (S:wEV r):(code r ≠ 0/\wBv r=some (none,code r)) \/ (code r=0/\∃ d pts,wBv r=some (some d,0)/\Desk r d pts):=by
 unfold wBv
 rw [wFv S,hD]
 by_cases c:code r=0
 ·right
  obtain ⟨d,pts,e,D⟩:=wIB (wGc c)
  refine ⟨c,d,pts,?_,D⟩
  rw [if_pos c,e];rfl
 ·left
  exact ⟨c,if_neg c⟩
end Go.Proofs.Ytlnfbjphfoipaaa
namespace Go.Proofs.Ytlnfbjphfoipaaa
open Go.KL Go.KL.Net
open Classical
section
variable {r:wAC} {d:wAW} {pts:List Pt} (D:Desk r d pts)
include D
theorem Desk.holds:∃ b,wAe d=some b/\(b=true ↔ ∃ y,wCq r y):=by
 obtain ⟨f,last,ok,e,_,_,h,_⟩:=D.any
 refine ⟨ok,?_,h⟩
 unfold wAe
 rw [e];rfl
end
end Go.Proofs.Ytlnfbjphfoipaaa
namespace Go.Proofs.Ytlnfbjphfoipaaa
open Go.KL Go.KL.Net
open Classical
theorem wJX {S:Type} {body:Nat->S->Option S} {n:Nat} {s0:S} (I:Nat->S->Prop) (hn:n <= 1000) (h0:I 0 s0) (h:∀ i s,i < n->I i s->∃ s',body i s=some s'/\I (i + 1) s'):∃ s,wBY 0 (n:Int) body s0=some s/\I n s:=by
 rw [wCv (by omega)]
 have:=wDW (body:=body) I n 0 s0 h0 fun i s _ h2 h3=>h i s (by omega) h3
 rwa [nK] at this
end Go.Proofs.Ytlnfbjphfoipaaa
namespace Go.Proofs.Ytlnfbjphfoipaaa
open Go.KL Go.KL.Net
open Classical
def yT (T:List (List Int)) (O:List Int) (p:Pt):Int:=if p.skier=-1 then (if p.mat=0 then 0 else -gd O (p.mat - 1).toNat) else gd (gd T p.skier.toNat) p.mat.toNat
theorem wKM (T:List (List Int)) (O:List Int):yT T O zp=0:=rfl
theorem wEf (T:List (List Int)) (O:List Int) {s k:Int} (h:0 <= s):yT T O ⟨s,k⟩=gd (gd T s.toNat) k.toNat:=if_neg (by simp only;omega)
theorem wFi (T:List (List Int)) (O:List Int) {k:Int} (h:0 <= k):yT T O ⟨-1,1 + k⟩=-gd O k.toNat:=by
 unfold yT
 rw [if_pos rfl,if_neg (by simp only;omega),show (1 + k - 1)=k by omega]
structure wMp (r:wAC) (T:List (List Int)) (O:List Int):Prop where
 t:T.length=r.Starts.length
 l:∀ k,k < r.Starts.length->(gd T k).length=r.Splits.length + 1
 o:O.length=r.Clocks.length
def wML (r:wAC) (T:List (List Int)) (k:Nat):Bool:=decide (gd (gd T k) 0=gd r.Starts k) && wKZ (fun j=>inB (gd (gd T k) (j + 1) - gd (gd T k) j) (gd r.Splits j).Lo (gd r.Splits j).Hi) r.Splits.length 0
def wMq (r:wAC) (O:List Int) (k:Nat):Bool:=inB (gd O k) (gd r.Clocks k).Offset.Lo (gd r.Clocks k).Offset.Hi
def wMr (r:wAC) (T:List (List Int)) (O:List Int) (k:Nat):Bool :=
 inB ((gd r.Readings k).Time - gd (gd T (gd r.Readings k).Skier.toNat) (gd r.Readings k).Mat.toNat - gd O (gd r.Readings k).Clock.toNat) (-(gd r.Clocks (gd r.Readings k).Clock.toNat).Error) (gd r.Clocks (gd r.Readings k).Clock.toNat).Error
theorem wJH {r:wAC} (C:RC r) {T:List (List Int)} {O:List Int}:wCq r (yT T O) ↔ wKZ (wML r T) r.Starts.length 0=true/\wKZ (wMq r O) r.Clocks.length 0=true/\wKZ (wMr r T O) r.Readings.length 0=true:=by
 simp only [wCE]
 constructor
 ·intro F
  refine ⟨fun k _ hk=>?_,fun k _ hk=>?_,fun k _ hk=>?_⟩
  ·have h0:=fp0 F (s:=(k:Int)) (by omega) (by omega)
   rw [wEf _ _ (by omega),wKM,nE,Int.zero_add] at h0
   unfold wML
   rw [nJ]
   refine ⟨decide_eq_true h0,(wCE _ _ _).2 fun j _ hj=>?_⟩
   have h1:=fp1 F (s:=(k:Int)) (k:=(j:Int)) (by omega) (by omega) (by omega) (by omega)
   rw [wEf _ _ (by omega),wEf _ _ (by omega),nE,nE,show ((j:Int) + 1).toNat=j + 1 by omega] at h1
   unfold inB
   rw [decide_eq_true_eq]
   omega
  ·have h:=fp2 F (k:=(k:Int)) (by omega) (by omega)
   rw [wFi _ _ (by omega),wKM,nE] at h
   unfold wMq inB
   rw [decide_eq_true_eq]
   omega
  ·have u:=C.ru _ (wBo (show k < r.Readings.length by omega))
   have a:yT T O ⟨(gd r.Readings k).Skier,(gd r.Readings k).Mat⟩ <= yT T O ⟨-1,1 + (gd r.Readings k).Clock⟩ + ((gd r.Readings k).Time + (gd r.Clocks (gd r.Readings k).Clock.toNat).Error):=F ⟨3,0,(k:Int),true⟩ (.inr (.inr (.inr ⟨rfl,rfl,by simp only;omega,by simp only;omega⟩)))
   have b:yT T O ⟨-1,1 + (gd r.Readings k).Clock⟩ <= yT T O ⟨(gd r.Readings k).Skier,(gd r.Readings k).Mat⟩ + ((gd r.Clocks (gd r.Readings k).Clock.toNat).Error - (gd r.Readings k).Time):=F ⟨3,0,(k:Int),false⟩ (.inr (.inr (.inr ⟨rfl,rfl,by simp only;omega,by simp only;omega⟩)))
   rw [wEf _ _ u.1,wFi _ _ u.2.2.2.2.1] at a b
   unfold wMr inB
   rw [decide_eq_true_eq]
   omega
 ·rintro ⟨h1,h2,h3⟩ x hx
  have key:yT T O (wDw r x).2.1 <= yT T O (wDw r x).1 + (wDw r x).2.2.1/\yT T O (wDw r x).1 <= yT T O (wDw r x).2.1 + (wDw r x).2.2.2:=by
   unfold wDw
   rcases hx with ⟨k,a,b,c⟩ | ⟨k,a,b,c,d⟩ | ⟨k,a,c,d⟩ | ⟨k,a,c,d⟩
   ·have h:=h1 x.Skier.toNat (by omega) (by omega)
    unfold wML at h
    rw [nJ,decide_eq_true_eq] at h
    rw [if_pos k]
    simp only
    rw [wEf _ _ a,wKM,Int.toNat_zero,h.1]
    omega
   ·have h:=h1 x.Skier.toNat (by omega) (by omega)
    unfold wML at h
    rw [nJ] at h
    have g:=(wCE _ _ _).1 h.2 x.Index.toNat (by omega) (by omega)
    unfold inB at g
    rw [decide_eq_true_eq] at g
    rw [if_neg (by omega),if_pos k]
    simp only
    rw [wEf _ _ a,wEf _ _ a,show (x.Index + 1).toNat=x.Index.toNat + 1 by omega]
    omega
   ·have h:=h2 x.Index.toNat (by omega) (by omega)
    unfold wMq inB at h
    rw [decide_eq_true_eq] at h
    rw [if_neg (by omega),if_neg (by omega),if_pos k]
    simp only
    rw [wFi _ _ c,wKM]
    omega
   ·have h:=h3 x.Index.toNat (by omega) (by omega)
    unfold wMr inB at h
    rw [decide_eq_true_eq] at h
    have u:=C.ru _ (wCp c d)
    rw [if_neg (by omega),if_neg (by omega),if_neg (by omega)]
    simp only
    rw [wEf _ _ u.1,wFi _ _ u.2.2.2.2.1]
    omega
  unfold wCS
  split
  ·exact key.1
  ·exact key.2
def smlR (T:List (List Int)) (k:Nat):Bool:=wKZ (fun j=>inB (gd (gd T k) j) (-100000000) 100000000) (gd T k).length 0
def smlO (O:List Int) (k:Nat):Bool:=inB (gd O k) (-100000000) 100000000
end Go.Proofs.Ytlnfbjphfoipaaa
namespace Go.Proofs.Ytlnfbjphfoipaaa
open Go.KL
theorem wKN {a b:Int} (h0:0 <= a) (hb:0 < b):∃ x,rem a b=some x/\0 <= x/\x < b:=by
 refine ⟨a.tmod b,if_neg (by omega),?_,?_⟩
 ·rw [nl h0];exact Int.emod_nonneg _ (by omega)
 ·rw [nl h0];exact Int.emod_lt_of_pos _ hb
theorem wIY (x:Int):0 <= wEm x:=by unfold wEm;omega
theorem wLn (x:Int):wEm x < 4294967296:=by unfold wEm;omega
theorem w64u (x:Int):w64 (wEm x)=wEm x:=by
 have:=wIY x
 have:=wLn x
 exact wAT (by omega) (by omega)
theorem wKo (a:Int) {b:Int} (hb:b ≠ 0):∃ x,quo a b=some x:=⟨_,if_neg hb⟩
theorem wDL (d:wAH) (n:Int) (h0:0 <= d.next) (h1:d.next <= 1000000):∃ x d',wAL d n=some (x,d')/\0 <= d'.next/\d'.next <= d.next + 1/\0 <= x/\(x < n \/ (n <= 1/\x=0)):=by
 unfold wAL
 by_cases hn:n <= 1
 ·exact ⟨0,d,by rw [if_pos hn],h0,by omega,by omega,.inr ⟨hn,rfl⟩⟩
 rw [if_neg hn]
 by_cases hl:(d.bytes.length:Int)=0
 ·exact ⟨0,d,by rw [if_pos hl],h0,by omega,by omega,.inl (by omega)⟩
 rw [if_neg hl]
 obtain ⟨r,e1,r0,r1⟩:=wKN h0 (show (0:Int) < d.bytes.length by omega)
 obtain ⟨b,e2⟩:∃ b,idx d.bytes r=some b:=by
  unfold idx
  rw [if_pos r0,nQ (by omega)]
  exact ⟨_,rfl⟩
 obtain ⟨q,e3⟩:=wKo d.next (b:=d.bytes.length) hl
 obtain ⟨st,e4,_,_⟩:=wKN (wIY ((wEm ((wEm ((wEm (d.state * 45)) + (wEm b))) + (wEm (77 * (wEm q))))) + 1)) (b:=65519) (by decide)
 rw [e1,hD,e2,hD,e3,hD,e4,hD,wAT (x:=d.next + 1) (by omega) (by omega)]
 have fin:∀ z:Int,∃ x d',((rem (w64 (wEm z)) n).bind fun x=>some (x,(⟨d.bytes,d.next + 1,st⟩:wAH)))=some (x,d')/\0 <= d'.next/\d'.next <= d.next + 1/\0 <= x/\(x < n \/ (n <= 1/\x=0)):=by
  intro z
  obtain ⟨x,e5,x0,x1⟩:=wKN (a:=w64 (wEm z)) (b:=n) (by rw [w64u];exact wIY z) (by omega)
  exact ⟨x,_,by rw [e5];rfl,by show 0 <= d.next + 1;omega,by show d.next + 1 <= _;omega,x0,.inl x1⟩
 by_cases c1:wEm q=0
 ·rw [if_pos c1]
  by_cases c2:n <= 256
  ·rw [if_pos c2];exact fin _
  ·rw [if_neg c2];exact fin _
 ·rw [if_neg c1];exact fin _
theorem wEg (d:wAH) (a b:Int) (h0:0 <= d.next) (h1:d.next <= 1000000) (ha:-1000000 <= a) (hab:a <= b) (hb:b <= 1000000):∃ x d',wAO d a b=some (x,d')/\0 <= d'.next/\d'.next <= d.next + 1/\a <= x/\x <= b:=by
 unfold wAO
 rw [wAT (x:=b - a) (by omega) (by omega),wAT (x:=b - a + 1) (by omega) (by omega)]
 obtain ⟨x,d',e,n0,n1,x0,x1⟩:=wDL d (b - a + 1) h0 h1
 refine ⟨a + x,d',?_,n0,n1,by omega,by omega⟩
 rw [e,hD]
 simp only
 rw [wAT (by omega) (by omega)]
end Go.Proofs.Ytlnfbjphfoipaaa
namespace Go.Proofs.Ytlnfbjphfoipaaa
open Go.KL Go.KL.Net
open Classical
theorem wKO {r:wAC} (C:RC r):code r=0:=by
 unfold code
 rw [if_neg (fun h=>h C.n),if_neg (by have:=C.m;omega),if_neg (by have:=C.c;omega),if_neg (by have:=C.q;omega),if_pos (nN.2 fun s hs=>by
  have:=C.st s hs
  unfold stP inB
  rw [decide_eq_true_eq];omega),if_pos (nN.2 fun s hs=>by
  have:=C.sp s hs
  unfold spP wKn
  rw [decide_eq_true_eq];omega),if_pos (nN.2 fun s hs=>by
  have:=C.ck s hs
  unfold ckP wKn inB
  rw [nJ,decide_eq_true_eq,decide_eq_true_eq];omega),if_pos (nN.2 fun s hs=>by
  have:=C.rt s hs
  unfold rtP inB
  rw [decide_eq_true_eq];omega),if_pos (nN.2 fun s hs=>by
  have:=C.ru s hs
  unfold ruP inB
  rw [nJ,nJ,decide_eq_true_eq,decide_eq_true_eq,decide_eq_true_eq];omega)]
theorem wDd {S:Type} {body:Nat->S->Option S} {n:Nat} {s0:S} (I:Nat->S->Prop) (hn:n <= 1000) (h0:I 0 s0) (h:∀ i s,i < n->I i s->∃ s',body i s=some s'/\I (i + 1) s'):∃ s,wBY 0 (n:Int) body s0=some s/\I n s:=by
 rw [wCv (by omega)]
 have:=wDW (body:=body) I n 0 s0 h0 fun i s _ h2 h3=>h i s (by omega) h3
 rwa [nK] at this
theorem wHW {α:Type} {l:List α} {a:α} {P:α->Prop} (h:∀ x ∈ l,P x) (ha:P a):∀ x ∈ l ++ [a],P x:=fun x hx=>by
 rcases nP.1 hx with h1 | h1
 ·exact h x h1
 ·rw [nH.1 h1];exact ha
def m1B:Nat->List Int × Int × Int × List Int->Option (List Int × Int × Int × List Int):=fun k62 (l53,x56,x57,l58) =>
  (wAL (⟨l53,x56,x57⟩:wAH) 4).bind fun (x142,x143) =>
  (wAL x143 3).bind fun (x156,x157) =>
  (app 8 l58 [w64 ((w64 (300 * x142)) + x156)]).bind fun x175 =>
  some (x157.bytes,x157.next,x157.state,x175)
def m2B:Nat->List Int × Int × Int × List wAK->Option (List Int × Int × Int × List wAK):=fun k274 (l265,x268,x269,l270) =>
  (wAO (⟨l265,x268,x269⟩:wAH) 3 9).bind fun (x305,x306) =>
  (wAL x306 30).bind fun (x353,x354) =>
  (app 16 l270 [(⟨w64 (100 * x305),w64 ((w64 (100 * x305)) + (w64 (10 * x353)))⟩:wAK)]).bind fun x372 =>
  some (x354.bytes,x354.next,x354.state,x372)
def m3I (y282:List wAK):Nat->List Int × Int × Int × Int × List Int->Option (List Int × Int × Int × Int × List Int):=fun k541 (l532,x535,x536,x537,l538) =>
      (chk (↑k541:Int) y282.length).bind fun _ =>
      (wAO (⟨l532,x535,x536⟩:wAH) ((gd y282 k541).Lo) ((gd y282 k541).Hi)).bind fun (x589,x590) =>
      (app 8 l538 [w64 (x537 + x589)]).bind fun x609 =>
      some (x590.bytes,x590.next,x590.state,w64 (x537 + x589),x609)
def m3B (y70:List Int) (y282:List wAK):Nat->List Int × Int × Int × List (List Int)->Option (List Int × Int × Int × List (List Int)):=fun k460 (l450,x453,x454,l455) =>
  (chk (↑k460:Int) y70.length).bind fun _ =>
  (wBY 0 (↑y282.length:Int) (m3I y282) (l450,x453,x454,(gd y70 k460),[(gd y70 k460)])).bind fun (y546,y547,y548,y549,y550) =>
  (app 24 l455 [y550]).bind fun x672 =>
  some (y546,y547,y548,x672)
def m4B:Nat->List Int × Int × Int × List wAM × List Int->Option (List Int × Int × Int × List wAM × List Int):=fun k792 (l779,x782,x783,l784,l788) =>
  (wAO (⟨l779,x782,x783⟩:wAH) (-60) 20).bind fun (x826,x827) =>
  (wAL x827 50).bind fun (x840,x841) =>
  (wAL x841 6).bind fun (x854,x855) =>
  (app 24 l784 [(⟨(⟨x826,w64 (x826 + x840)⟩:wAK),x854⟩:wAM)]).bind fun x880 =>
  (wAO x855 x826 (w64 (x826 + x840))).bind fun (x888,x889) =>
  (app 8 l788 [x888]).bind fun x908 =>
  some (x889.bytes,x889.next,x889.state,x880,x908)
def m5B (y70:List Int) (y282:List wAK) (y468:List (List Int)) (y800:List wAM) (y801:List Int):Nat->List Int × Int × Int × List wAI->Option (List Int × Int × Int × List wAI):=fun k1736 (l1727,x1730,x1731,l1732) =>
  ((wAL (⟨l1727,x1730,x1731⟩:wAH) (↑y70.length:Int)).bind fun (x1833,x1834) =>
  (wAL x1834 (w64 ((↑y282.length:Int) + 1))).bind fun (x1847,x1848) =>
  (wAL x1848 (↑y800.length:Int)).bind fun (x1861,x1862) =>
  some (x1862.bytes,x1862.next,x1862.state,x1833,x1847,x1861)).bind fun (l1767,x1770,x1771,x1774,x1775,x1776) =>
  (chk x1776 y800.length).bind fun _ =>
  (idx y468 x1774).bind fun x2140 =>
  (idx x2140 x1775).bind fun x2156 =>
  (chk x1776 y801.length).bind fun _ =>
  (wAO (⟨l1767,x1770,x1771⟩:wAH) (w64 (-((gd y800 x1776.toNat).Error))) ((gd y800 x1776.toNat).Error)).bind fun (x2171,x2172) =>
  if (w64 (-((gd y800 x1776.toNat).Error))) <= (w64 ((w64 ((max 0 (w64 ((w64 (x2156 + (gd y801 x1776.toNat))) + x2171))) - x2156)) - (gd y801 x1776.toNat))) then
   if (w64 ((w64 ((max 0 (w64 ((w64 (x2156 + (gd y801 x1776.toNat))) + x2171))) - x2156)) - (gd y801 x1776.toNat))) <= ((gd y800 x1776.toNat).Error) then
    (app 32 l1732 [(⟨x1774,x1775,x1776,max 0 (w64 ((w64 (x2156 + (gd y801 x1776.toNat))) + x2171))⟩:wAI)]).bind fun x2225 =>
    some (x2172.bytes,x2172.next,x2172.state,x2225)
   else
    some (x2172.bytes,x2172.next,x2172.state,l1732)
  else
   some (x2172.bytes,x2172.next,x2172.state,l1732)
theorem wIZ (p0:wAH) (p1 p2 p3:Int):wBb p0 p1 p2 p3=(wAO p0 1 p1).bind fun (x10,x11) =>
 (wBY 0 x10 m1B (x11.bytes,x11.next,x11.state,[])).bind fun (y67,y68,y69,y70) =>
 (wAL (⟨y67,y68,y69⟩:wAH) p2).bind fun (x223,x224) =>
 (wBY 0 x223 m2B (x224.bytes,x224.next,x224.state,[])).bind fun (y279,y280,y281,y282) =>
 (wBY 0 (↑y70.length:Int) (m3B y70 y282) (y279,y280,y281,[])).bind fun (y465,y466,y467,y468) =>
 (wAO (⟨y465,y466,y467⟩:wAH) 1 3).bind fun (x726,x727) =>
 (wBY 0 x726 m4B (x727.bytes,x727.next,x727.state,[],[])).bind fun (y797,y798,y799,y800,y801) =>
 (wAL (⟨y797,y798,y799⟩:wAH) (w64 (p3 + 1))).bind fun (x1667,x1668) =>
 (wBY 0 x1667 (m5B y70 y282 y468 y800 y801) (x1668.bytes,x1668.next,x1668.state,[])).bind fun (y1741,y1742,y1743,y1744) =>
 some ((⟨y70,y282,y800,y1744⟩:wAC),y468,y801,(⟨y1741,y1742,y1743⟩:wAH)):=rfl
def M1 (n:Int) (k:Nat) (s:List Int × Int × Int × List Int):Prop:=0 <= s.2.1/\s.2.1 <= n + 2 * (k:Int)/\s.2.2.2.length=k/\∀ x ∈ s.2.2.2,0 <= x/\x <= 902
theorem wLo {n:Int} (n0:0 <= n) (n1:n <= 1000) {k:Nat} (hk:k < 10) {s:List Int × Int × Int × List Int} (I:M1 n k s):∃ s',m1B k s=some s'/\M1 n (k + 1) s':=by
 obtain ⟨b,nx,st,l⟩:=s
 obtain ⟨i0,i1,hl,he⟩:=I
 simp only at i0 i1 hl he
 unfold m1B
 simp only
 obtain ⟨x,d1,e1,p0,p1,x0,x1⟩:=wDL ⟨b,nx,st⟩ 4 i0 (by simp only;omega)
 obtain ⟨y,d2,e2,q0,q1,y0,y1⟩:=wDL d1 3 p0 (by simp only at p1;omega)
 simp only at p1
 rw [e1,hD]
 simp only
 rw [e2,hD]
 simp only
 rw [wAT (x:=300 * x) (by omega) (by omega),wAT (by omega) (by omega),wCx (by simp only [hH,hJ];omega),hD]
 exact ⟨_,rfl,q0,by simp only;omega,by simp [hl],wHW he (by omega)⟩
def M2 (n:Int) (k:Nat) (s:List Int × Int × Int × List wAK):Prop:=0 <= s.2.1/\s.2.1 <= n + 2 * (k:Int)/\s.2.2.2.length=k/\∀ x ∈ s.2.2.2,300 <= x.Lo/\x.Lo <= x.Hi/\x.Hi <= 1190
theorem wLp {n:Int} (n0:0 <= n) (n1:n <= 1000) {k:Nat} (hk:k < 10) {s:List Int × Int × Int × List wAK} (I:M2 n k s):∃ s',m2B k s=some s'/\M2 n (k + 1) s':=by
 obtain ⟨b,nx,st,l⟩:=s
 obtain ⟨i0,i1,hl,he⟩:=I
 simp only at i0 i1 hl he
 unfold m2B
 simp only
 obtain ⟨x,d1,e1,p0,p1,x0,x1⟩:=wEg ⟨b,nx,st⟩ 3 9 i0 (by simp only;omega) (by omega) (by omega) (by omega)
 simp only at p1
 obtain ⟨y,d2,e2,q0,q1,y0,y1⟩:=wDL d1 30 p0 (by omega)
 rw [e1,hD]
 simp only
 rw [e2,hD]
 simp only
 rw [wAT (x:=100 * x) (by omega) (by omega),wAT (x:=10 * y) (by omega) (by omega),wAT (by omega) (by omega),wCx (by simp only [hH,hJ];omega),hD]
 exact ⟨_,rfl,q0,by simp only;omega,by simp [hl],wHW he (by simp only;omega)⟩
structure RowI (sp:List wAK) (s0:Int) (j:Nat) (l:List Int):Prop where
 len:l.length=j + 1
 z:gd l 0=s0
 d:∀ i,i < j->(gd sp i).Lo <= gd l (i + 1) - gd l i/\gd l (i + 1) - gd l i <= (gd sp i).Hi
 b:∀ i,i < j + 1->0 <= gd l i/\gd l i <= 902 + 1190 * (i:Int)
def M3 (sp:List wAK) (s0 n:Int) (k:Nat) (s:List Int × Int × Int × Int × List Int):Prop:=0 <= s.2.1/\s.2.1 <= n + (k:Int)/\s.2.2.2.1=gd s.2.2.2.2 k/\RowI sp s0 k s.2.2.2.2
theorem wLq {sp:List wAK} (hsp:∀ x ∈ sp,300 <= x.Lo/\x.Lo <= x.Hi/\x.Hi <= 1190) {s0 n:Int} (n0:0 <= n) (n1:n <= 1000) {k:Nat} (hk:k < sp.length) (hk2:k < 10) {s:List Int × Int × Int × Int × List Int} (I:M3 sp s0 n k s):∃ s',m3I sp k s=some s'/\M3 sp s0 n (k + 1) s':=by
 obtain ⟨b,nx,st,t,l⟩:=s
 obtain ⟨i0,i1,ht,R⟩:=I
 simp only at i0 i1 ht R
 have hs:=hsp _ (wBo hk)
 have hb:=R.b k (by omega)
 have hl:=R.len
 unfold m3I
 simp only
 obtain ⟨x,d1,e1,p0,p1,x0,x1⟩:=wEg ⟨b,nx,st⟩ (gd sp k).Lo (gd sp k).Hi i0 (by simp only;omega) (by omega) (by omega) (by omega)
 simp only at p1
 rw [wDX (by omega) (by omega),hD,e1,hD]
 simp only
 rw [wAT (x:=t + x) (by omega) (by omega),wCx (by simp only [hH,hJ];omega),hD]
 have gk:gd (l ++ [t + x]) (k + 1)=t + x:=by rw [<- hl,wGK]
 refine ⟨_,rfl,p0,by simp only;omega,gk.symm,by simp [hl],?_,fun i hi=>?_,fun i hi=>?_⟩
 ·simp only
  rw [wDk (by omega)];exact R.z
 ·simp only
  by_cases c:i=k
  ·rw [c,gk,wDk (by omega)]
   omega
  ·rw [wDk (by omega),wDk (by omega)]
   exact R.d i (by omega)
 ·simp only
  by_cases c:i=k + 1
  ·rw [c,gk];omega
  ·rw [wDk (by omega)]
   exact R.b i (by omega)
def M3o (st:List Int) (sp:List wAK) (n:Int) (k:Nat) (s:List Int × Int × Int × List (List Int)):Prop:=0 <= s.2.1/\s.2.1 <= n + 10 * (k:Int)/\s.2.2.2.length=k/\∀ i,i < k->RowI sp (gd st i) sp.length (gd s.2.2.2 i)
theorem wKp {st:List Int} (hst:∀ x ∈ st,0 <= x/\x <= 902) {sp:List wAK} (hl:sp.length <= 9) (hsp:∀ x ∈ sp,300 <= x.Lo/\x.Lo <= x.Hi/\x.Hi <= 1190) {n:Int} (n0:0 <= n) (n1:n <= 800) {k:Nat} (hk:k < st.length) (hk2:k < 10) {s:List Int × Int × Int × List (List Int)} (I:M3o st sp n k s):∃ s',m3B st sp k s=some s'/\M3o st sp n (k + 1) s':=by
 obtain ⟨b,nx,se,l⟩:=s
 obtain ⟨i0,i1,hll,he⟩:=I
 simp only at i0 i1 hll he
 have hs:=hst _ (wBo hk)
 unfold m3B
 simp only
 obtain ⟨⟨b',nx',st',t',l'⟩,e,J0,J1,_,J⟩:=wDd (n:=sp.length) (body:=m3I sp) (s0:=(b,nx,se,gd st k,[gd st k])) (M3 sp (gd st k) nx) (by omega) ⟨i0,by simp only;omega,rfl,rfl,rfl,(fun i hi=>by omega),fun i hi=>by
  obtain rfl:i=0:=by omega
  show 0 <= gd st k/\gd st k <= _
  omega⟩ fun i s hi I=>wLq hsp i0 (by omega) hi (by omega) I
 simp only at J0 J1 J
 rw [wDX (by omega) (by omega),hD,e,hD]
 simp only
 rw [wCx (by simp only [hH,hJ];omega),hD]
 refine ⟨_,rfl,J0,by simp only;omega,by simp [hll],fun i hi=>?_⟩
 simp only
 by_cases c:i=k
 ·rw [c,show gd (l ++ [l']) k=l' by rw [<- hll,wGK]]
  exact J
 ·rw [wDk (by omega)]
  exact he i (by omega)
def ClkI (c:wAM) (o:Int):Prop:=-60 <= c.Offset.Lo/\c.Offset.Lo <= c.Offset.Hi/\c.Offset.Hi <= 70/\0 <= c.Error/\c.Error <= 5/\c.Offset.Lo <= o/\o <= c.Offset.Hi
def M4 (n:Int) (k:Nat) (s:List Int × Int × Int × List wAM × List Int):Prop:=0 <= s.2.1/\s.2.1 <= n + 4 * (k:Int)/\s.2.2.2.1.length=k/\s.2.2.2.2.length=k/\∀ i,i < k->ClkI (gd s.2.2.2.1 i) (gd s.2.2.2.2 i)
theorem wLr {n:Int} (n0:0 <= n) (n1:n <= 1000) {k:Nat} (hk:k < 10) {s:List Int × Int × Int × List wAM × List Int} (I:M4 n k s):∃ s',m4B k s=some s'/\M4 n (k + 1) s':=by
 obtain ⟨b,nx,st,l,o⟩:=s
 obtain ⟨i0,i1,hl,ho,he⟩:=I
 simp only at i0 i1 hl ho he
 unfold m4B
 simp only
 obtain ⟨a,d1,e1,p0,p1,a0,a1⟩:=wEg ⟨b,nx,st⟩ (-60) 20 i0 (by simp only;omega) (by omega) (by omega) (by omega)
 simp only at p1
 obtain ⟨y,d2,e2,q0,q1,y0,y1⟩:=wDL d1 50 p0 (by omega)
 obtain ⟨z,d3,e3,r0,r1,z0,z1⟩:=wDL d2 6 q0 (by omega)
 obtain ⟨v,d4,e4,s0,s1,v0,v1⟩:=wEg d3 a (a + y) r0 (by omega) (by omega) (by omega) (by omega)
 rw [e1,hD]
 simp only
 rw [e2,hD]
 simp only
 rw [e3,hD]
 simp only
 rw [wAT (x:=a + y) (by omega) (by omega),wCx (by simp only [hH,hJ];omega),hD,e4,hD]
 simp only
 rw [wCx (by simp only [hH,hJ];omega),hD]
 refine ⟨_,rfl,s0,by simp only;omega,by simp [hl],by simp [ho],fun i hi=>?_⟩
 simp only
 by_cases c:i=k
 ·have h1:gd (l ++ [(⟨⟨a,a + y⟩,z⟩:wAM)]) i=⟨⟨a,a + y⟩,z⟩:=by rw [c,<- hl,wGK]
  have h2:gd (o ++ [v]) i=v:=by rw [c,<- ho,wGK]
  rw [h1,h2]
  unfold ClkI
  simp only
  omega
 ·rw [wDk (by omega),wDk (by omega)]
  exact he i (by omega)
def RdI (n m c:Nat) (T:List (List Int)) (C:List wAM) (O:List Int) (x:wAI):Prop :=
 (0 <= x.Skier/\x.Skier < n/\0 <= x.Mat/\x.Mat <= m/\0 <= x.Clock/\x.Clock < c)/\0 <= x.Time/\x.Time <= 100000/\-(gd C x.Clock.toNat).Error <= x.Time - gd (gd T x.Skier.toNat) x.Mat.toNat - gd O x.Clock.toNat/\x.Time - gd (gd T x.Skier.toNat) x.Mat.toNat - gd O x.Clock.toNat <= (gd C x.Clock.toNat).Error
def M5 (st:List Int) (sp:List wAK) (T:List (List Int)) (C:List wAM) (O:List Int) (n:Int) (k:Nat) (s:List Int × Int × Int × List wAI):Prop:=0 <= s.2.1/\s.2.1 <= n + 4 * (k:Int)/\s.2.2.2.length <= k/\∀ x ∈ s.2.2.2,RdI st.length sp.length C.length T C O x
theorem wLs {st:List Int} {sp:List wAK} {T:List (List Int)} {C:List wAM} {O:List Int} (h1:1 <= st.length) (h2:st.length <= 10) (h3:sp.length <= 9) (hT:T.length=st.length) (hR:∀ i,i < st.length->RowI sp (gd st i) sp.length (gd T i)) (c1:1 <= C.length) (c2:C.length <= 10) (hO:O.length=C.length) (hC:∀ i,i < C.length->ClkI (gd C i) (gd O i)) {n:Int} (n0:0 <= n) (n1:n <= 1000) {k:Nat} (hk:k < 50) {s:List Int × Int × Int × List wAI} (I:M5 st sp T C O n k s):∃ s',m5B st sp T C O k s=some s'/\M5 st sp T C O n (k + 1) s':=by
 obtain ⟨b,nx,se,l⟩:=s
 obtain ⟨i0,i1,hl,he⟩:=I
 simp only at i0 i1 hl he
 unfold m5B
 simp only
 obtain ⟨x,d1,e1,p0,p1,x0,x1⟩:=wDL ⟨b,nx,se⟩ (st.length:Int) i0 (by simp only;omega)
 simp only at p1
 obtain ⟨y,d2,e2,q0,q1,y0,y1⟩:=wDL d1 ((sp.length:Int) + 1) p0 (by omega)
 obtain ⟨z,d3,e3,r0,r1,z0,z1⟩:=wDL d2 (C.length:Int) q0 (by omega)
 have hx:x.toNat < st.length:=by omega
 have hz:z.toNat < C.length:=by omega
 obtain ⟨K1,K2,K3,K4,K5,K6,K7⟩:=hC z.toNat hz
 have R:=hR x.toNat hx
 have hb:=R.b y.toNat (by omega)
 have hlen:=R.len
 obtain ⟨v,d4,e4,s0,s1,v0,v1⟩:=wEg d3 (-(gd C z.toNat).Error) (gd C z.toNat).Error r0 (by omega) (by omega) (by omega) (by omega)
 rw [e1,hD]
 simp only
 rw [wAT (x:=(sp.length:Int) + 1) (by omega) (by omega),e2,hD]
 simp only
 rw [e3,hD,hD]
 simp only
 rw [wDX (by omega) (by omega),hD,wED x0 (by omega),hD,wED y0 (by omega),hD,wDX (by omega) (by omega),hD,wAT (x:=-(gd C z.toNat).Error) (by omega) (by omega),show (⟨d3.bytes,d3.next,d3.state⟩:wAH)=d3 from rfl,e4,hD]
 simp only
 rw [wAT (x:=gd (gd T x.toNat) y.toNat + gd O z.toNat) (by omega) (by omega),wAT (x:=gd (gd T x.toNat) y.toNat + gd O z.toNat + v) (by omega) (by omega),wAT (x:=max 0 (gd (gd T x.toNat) y.toNat + gd O z.toNat + v) - gd (gd T x.toNat) y.toNat) (by omega) (by omega),wAT (x:=_ - gd O z.toNat) (by omega) (by omega)]
 by_cases g1:-(gd C z.toNat).Error <= max 0 (gd (gd T x.toNat) y.toNat + gd O z.toNat + v) - gd (gd T x.toNat) y.toNat - gd O z.toNat
 ·rw [if_pos g1]
  by_cases g2:max 0 (gd (gd T x.toNat) y.toNat + gd O z.toNat + v) - gd (gd T x.toNat) y.toNat - gd O z.toNat <= (gd C z.toNat).Error
  ·rw [if_pos g2,wCx (by simp only [hH,hJ];omega),hD]
   refine ⟨_,rfl,s0,by simp only;omega,by simp;omega,wHW he ⟨?_,?_,?_,g1,g2⟩⟩
   ·simp only;omega
   ·simp only;omega
   ·simp only;omega
  ·rw [if_neg g2]
   exact ⟨_,rfl,s0,by simp only;omega,by simp only;omega,he⟩
 ·rw [if_neg g1]
  exact ⟨_,rfl,s0,by simp only;omega,by simp only;omega,he⟩
theorem wKq {d:wAH} (h0:d.next=0) {u w q:Int} (u1:1 <= u) (u2:u <= 8) (w1:1 <= w) (w2:w <= 8) (q0:0 <= q) (q1:q <= 40):∃ r T O d',wBb d u w q=some (r,T,O,d')/\RC r/\wMp r T O/\wCq r (yT T O)/\(∀ x ∈ r.Starts,x <= 902)/\(∀ x ∈ r.Clocks,-60 <= x.Offset.Lo/\x.Offset.Hi <= 70)/\(∀ x ∈ r.Readings,x.Time <= 100000)/\(∀ x ∈ r.Splits,300 <= x.Lo/\x.Hi <= 1190)/\1 <= r.Clocks.length/\(∀ x ∈ r.Clocks,x.Error <= 5)/\(r.Readings.length:Int) <= q:=by
 rw [wIZ]
 obtain ⟨x,d1,e1,m0,m1,x0,x1⟩:=wEg d 1 u (by omega) (by omega) (by omega) (by omega) (by omega)
 obtain ⟨n,rfl⟩:∃ n:Nat,x=n:=⟨x.toNat,by omega⟩
 obtain ⟨⟨b2,nx2,st2,S⟩,e2,a0,a1,hS,eS⟩:=wDd (n:=n) (body:=m1B) (s0:=(d1.bytes,d1.next,d1.state,[])) (M1 d1.next) (by omega) ⟨m0,by simp only;omega,rfl,by simp⟩ fun i s hi I=>wLo m0 (by omega) (by omega) I
 simp only at a0 a1 hS eS
 obtain ⟨y,d3,e3,b0,b1,y0,y1⟩:=wDL ⟨b2,nx2,st2⟩ w a0 (by simp only;omega)
 simp only at b1
 obtain ⟨m,rfl⟩:∃ n:Nat,y=n:=⟨y.toNat,by omega⟩
 obtain ⟨⟨b4,nx4,st4,P⟩,e4,c0,c1,hP,eP⟩:=wDd (n:=m) (body:=m2B) (s0:=(d3.bytes,d3.next,d3.state,[])) (M2 d3.next) (by omega) ⟨b0,by simp only;omega,rfl,by simp⟩ fun i s hi I=>wLp b0 (by omega) (by omega) I
 simp only at c0 c1 hP eP
 obtain ⟨⟨b5,nx5,st5,T⟩,e5,f0,f1,hT,eT⟩:=wDd (n:=S.length) (body:=m3B S P) (s0:=(b4,nx4,st4,[])) (M3o S P nx4) (by omega) ⟨c0,by simp only;omega,rfl,fun i hi=>by omega⟩ fun i s hi I=>wKp eS (by omega) eP c0 (by omega) hi (by omega) I
 simp only at f0 f1 hT eT
 obtain ⟨z,d6,e6,g0,g1,z0,z1⟩:=wEg ⟨b5,nx5,st5⟩ 1 3 f0 (by simp only;omega) (by omega) (by omega) (by omega)
 simp only at g1
 obtain ⟨c,rfl⟩:∃ n:Nat,z=n:=⟨z.toNat,by omega⟩
 obtain ⟨⟨b7,nx7,st7,C,O⟩,e7,k0,k1,hC,hO,eC⟩:=wDd (n:=c) (body:=m4B) (s0:=(d6.bytes,d6.next,d6.state,[],[])) (M4 d6.next) (by omega) ⟨g0,by simp only;omega,rfl,rfl,fun i hi=>by omega⟩ fun i s hi I=>wLr g0 (by omega) (by omega) I
 simp only at k0 k1 hC hO eC
 obtain ⟨v,d8,e8,l0,l1,v0,v1⟩:=wDL ⟨b7,nx7,st7⟩ (q + 1) k0 (by simp only;omega)
 simp only at l1
 obtain ⟨h,rfl⟩:∃ n:Nat,v=n:=⟨v.toNat,by omega⟩
 have hTl:T.length=S.length:=by omega
 obtain ⟨⟨b9,nx9,st9,R⟩,e9,_,_,hR,eR⟩:=wDd (n:=h) (body:=m5B S P T C O) (s0:=(d8.bytes,d8.next,d8.state,[])) (M5 S P T C O d8.next) (by omega) ⟨l0,by simp only;omega,nA _,by simp⟩ fun i s hi I=>wLs (by omega) (by omega) (by omega) hTl (fun i hi=>eT i (by omega)) (by omega) (by omega) (by omega) (fun i hi=>eC i (by omega)) l0 (by omega) (by omega) I
 simp only at hR eR
 rw [e1,hD]
 simp only
 rw [e2,hD]
 simp only
 rw [e3,hD]
 simp only
 rw [e4,hD]
 simp only
 rw [e5,hD]
 simp only
 rw [e6,hD]
 simp only
 rw [e7,hD]
 simp only
 rw [wAT (x:=q + 1) (by omega) (by omega),e8,hD]
 simp only
 rw [e9,hD]
 have hck:∀ x ∈ C,∃ o,ClkI x o:=fun x hx=>by
  obtain ⟨i,hi,rfl⟩:=wHz hx
  exact ⟨_,eC i (by omega)⟩
 have RR:RC ⟨S,P,C,R⟩:=⟨⟨by simp only;omega,by simp only;omega⟩,by simp only;omega,by simp only;omega,by simp only;omega,(fun s hs=>by have:=eS s hs;omega),(fun s hs=>by have:=eP s hs;omega),(fun s hs=>by
  obtain ⟨o,h1,h2,h3,h4,h5,h6,h7⟩:=hck s hs
  exact ⟨⟨h2,by omega,by omega⟩,h4,by omega⟩),(fun x hx=>by have:=eR x hx;exact ⟨this.2.1,by have:=this.2.2.1;omega⟩),fun x hx=>(eR x hx).1⟩
 refine ⟨⟨S,P,C,R⟩,T,O,_,rfl,RR,⟨hTl,fun k hk=>(eT k hk).len,by simp only;omega⟩,(wJH RR).2 ⟨?_,?_,?_⟩,fun x hx=>(eS x hx).2,fun x hx=>?_,fun x hx=>(eR x hx).2.2.1,fun x hx=>⟨(eP x hx).1,(eP x hx).2.2⟩,by simp only;omega,fun x hx=>by
  obtain ⟨o,_,_,_,_,h5,_⟩:=hck x hx
  exact h5,by simp only;omega⟩
 ·rw [wCE]
  intro i _ hi
  have hi:i < S.length:=by simp only at hi;omega
  have Q:=eT i hi
  unfold wML
  rw [nJ,decide_eq_true_eq,wCE]
  refine ⟨Q.z,fun j _ hj=>?_⟩
  unfold inB
  rw [decide_eq_true_eq]
  exact Q.d j (by simp only at hj;omega)
 ·rw [wCE]
  intro i _ hi
  have Q:=eC i (by simp only at hi;omega)
  unfold wMq inB
  rw [decide_eq_true_eq]
  exact ⟨Q.2.2.2.2.2.1,Q.2.2.2.2.2.2⟩
 ·rw [wCE]
  intro i _ hi
  have Q:=eR _ (wBo (l:=R) (k:=i) (by simp only at hi;omega))
  unfold wMr inB
  rw [decide_eq_true_eq]
  exact ⟨Q.2.2.2.1,Q.2.2.2.2⟩
 ·obtain ⟨o,h1,h2,h3,_⟩:=hck x hx
  exact ⟨h1,h3⟩
theorem wLt {d:wAH} (h0:d.next=0) {u w q:Int} (u1:1 <= u) (u2:u <= 8) (w1:1 <= w) (w2:w <= 8) (q0:0 <= q) (q1:q <= 40):∃ r T O d',wBb d u w q=some (r,T,O,d')/\RC r/\wMp r T O/\wCq r (yT T O)/\(∀ x ∈ r.Starts,x <= 902)/\(∀ x ∈ r.Clocks,-60 <= x.Offset.Lo/\x.Offset.Hi <= 70)/\(∀ x ∈ r.Readings,x.Time <= 100000):=by
 obtain ⟨r,T,O,d',e,h1,h2,h3,h4,h5,h6,_⟩:=wKq h0 u1 u2 w1 w2 q0 q1
 exact ⟨r,T,O,d',e,h1,h2,h3,h4,h5,h6⟩
end Go.Proofs.Ytlnfbjphfoipaaa
namespace Go.Proofs.Ytlnfbjphfoipaaa
open Go.KL Go.KL.Net
theorem wHX {r:wAC} (S:wEV r):wAu r=some r:=by
 have hn:=S.n;have hm:=S.m;have hc:=S.c;have hq:=S.q
 unfold wAu wCB wBS wBM wBB
 rw [wCx (by simp only [hJ];omega),hD,hD,wCx (by simp only [hJ];omega),hD,hD,wCx (by simp only [hJ];omega),hD,hD,wCx (by simp only [hJ];omega)]
 rfl
end Go.Proofs.Ytlnfbjphfoipaaa
namespace Go.Proofs.Ytlnfbjphfoipaaa
open Go.KL Go.KL.Net
open Classical
theorem wKr {r:wAC} (C:RC r) {T:List (List Int)} {O:List Int} (L:wMp r T O) (F:wCq r (yT T O)) (bT:∀ i j,i < r.Starts.length->j < r.Splits.length + 1->-100000000 <= gd (gd T i) j/\gd (gd T i) j <= 100000000) (bO:∀ i,i < r.Clocks.length->-100000000 <= gd O i/\gd O i <= 100000000):wBc r T O=some true:=by
 obtain ⟨h1,h2,h3⟩:=(wJH C).1 F
 have hn:=C.n;have hm:=C.m;have hc:=C.c;have hq:=C.q
 have lt:=L.t;have lo:=L.o
 unfold wBc
 rw [if_pos (by omega),if_pos (by omega),wEr (by omega) fun i hi=>?_,wFD,wEr (by omega) fun i hi=>?_,wFD,wEr (by omega) fun i hi=>?_,wFD]
 ·have u:=C.ru _ (wBo hi)
  have ut:=C.rt _ (wBo hi)
  have uc:=C.ck _ (wCp u.2.2.2.2.1 u.2.2.2.2.2)
  have a1:=bT (gd r.Readings i).Skier.toNat (gd r.Readings i).Mat.toNat (by omega) (by omega)
  have a2:=bO (gd r.Readings i).Clock.toNat (by omega)
  have ll:=L.l (gd r.Readings i).Skier.toNat (by omega)
  have g:=(wCE _ _ _).1 h3 i (by omega) (by omega)
  unfold wMr inB at g
  rw [decide_eq_true_eq] at g
  rw [wBk hi,hD,wED u.1 (by omega),hD,wED u.2.2.1 (by omega),hD,wED u.2.2.2.2.1 (by omega),hD,wED u.2.2.2.2.1 (by omega),hD,wAT (x:=(gd r.Readings i).Time - gd (gd T (gd r.Readings i).Skier.toNat) (gd r.Readings i).Mat.toNat) (by omega) (by omega),wAT (x:=_ - gd O (gd r.Readings i).Clock.toNat) (by omega) (by omega),if_neg (by omega),wAT (by omega) (by omega),if_neg (by omega)]
 ·have g:=(wCE _ _ _).1 h2 i (by omega) (by omega)
  unfold wMq inB at g
  rw [decide_eq_true_eq] at g
  rw [wBk hi,hD,wBk (by omega),hD,if_neg (by omega),if_neg (by omega)]
 ·have hi':i < T.length:=by omega
  have ll:=L.l i (by omega)
  have g:=(wCE _ _ _).1 h1 i (by omega) (by omega)
  unfold wML at g
  rw [nJ,decide_eq_true_eq] at g
  rw [wBk hi',hD,wAT (by omega) (by omega),if_pos (by omega),show (0:Int)=((0:Nat):Int) from rfl,wBk (by omega),hD,wBk (by omega),hD,if_pos g.1,show ((0:Nat):Int)=0 from rfl,wEr (by omega) fun j hj=>?_]
  ·rfl
  ·have q:=(wCE _ _ _).1 g.2 j (by omega) (by omega)
   unfold inB at q
   rw [decide_eq_true_eq] at q
   have sp:=C.sp _ (wBo hj)
   have a1:=bT i (j + 1) (by omega) (by omega)
   have a2:=bT i j (by omega) (by omega)
   rw [wBk hj,hD,wBk (by omega),hD,wBk (by omega),hD,if_neg (by omega),wAT (by omega) (by omega),if_neg (by omega),if_neg (by omega)]
end Go.Proofs.Ytlnfbjphfoipaaa
namespace Go.Proofs.Ytlnfbjphfoipaaa
open Go.KL Go.KL.Net
open Classical
def tt (r:wAC) (y:Pt->Int):List (List Int):=(nD r.Starts.length).map fun (s:Nat)=>(nD (r.Splits.length + 1)).map fun (k:Nat)=>y ⟨(s:Int),(k:Int)⟩ - y zp
def oo (r:wAC) (y:Pt->Int):List Int:=(nD r.Clocks.length).map fun (i:Nat)=>y zp - y ⟨-1,1 + (i:Int)⟩
theorem wFw {α:Type} [Inhabited α] {n k:Nat} (f:Nat->α) (h:k < n):gd ((nD n).map f) k=f k:=by
 rw [wHv (by simpa using h)]
 simp
theorem wLu {r:wAC} {y:Pt->Int} {s k:Nat} (hs:s < r.Starts.length) (hk:k <= r.Splits.length):gd (gd (tt r y) s) k=y ⟨(s:Int),(k:Int)⟩ - y zp:=by
 unfold tt
 rw [wFw _ hs,wFw _ (by omega)]
theorem wJI (r:wAC) (y:Pt->Int):(tt r y).length=r.Starts.length:=by simp [tt]
theorem wID {r:wAC} {y:Pt->Int} {s:Nat} (hs:s < r.Starts.length):(gd (tt r y) s).length=r.Splits.length + 1:=by
 unfold tt
 rw [wFw _ hs];simp
theorem wLv {r:wAC} {d:wAW} {pts:List Pt} (D:Desk r d pts) {far:List Int} (hf:far.length=pts.length) {y:Pt->Int} (hy:∀ p,wGL r p->gd far (pos pts p)=y p) (F:wCq r y):wCW d far=some (tt r y,oo r y):=by
 have C:=D.c
 have hn:=C.n;have hm:=C.m;have hc:=C.c
 have hlen:=D.len
 have hz:wGL r zp:=.inl rfl
 have e0:gd far 0=y zp:=by rw [<- hy zp hz,D.zeroP]
 have get:∀ p,wGL r p->idx far (wBH d.number p 0)=some (y p):=fun p hp=>by
  obtain ⟨h1,_,h3⟩:=D.pos_ok hp
  rw [h3,wBk (by omega),hy p hp]
 have ez:idx far 0=some (y zp):=by rw [show (0:Int)=((0:Nat):Int) from rfl,wBk (by omega),e0]
 unfold wCW
 rw [ez,hD,D.race]
 have rows:wBY (0:Int) (↑r.Starts.length:Int) (fun k31 l26 =>
  (wBY (0:Int) (w64 ((↑r.Splits.length:Int) + 1)) (fun k74 l70 =>
   (idx far (wBH d.number (⟨(↑k31:Int),(↑k74:Int)⟩:wAJ) 0)).bind fun x103 =>
   (app 8 l70 [w64 (x103 - y zp)]).bind fun x117 =>
   some x117) []).bind fun y79 =>
  (app 24 l26 [y79]).bind fun x161 =>
  some x161) []=some (tt r y):=by
  rw [wFd (S:=List (List Int)) (n:=r.Starts.length) (fun k=>(tt r y).take k) (s0:=[]) (by simp) (by omega) fun k hk=>?_,<- wJI r y,nR]
  have hs1:w64 ((r.Splits.length:Int) + 1)=((r.Splits.length + 1:Nat):Int):=by rw [wAT (by omega) (by omega)];omega
  rw [hs1,wFd (S:=List Int) (n:=r.Splits.length + 1) (fun j=>(gd (tt r y) k).take j) (s0:=[]) (by simp) (by omega) fun j hj=>?_]
  ·rw [hD,wCx (by rw [nG];simp only [hH,hJ];omega),hD,wEe (l:=tt r y) (by rw [wJI];exact hk),<- wID (y:=y) hk,nR]
  ·have hp:wGL r ⟨(k:Int),(j:Int)⟩:=.inr (.inl ⟨by simp only;omega,by simp only;omega,by simp only;omega,by simp only;omega⟩)
   have nr:=wIC C F hp
   rw [get _ hp,hD,wAT (by omega) (by omega),wCx (by rw [nG];simp only [hH,hJ];omega),hD,wEe (l:=gd (tt r y) k) (by rw [wID hk];exact hj),wLu hk (by omega)]
 rw [rows,hD]
 have offs:wBY (0:Int) (↑r.Clocks.length:Int) (fun k215 l211 =>
  (wBu (↑k215:Int)).bind fun x243 =>
  (idx far (wBH d.number x243 0)).bind fun x253 =>
  (app 8 l211 [w64 (y zp - x253)]).bind fun x268 =>
  some x268) []=some (oo r y):=by
  have ol:(oo r y).length=r.Clocks.length:=by simp [oo]
  rw [wFd (S:=List Int) (n:=r.Clocks.length) (fun k=>(oo r y).take k) (s0:=[]) (by simp) (by omega) fun k hk=>?_,<- ol,nR]
  have hp:wGL r ⟨-1,1 + (k:Int)⟩:=.inr (.inr ⟨rfl,by simp only;omega,by simp only;omega⟩)
  have nr:=wIC C F hp
  unfold wBu
  rw [wAT (by omega) (by omega),hD,get _ hp,hD,wAT (by omega) (by omega),wCx (by rw [nG];simp only [hH,hJ];omega),hD,wEe (l:=oo r y) (by omega)]
  unfold oo
  rw [wFw _ hk]
 rw [offs]
 rfl
theorem wKP {r:wAC} (C:RC r) {y:Pt->Int} (F:wCq r y):wCq r (yT (tt r y) (oo r y))/\wMp r (tt r y) (oo r y)/\wKZ (smlR (tt r y)) (tt r y).length 0=true/\wKZ (smlO (oo r y)) (oo r y).length 0=true:=by
 have hz:wGL r zp:=.inl rfl
 have same:∀ p,wGL r p->yT (tt r y) (oo r y) p=y p - y zp:=fun p hp=>by
  rcases hp with rfl | ⟨a,b,c,d⟩ | ⟨a,b,c⟩
  ·rw [wKM];omega
  ·have e:p=⟨p.skier,p.mat⟩:=rfl
   rw [e,wEf _ _ a,wLu (by omega) (by omega),nL a,nL c]
  ·have e:p=⟨-1,1 + (p.mat - 1)⟩:=by rw [<- a,ng,nU]
   rw [e,wFi _ _ (by omega)]
   unfold oo
   rw [wFw _ (by omega),nL (by omega)]
   omega
 have L:wMp r (tt r y) (oo r y):=⟨wJI r y,fun k hk=>wID hk,by simp [oo]⟩
 refine ⟨fun x hx=>?_,L,?_,?_⟩
 ·obtain ⟨o1,o2,_,_⟩:=wEE C hx
  rw [same _ o1,same _ o2]
  have:=F x hx
  omega
 ·rw [wCE]
  intro i _ hi
  unfold smlR
  rw [wCE]
  intro j _ hj
  rw [L.t] at hi
  rw [wID (by omega)] at hj
  have hp:wGL r ⟨(i:Int),(j:Int)⟩:=.inr (.inl ⟨by simp only;omega,by simp only;omega,by simp only;omega,by simp only;omega⟩)
  have:=wIC C F hp
  rw [wLu (by omega) (by omega)]
  unfold inB
  rw [decide_eq_true_eq]
  omega
 ·rw [wCE]
  intro i _ hi
  rw [L.o] at hi
  have hp:wGL r ⟨-1,1 + (i:Int)⟩:=.inr (.inr ⟨rfl,by simp only;omega,by simp only;omega⟩)
  have:=wIC C F hp
  unfold smlO oo
  rw [wFw _ (by omega)]
  unfold inB
  rw [decide_eq_true_eq]
  omega
end Go.Proofs.Ytlnfbjphfoipaaa
namespace Go.Proofs.Ytlnfbjphfoipaaa
open Go.KL Go.KL.Net
open Classical
theorem wJJ {r:wAC} (S:wEV r):(wJW r [] ≠ 0->wBF r=some ([],[],wJW r []))/\(wJW r []=0->∃ y,wCq r y/\wBF r=some (tt r y,oo r y,0)):=by
 unfold wBF
 rcases wGN S with ⟨c0,e0⟩ | ⟨c0,d,pts,e0,D⟩
 ·have ee:wJW r []=code r:=by unfold wJW;rw [if_neg c0]
  rw [e0,hD,ee]
  simp only
  exact ⟨fun _=>if_neg c0,fun h=>absurd h c0⟩
 ·obtain ⟨f,last,ok,e1,fl,_,h1,h2,_⟩:=D.any
  rw [e0,hD]
  simp only
  rw [if_pos trivial,e1,hD]
  simp only
  cases ok with
  | true =>
   have ee:wJW r []=0:=by unfold wJW;rw [if_pos c0,if_pos (by rfl),if_pos (h1.1 rfl)]
   refine ⟨fun h=>absurd ee h,fun _=>⟨_,h2 rfl,?_⟩⟩
   rw [if_pos rfl,wLv D fl (y:=fun p=>gd f.far (pos pts p)) (fun _ _=>rfl) (h2 rfl),hD]
  | false =>
   have ee:wJW r []=7:=by
    unfold wJW
    rw [if_pos c0,if_pos (by rfl),if_neg (fun h=>by have:=h1.2 h;cases this)]
   refine ⟨fun _=>?_,fun h=>by omega⟩
   rw [if_neg (by simp),ee]
end Go.Proofs.Ytlnfbjphfoipaaa
namespace Go.Proofs.Ytlnfbjphfoipaaa
open Go.KL Go.KL.Net
open Classical
theorem wKQ (d:wAH) (n:Int) (h0:0 <= d.next) (h1:d.next <= 1000000):∃ b d',wAf d n=some (b,d')/\0 <= d'.next/\d'.next <= d.next + 1:=by
 obtain ⟨x,d',e,m0,m1,_⟩:=wDL d n h0 h1
 unfold wAf
 rw [e]
 exact ⟨_,_,rfl,m0,m1⟩
def Sp (x y:wAI):Prop:=y.Skier=x.Skier/\y.Mat=x.Mat/\y.Clock=x.Clock/\0 <= y.Time/\y.Time <= 200000
theorem wKs {r:wAC} (C:RC r) (ht:∀ x ∈ r.Readings,x.Time <= 100000) (d:wAH) (h0:d.next=0):∃ l d',wBq d r=some (⟨r.Starts,r.Splits,r.Clocks,l⟩,d')/\l.length=r.Readings.length/\∀ k,k < r.Readings.length->Sp (gd r.Readings k) (gd l k):=by
 have hn:=C.n;have hm:=C.m;have hc:=C.c;have hq:=C.q
 unfold wBq
 rw [wHX ⟨by omega,by omega,by omega,by omega⟩,hD]
 obtain ⟨s,e,I⟩:=wDd (n:=r.Readings.length) (body:=fun k61 ((l55,l56,x59,x60):List wAI × List Int × Int × Int) =>
  (wAf (⟨l56,x59,x60⟩:wAH) 5).bind fun (x89,x90) =>
  if x89=true then
   (chk (↑k61:Int) l55.length).bind fun _ =>
   (wAO x90 (-400) 400).bind fun (x144,x145) =>
   some ((nB l55 k61 (⟨(gd l55 k61).Skier,(gd l55 k61).Mat,(gd l55 k61).Clock,max 0 (w64 (((gd l55 k61).Time) + x144))⟩:wAI)),x145.bytes,x145.next,x145.state)
  else
   some (l55,x90.bytes,x90.next,x90.state)) (s0:=(r.Readings,d.bytes,d.next,d.state))
  (fun (k:Nat) s=>s.1.length=r.Readings.length/\(0 <= s.2.2.1/\s.2.2.1 <= 2 * (k:Int))/\(∀ j,j < r.Readings.length->Sp (gd r.Readings j) (gd s.1 j))/\∀ j,k <= j->j < r.Readings.length->gd s.1 j=gd r.Readings j) (by omega)
  ⟨rfl,by simp only;omega,fun j hj=>⟨rfl,rfl,rfl,(C.rt _ (wBo hj)).1,by have:=ht _ (wBo hj);simp only at this ⊢;omega⟩,fun _ _ _=>rfl⟩ (by
   rintro k ⟨l,b,n,st⟩ hk ⟨a1,a2,a3,a4⟩
   simp only at a1 a2 a3 a4 ⊢
   obtain ⟨c,d1,e1,n0,n1⟩:=wKQ ⟨b,n,st⟩ 5 a2.1 (by simp only;omega)
   simp only at n1
   rw [e1,hD]
   simp only
   by_cases hc:c=true
   ·obtain ⟨x,d2,e2,m0,m1,x0,x1⟩:=wEg d1 (-400) 400 n0 (by omega) (by omega) (by omega) (by omega)
    rw [if_pos hc,wDX (by omega) (by omega),hD,e2,hD]
    simp only
    have gk:=a4 k (nA _) hk
    have t0:=C.rt _ (wBo hk)
    have t1:=ht _ (wBo hk)
    rw [wAT (by rw [gk];omega) (by rw [gk];omega)]
    refine ⟨_,rfl,by simp only [nM];exact a1,by simp only;omega,fun j hj=>?_,fun j hj hj2=>?_⟩
    ·simp only
     rw [wEs (by omega) (by omega)]
     by_cases cj:j=k
     ·subst cj
      rw [if_pos rfl,gk]
      exact ⟨rfl,rfl,rfl,by simp only;omega,by simp only;omega⟩
     ·rw [if_neg cj]
      exact a3 j hj
    ·simp only
     rw [wEs (by omega) (by omega),if_neg (by omega)]
     exact a4 j (by omega) hj2
   ·rw [if_neg hc]
    exact ⟨_,rfl,a1,by simp only;omega,a3,fun j hj hj2=>a4 j (by omega) hj2⟩)
 rw [e]
 exact ⟨s.1,_,rfl,I.1,I.2.2.1⟩
theorem wKt {r:wAC} (C:RC r) {l:List wAI} (hl:l.length=r.Readings.length) (hs:∀ k,k < r.Readings.length->Sp (gd r.Readings k) (gd l k)):RC ⟨r.Starts,r.Splits,r.Clocks,l⟩:=by
 refine ⟨C.n,C.m,C.c,by rw [hl];exact C.q,C.st,C.sp,C.ck,fun x hx=>?_,fun x hx=>?_⟩
 ·obtain ⟨k,hk,rfl⟩:=wHz hx
  simp only at hk
  have:=hs k (by omega)
  simp only
  exact ⟨this.2.2.2.1,by have:=this.2.2.2.2;omega⟩
 ·obtain ⟨k,hk,rfl⟩:=wHz hx
  simp only at hk
  have a:=hs k (by omega)
  simp only
  have b:=C.ru _ (wBo (show k < r.Readings.length by omega))
  rw [a.1,a.2.1,a.2.2.1]
  exact b
theorem wLw {r:wAC} (C:RC r) {y:Pt->Int} (F:wCq r y):wBc r (tt r y) (oo r y)=some true:=by
 obtain ⟨t1,t2,t3,t4⟩:=wKP C F
 have tl:=wJI r y
 refine wKr C t2 t1 (fun a b ha hb=>?_) (fun a ha=>?_)
 ·have g1:=(wCE _ _ _).1 t3 a (by omega) (by omega)
  have g2:=(wCE _ _ _).1 g1 b (by omega) (by rw [wID ha];omega)
  unfold inB at g2
  rw [decide_eq_true_eq] at g2
  exact g2
 ·have g1:=(wCE _ _ _).1 t4 a (by omega) (by rw [t2.o];omega)
  unfold smlO inB at g1
  rw [decide_eq_true_eq] at g1
  exact g1
end Go.Proofs.Ytlnfbjphfoipaaa
namespace Go.Proofs.Ytlnfbjphfoipaaa
open Go.KL Go.KL.Net
open Classical
def wr (r:wAC) (l:List wAI):wAC:=⟨r.Starts,r.Splits,r.Clocks,l⟩
theorem wMs {r:wAC} (C:RC r) {l:List wAI} (hl:l.length <= 40) (h:∀ x ∈ l,x ∈ r.Readings):RC (wr r l) :=
 ⟨C.n,C.m,C.c,hl,C.st,C.sp,C.ck,fun x hx=>C.rt x (h x hx),fun x hx=>C.ru x (h x hx)⟩
def wFx (q:Nat->Bool) (l:List wAI) (k:Nat):List wAI:=((nD k).filter fun i=>!q i).map fun i=>gd l i
theorem wGF (q:Nat->Bool) (l:List wAI) (k:Nat):wFx q l (k + 1)=if q k=true then wFx q l k else wFx q l k ++ [gd l k]:=by
 unfold wFx
 rw [kA,List.filter_append,na]
 by_cases h:q k=true
 ·rw [if_pos h];simp [h]
 ·rw [if_neg h];simp [h]
theorem wHY (q:Nat->Bool) (l:List wAI) (k:Nat):(wFx q l k).length <= k:=by
 unfold wFx
 rw [nz]
 have:=List.length_filter_le (fun i=>!q i) (nD k)
 rwa [kL] at this
theorem wJK {q:Nat->Bool} {l:List wAI} {x:wAI}:x ∈ wFx q l l.length ↔ ∃ i,i < l.length/\q i=false/\x=gd l i:=by
 unfold wFx
 simp only [nT,List.mem_filter,nh,Bool.not_eq_true']
 constructor
 ·rintro ⟨i,⟨h1,h2⟩,rfl⟩;exact ⟨i,h1,h2,rfl⟩
 ·rintro ⟨i,h1,h2,rfl⟩;exact ⟨i,⟨h1,h2⟩,rfl⟩
theorem wJY {r:wAC} (C:RC r) {g:Int × wAI->Option Bool} {q:Nat->Bool} (hg:∀ k,k < r.Readings.length->g ((k:Int),gd r.Readings k)=some (q k)):∃ d pts,wAi r g=some d/\Desk (wr r (wFx q r.Readings r.Readings.length)) d pts:=by
 have hq:=C.q
 unfold wAi
 rw [mkz,if_pos (by omega),hD]
 have ec:wJq (hU (r.Readings.length:Int).toNat (⟨0,0,0,0⟩:wAI)) 0 r.Readings=some r.Readings:=by
  unfold wJq
  rw [if_pos (by simp)]
  unfold cpy
  simp
 rw [ec,hD]
 obtain ⟨s,e,h1,h2,h3,h4⟩:=wJX (n:=r.Readings.length) (body:=fun (k34:Nat) ((l32,k33):List wAI × Nat) =>
  (chk (↑k34:Int) l32.length).bind fun _ =>
  (g ((↑k34:Int),(gd l32 k34))).bind fun x68 =>
  if x68=true then
   some (l32,k33)
  else
   (chk (((k33):Nat):Int) l32.length).bind fun _ =>
   some ((nB l32 k33 (gd l32 k34)),(k33 + 1))) (s0:=(r.Readings,0))
  (fun k s=>s.1.length=r.Readings.length/\s.2=(wFx q r.Readings k).length/\s.1.take s.2=wFx q r.Readings k/\∀ j,k <= j->j < r.Readings.length->gd s.1 j=gd r.Readings j) (by omega)
  ⟨rfl,rfl,rfl,fun _ _ _=>rfl⟩ (by
   rintro k ⟨l,c⟩ hk ⟨a1,a2,a3,a4⟩
   simp only at a1 a2 a3 a4 ⊢
   have hkl:=wHY q r.Readings k
   rw [wDX (by omega) (by omega),hD,a4 k (nA _) hk,hg k hk,hD]
   by_cases h:q k=true
   ·rw [if_pos h]
    exact ⟨_,rfl,a1,by rw [wGF,if_pos h];exact a2,by rw [wGF,if_pos h];exact a3,fun j h1 h2=>a4 j (by omega) h2⟩
   ·rw [if_neg h,wDX (by omega) (by omega),hD]
    refine ⟨_,rfl,by simp only [nM];exact a1,?_,?_,fun j h1 h2=>?_⟩
    ·simp only
     rw [wGF,if_neg h,nI,a2];rfl
    ·simp only
     have hc:c < (l.set c (gd r.Readings k)).length:=by rw [nM];omega
     rw [wGF,if_neg h,wEe hc,List.take_set_of_le (nA _),a3,wEs (by omega) (by omega),if_pos rfl]
    ·simp only
     rw [wEs (by omega) (by omega)]
     by_cases e:j=c
     ·omega
     ·rw [if_neg e]
      exact a4 j (by omega) h2)
 have hk2:=wHY q r.Readings r.Readings.length
 rw [e,hD]
 simp only
 have ecut:Go.KL.cut s.1 0 ((s.2:Nat):Int)=some (wFx q r.Readings r.Readings.length):=by
  unfold Go.KL.cut
  rw [if_pos (by omega)]
  rw [<- h3]
  simp
 rw [ecut,hD]
 obtain ⟨d,pts,ed,D⟩:=wIB (wMs C (l:=wFx q r.Readings r.Readings.length) (by omega) (fun x hx=>by
  obtain ⟨i,hi,_,rfl⟩:=wJK.1 hx
  exact wBo hi))
 exact ⟨d,pts,by
  rw [show (⟨r.Starts,r.Splits,r.Clocks,wFx q r.Readings r.Readings.length⟩:wAC)=wr r (wFx q r.Readings r.Readings.length) from rfl,ed]
  rfl,D⟩
end Go.Proofs.Ytlnfbjphfoipaaa
namespace Go.Proofs.Ytlnfbjphfoipaaa
open Go.KL Go.KL.Net
open Classical
def Wo (r:wAC) (q:Nat->Bool):Prop:=∃ y,wCq (wr r (wFx q r.Readings r.Readings.length)) y
theorem wHZ {r:wAC} (C:RC r) {g:Int × wAI->Option Bool} {q:Nat->Bool} (hg:∀ k,k < r.Readings.length->g ((k:Int),gd r.Readings k)=some (q k)) {B:Type} {K:Bool->Option B}:((wAi r g).bind fun d=>(wAe d).bind K)=K (decide (Wo r q)):=by
 obtain ⟨d,pts,e,D⟩:=wJY C hg
 obtain ⟨b,e2,h⟩:=D.holds
 rw [e,hD,e2,hD]
 have:b=decide (Wo r q):=by
  cases b with
  | true=>exact (decide_eq_true (h.1 rfl)).symm
  | false=>exact (decide_eq_false (fun w=>by have:=h.2 w;cases this)).symm
 rw [this]
theorem wGO {B:Type} {f:Nat->Option B} {c:B}:∀ (m k:Nat),fnd f m k=some c->∃ i,k <= i/\i < k + m/\f i=some c
 | 0,_,h=>by cases h
 | m + 1,k,h=>by
  unfold fnd at h
  cases e:f k with
  | some c' =>
   rw [e] at h
   exact ⟨k,nA _,by omega,e.trans h⟩
  | none =>
   rw [e] at h
   obtain ⟨i,h1,h2,h3⟩:=wGO m (k + 1) h
   exact ⟨i,by omega,by omega,h3⟩
theorem wJL {B:Type} {f:Nat->Option B}:∀ (m k:Nat),fnd f m k=none->∀ i,k <= i->i < k + m->f i=none
 | 0,_,_,_,_,_=>by omega
 | m + 1,k,h,i,h1,h2=>by
  unfold fnd at h
  cases e:f k with
  | some c'=>rw [e] at h;cases h
  | none =>
   rw [e] at h
   by_cases c:i=k
   ·rw [c];exact e
   ·exact wJL m (k + 1) h i (by omega) (by omega)
def wGd (r:wAC) (bad:List Int) (g:Int):Prop :=
 (g=10/\bad=[]) \/ (g=0/\((∃ i:Nat,i < r.Readings.length/\bad=[(i:Int)]/\Wo r (fun j=>decide (j=i))) \/
  ∃ i k:Nat,i < k/\k < r.Readings.length/\bad=[(i:Int),(k:Int)]/\Wo r (fun j=>decide (j=i) || decide (j=k))/\∀ j,j < r.Readings.length->¬ Wo r fun u=>decide (u=j)))
theorem wKu {r:wAC} (S:wEV r) (c:code r=0):((∃ y,wCq r y)->wCm r=some ([],0))/\((¬ ∃ y,wCq r y)->∃ bad g,wCm r=some (bad,g)/\wGd r bad g):=by
  have C:=wGc c
  have hq:=S.q
  rcases wGN S with ⟨h,_⟩ | ⟨_,d,pts,e,D⟩
  · exact absurd c h
  obtain ⟨b,e2,hb⟩:=D.holds
  unfold wCm
  rw [e,hD]
  simp only
  rw [if_pos trivial,e2,hD]
  refine ⟨fun hy=>by rw [hb.2 hy,if_pos rfl],fun hy=>?_⟩
  rw [if_neg (fun h=>hy (hb.1 h))]
  have one:∀ i:Nat,∀ j:Nat,wCK (j:Int) (gd r.Readings j) (i:Int)=some (decide (j=i)):=fun i j=>by
    unfold wCK
    exact congrArg some (decide_eq_decide.2 ⟨fun h=>by omega,fun h=>by omega⟩)
  have two:∀ i k:Nat,∀ j:Nat,wBg (j:Int) (gd r.Readings j) (i:Int) (k:Int)=some (decide (j=i) || decide (j=k)):=fun i k j=>by
    unfold wBg
    by_cases h1:j=i
    · rw [if_pos (by omega),decide_eq_true h1,Bool.true_or]
    · rw [if_neg (by omega),decide_eq_false h1,Bool.false_or]
      exact congrArg some (decide_eq_decide.2 ⟨fun h=>by omega,fun h=>by omega⟩)
  rw [wJA (B:=List Int × Int) (fun k=>if Wo r (fun j=>decide (j=k)) then some ([(k:Int)],0) else none) (by omega) fun k hk=>by
    rw [wHZ C (q:=fun j=>decide (j=k)) fun j _=>one k j]
    by_cases h:Wo r (fun j=>decide (j=k))
    · rw [if_pos h,if_pos (decide_eq_true h)];rfl
    · rw [if_neg h,if_neg (by simpa using h)];rfl]
  cases h1:fnd (fun k=>if Wo r (fun j=>decide (j=k)) then some ([(k:Int)],(0:Int)) else none) r.Readings.length 0 with
  | some v =>
    obtain ⟨i,_,hi,hv⟩:=wGO _ _ h1
    replace hv:(if Wo r (fun j=>decide (j=i)) then some ([(i:Int)],(0:Int)) else none)=some v:=hv
    split at hv
    · rename_i w
      cases hv
      exact ⟨_,_,rfl,.inr ⟨rfl,.inl ⟨i,by omega,rfl,w⟩⟩⟩
    · cases hv
  | none =>
    have no1:∀ j,j < r.Readings.length->¬ Wo r fun u=>decide (u=j):=fun j hj w=>by
      have:=wJL _ _ h1 j (kR _) (by omega)
      replace this:(if Wo r (fun u=>decide (u=j)) then some ([(j:Int)],(0:Int)) else none)=none:=this
      rw [if_pos w] at this
      cases this
    show ∃ bad g,(jn (wEW 0 (↑r.Readings.length:Int) (fun k204 _ =>
          iter (fun x250 =>
            if x250 < (↑r.Readings.length:Int) then
              (wAi r (fun x=>wBg x.1 x.2 (↑k204:Int) x250)).bind fun x309 =>
              (wAe x309).bind fun x350 =>
              if x350=true then
                esc (esc (some ([(↑k204:Int),x250],0)))
              else
                some (.inl (w64 (x250 + 1)))
            else
              esc (some (.inl ()))) big (↑(k204 + 1):Int)) ()) fun _ =>
        some ([],10))=some (bad,g)/\wGd r bad g
    rw [wJA (B:=List Int × Int) (fun k=>fnd (fun i=>if Wo r (fun j=>decide (j=k) || decide (j=i)) then some ([(k:Int),(i:Int)],(0:Int)) else none) (r.Readings.length - (k + 1)) (k + 1)) (by omega) fun k hk=>by
      have st:=wFf (B:=Unit ⊕ (List Int × Int)) (body:=fun (x250:Int) =>
            if x250 < (↑r.Readings.length:Int) then
              (wAi r (fun x=>wBg x.1 x.2 (↑k:Int) x250)).bind fun x309 =>
              (wAe x309).bind fun x350 =>
              if x350=true then
                esc (esc (some ([(↑k:Int),x250],0)))
              else
                some (.inl (w64 (x250 + 1)))
            else
              esc (some (.inl ()))) (f:=fun i=>(if Wo r (fun j=>decide (j=k) || decide (j=i)) then some ([(k:Int),(i:Int)],(0:Int)) else none).map Sum.inr) (z:=.inl ()) (n:=r.Readings.length) (fun i hi=>by
          rw [if_pos (by omega),wHZ C (q:=fun j=>decide (j=k) || decide (j=i)) fun j _=>two k i j,wAT (by omega) (by omega)]
          by_cases h:Wo r (fun j=>decide (j=k) || decide (j=i))
          · rw [if_pos h,if_pos (decide_eq_true h)];rfl
          · rw [if_neg h,if_neg (by simpa using h)];rfl) (by rw [if_neg (by omega)];rfl) (r.Readings.length - (k + 1)) (k + 1) big (by omega) (by unfold big;omega)
      rw [st,wKH]
      cases fnd (fun i=>if Wo r (fun j=>decide (j=k) || decide (j=i)) then some ([(k:Int),(i:Int)],(0:Int)) else none) (r.Readings.length - (k + 1)) (k + 1) <;> rfl]
    cases h2:fnd (fun k=>fnd (fun i=>if Wo r (fun j=>decide (j=k) || decide (j=i)) then some ([(k:Int),(i:Int)],(0:Int)) else none) (r.Readings.length - (k + 1)) (k + 1)) r.Readings.length 0 with
    | none=>exact ⟨_,_,rfl,.inl ⟨rfl,rfl⟩⟩
    | some v =>
      obtain ⟨k,_,hk,hv⟩:=wGO _ _ h2
      obtain ⟨i,hi1,hi2,hw⟩:=wGO _ _ hv
      replace hw:(if Wo r (fun j=>decide (j=k) || decide (j=i)) then some ([(k:Int),(i:Int)],(0:Int)) else none)=some v:=hw
      split at hw
      · rename_i w
        cases hw
        exact ⟨_,_,rfl,.inr ⟨rfl,.inr ⟨k,i,by omega,by omega,rfl,w,no1⟩⟩⟩
      · cases hw
theorem wKv {r:wAC} (S:wEV r) (c:code r=0):((∃ y,wCq r y)->wCn r=some ([],6))/\((¬ ∃ y,wCq r y)->∃ l,wCn r=some (l,0)/\l.length <= r.Starts.length/\∀ i:Nat,i < r.Starts.length->((i:Int) ∈ l ↔ Wo r fun j=>decide ((gd r.Readings j).Skier=(i:Int)))):=by
  have C:=wGc c
  have hn:=S.n
  rcases wGN S with ⟨h,_⟩ | ⟨_,d,pts,e,D⟩
  · exact absurd c h
  obtain ⟨b,e2,hb⟩:=D.holds
  unfold wCn
  rw [e,hD]
  simp only
  rw [if_pos trivial,e2,hD]
  refine ⟨fun hy=>by rw [hb.2 hy,if_pos rfl],fun hy=>?_⟩
  rw [if_neg (fun h=>hy (hb.1 h)),wCv (by omega)]
  obtain ⟨s,es,P⟩:=wDW (body:=fun (k89:Nat) (l85:List Int) =>
          (wAi r (fun x=>wCh x.1 x.2 (↑k89:Int))).bind fun x145 =>
          (wAe x145).bind fun x186 =>
          if x186=true then
            (app 8 l85 [(↑k89:Int)]).bind fun x206 =>
            some x206
          else
            some l85) (fun k l=>l.length <= k/\∀ x,x ∈ l ↔ ∃ i:Nat,i < k/\x=(i:Int)/\Wo r fun j=>decide ((gd r.Readings j).Skier=(i:Int))) r.Starts.length 0 [] ⟨nA _,fun x=>Iff.intro (fun h=>by cases h) (fun h=>by obtain ⟨_,h,_⟩:=h;omega)⟩ (by
    rintro k l _ hk ⟨h1,h2⟩
    rw [wHZ C (q:=fun j=>decide ((gd r.Readings j).Skier=(k:Int))) fun j _=>rfl]
    by_cases w:Wo r (fun j=>decide ((gd r.Readings j).Skier=(k:Int)))
    · rw [if_pos (decide_eq_true w),wCx (by simp only [hH,hJ];omega),hD]
      refine ⟨_,rfl,by simp only [nI,hH,hJ];omega,fun x=>?_⟩
      rw [nP,nH,h2]
      constructor
      · rintro (⟨i,a,b,c⟩ | h)
        · exact ⟨i,by omega,b,c⟩
        · exact ⟨k,by omega,h,w⟩
      · rintro ⟨i,a,b,c⟩
        by_cases e:i=k
        · right;rw [b,e]
        · left;exact ⟨i,by omega,b,c⟩
    · rw [if_neg (by simpa using w)]
      refine ⟨_,rfl,by omega,fun x=>?_⟩
      rw [h2]
      constructor
      · rintro ⟨i,a,b,c⟩;exact ⟨i,by omega,b,c⟩
      · rintro ⟨i,a,b,c⟩
        refine ⟨i,?_,b,c⟩
        have:i ≠ k:=fun e=>w (e ▸ c)
        omega)
  rw [es,hD]
  refine ⟨_,rfl,by have:=P.1;omega,fun i hi=>?_⟩
  rw [P.2]
  constructor
  · rintro ⟨j,a,b,c⟩
    have:j=i:=by omega
    exact this ▸ c
  · intro w
    exact ⟨i,by omega,rfl,w⟩
end Go.Proofs.Ytlnfbjphfoipaaa
namespace Go.Proofs.Ytlnfbjphfoipaaa
open Go.KL Go.KL.Net
open Classical
def Fol (r:wAC):Pt->List wAF->Pt->Int->Prop
 | p,[],q,s=>p=q/\s=0
 | p,x :: l,q,s=>wCZ r x/\(wCS r x).1=p/\Fol r (wCS r x).2.1 l q (s - (wCS r x).2.2)
theorem Fol.snoc {r:wAC} {x:wAF} (hx:wCZ r x):∀ {p:Pt} {l:List wAF} {s:Int},Fol r p l (wCS r x).1 s->Fol r p (l ++ [x]) (wCS r x).2.1 (s + (wCS r x).2.2)
 | p,[],s,⟨h1,h2⟩=>⟨hx,h1.symm,rfl,by omega⟩
 | p,z :: l,s,⟨h1,h2,h3⟩=>⟨h1,h2,by
  have:=Fol.snoc hx h3
  rwa [show s - (wCS r z).2.2 + (wCS r x).2.2=s + (wCS r x).2.2 - (wCS r z).2.2 by omega] at this⟩
theorem Fol.ok {r:wAC}:∀ {p:Pt} {l:List wAF} {q:Pt} {s:Int},Fol r p l q s->∀ x ∈ l,wCZ r x
 | _,[],_,_,_=>fun _ h=>by cases h
 | _,z :: l,_,_,⟨h1,_,h3⟩=>fun x hx=>by
  rcases nj.1 hx with rfl | h
  ·exact h1
  ·exact h3.ok x h
theorem wIa:∀ (n:Nat) (f:Nat->Nat),(∀ k,k <= n + 1->f k <= n)->∃ i j,i < j/\j <= n + 1/\f i=f j
 | 0,f,h=>⟨0,1,by omega,by omega,by have:=h 0 (by omega);have:=h 1 (by omega);omega⟩
 | n + 1,f,h=>by
  rcases kH (∃ i,i <= n + 1/\f i=f (n + 2)) with ⟨i,h1,h2⟩ | hne
  ·exact ⟨i,n + 2,by omega,by omega,h2⟩
  ·have hne':∀ i,i <= n + 1->f i ≠ f (n + 2):=fun i hi e=>hne ⟨i,hi,e⟩
   have hl:=h (n + 2) (by omega)
   obtain ⟨i,j,h1,h2,h3⟩:=wIa n (fun k=>if f k=n + 1 then f (n + 2) else f k) (fun k hk=>by
    have a:=h k (by omega);have b:=hne' k hk
    show (if f k=n + 1 then f (n + 2) else f k) <= n
    split <;> omega)
   refine ⟨i,j,h1,by omega,?_⟩
   have a:=hne' i (by omega);have b:=hne' j h2
   split at h3 <;> split at h3 <;> omega
def cod (p:Pt):Nat:=if p=zp then 0 else if 0 <= p.skier then 1 + p.skier.toNat * 8 + p.mat.toNat else 64 + p.mat.toNat
theorem wMt {r:wAC} {d:wAW} {pts:List Pt} (D:Desk r d pts):pts.length <= 69:=by
 have hn:=D.c.n;have hm:=D.c.m;have hc:=D.c.c
 have key:∀ p,wGL r p->cod p <= 68:=fun p hp=>by
  unfold cod
  by_cases c0:p=zp
  ·rw [if_pos c0];omega
  ·rw [if_neg c0]
   rcases hp.resolve_left c0 with ⟨a,b,c,e⟩ | ⟨a,b,c⟩
   ·rw [if_pos a];omega
   ·rw [if_neg (by omega)];omega
 have inj:∀ p q,wGL r p->wGL r q->cod p=cod q->p=q:=fun p q hp hq e=>by
  have ext:∀ {p q:Pt},p.skier=q.skier->p.mat=q.mat->p=q:=fun {p q} h1 h2=>by cases p;cases q;simp only at h1 h2;rw [h1,h2]
  unfold cod at e
  by_cases c1:p=zp
  ·by_cases c2:q=zp
   ·rw [c1,c2]
   ·exfalso
    rw [if_pos c1,if_neg c2] at e
    rcases hq with h | ⟨a,b,c,e'⟩ | ⟨a,b,c⟩
    ·exact c2 h
    ·rw [if_pos a] at e;omega
    ·rw [if_neg (by omega)] at e;omega
  ·rw [if_neg c1] at e
   by_cases c2:q=zp
   ·exfalso
    rw [if_pos c2] at e
    rcases hp with h | ⟨a,b,c,e'⟩ | ⟨a,b,c⟩
    ·exact c1 h
    ·rw [if_pos a] at e;omega
    ·rw [if_neg (by omega)] at e;omega
   ·rw [if_neg c2] at e
    have hp:=hp.resolve_left c1
    have hq:=hq.resolve_left c2
    rcases hp with ⟨a,b,c,e'⟩ | ⟨a,b,c⟩ <;> rcases hq with ⟨a',b',c',e''⟩ | ⟨a',b',c'⟩
    ·rw [if_pos a,if_pos a'] at e;exact ext (by omega) (by omega)
    ·rw [if_pos a,if_neg (by omega)] at e;omega
    ·rw [if_neg (by omega),if_pos a'] at e;omega
    ·rw [if_neg (by omega),if_neg (by omega)] at e;exact ext (by omega) (by omega)
 rcases kJ 69 pts.length with h | h
 ·exfalso
  obtain ⟨i,j,h1,h2,h3⟩:=wIa 68 (fun k=>if k < pts.length then cod (gd pts k) else 0) (fun k hk=>by
   rw [if_pos (by omega)]
   exact key _ (D.gd_ok (by omega)).1)
  rw [if_pos (by omega),if_pos (by omega)] at h3
  have e:=inj _ _ (D.gd_ok (v:=i) (by omega)).1 (D.gd_ok (v:=j) (by omega)).1 h3
  rw [wHv (show i < pts.length by omega),wHv (show j < pts.length by omega)] at e
  have:=(List.getElem_inj D.nd).1 e
  omega
 ·exact h
section
variable {r:wAC} {d:wAW} {pts:List Pt} (D:Desk r d pts)
include D
theorem Desk.edge {k:Nat} (hk:k < d.edges.length):∃ x,wCZ r x/\(gd d.edges k).step=x/\(gd d.edges k).from_=(pos pts (wCS r x).1:Int)/\(gd d.edges k).to_=(pos pts (wCS r x).2.1:Int)/\(gd d.edges k).count=(wCS r x).2.2:=by
 have hm:=wBo hk
 rw [D.edges] at hm
 obtain ⟨x,hx,e⟩:=nT.1 hm
 have hx:=wEU.1 hx
 obtain ⟨o1,o2,_,_⟩:=wEE D.c hx
 rw [D.edges,<- e]
 exact ⟨x,hx,rfl,(wGE D.nd ((D.all _).2 o1)).2.2.1,(wGE D.nd ((D.all _).2 o2)).2.2.1,rfl⟩
end
end Go.Proofs.Ytlnfbjphfoipaaa
namespace Go.Proofs.Ytlnfbjphfoipaaa
open Go.KL Go.KL.Net
open Classical
theorem wIE {r:wAC} (S:wEV r) {x:wAF} (h:wCZ r x):wAv r x=some true:=by
 have hn:=S.n;have hm:=S.m;have hc:=S.c;have hq:=S.q
 unfold wAv
 rcases h with ⟨k,a,b,c⟩ | ⟨k,a,b,c,e⟩ | ⟨k,a,b,c⟩ | ⟨k,a,b,c⟩
 ·rw [if_pos k,wDs,hD,if_pos (by unfold inB;rw [decide_eq_true_eq];omega),show wAg=some () from rfl,hD]
  unfold wDC
  rw [wAT (by omega) (by omega),wDs,hD,if_pos (by unfold inB;rw [decide_eq_true_eq];omega),hD,decide_eq_true c]
 ·rw [if_neg (by omega),if_pos k,wDs,hD,if_pos (by unfold inB;rw [decide_eq_true_eq];omega),show wAg=some () from rfl,hD]
  unfold wDD
  rw [wAT (by omega) (by omega),wDs,hD,if_pos (by unfold inB;rw [decide_eq_true_eq];omega),wAT (by omega) (by omega),wDs,hD,hD]
  congr 1
  unfold inB;rw [decide_eq_true_eq];omega
 ·rw [if_neg (by omega),if_neg (by omega),if_pos k,wDs,hD,if_pos (by unfold inB;rw [decide_eq_true_eq];omega),show wAg=some () from rfl,hD]
  unfold wDE
  rw [if_pos a,wAT (by omega) (by omega),wDs,hD,hD]
  congr 1
  unfold inB;rw [decide_eq_true_eq];omega
 ·rw [if_neg (by omega),if_neg (by omega),if_neg (by omega),if_pos k,wDs,hD,if_pos (by unfold inB;rw [decide_eq_true_eq];omega),show wAg=some () from rfl,hD]
  unfold wCl
  rw [if_pos a,wAT (by omega) (by omega),wDs,hD,hD]
  congr 1
  unfold inB;rw [decide_eq_true_eq];omega
theorem wHJ {l:List wAF} {f:wAF->Option Bool} {p:wAF->Bool} (hf:∀ a ∈ l,f a=some (p a)) (hn:l.length <= 1000):wBT l f=some (l.all p):=by
 unfold wBT
 refine (wFc (R:=Bool) (p:=p) (z:=false) (K:=fun _=>some true) (fun a ha=>?_) (by omega)).trans ?_
 ·rw [hf a ha,hD];split <;> rfl
 ·split <;> simp_all
theorem wKR {r:wAC} (C:RC r) {l:List wAF} (hl:l.length <= 100) {p q:Pt} {s:Int} (h:Fol r p l q s):wAo r p l=some (q,s,true):=by
 unfold wAo
 rw [wCo (by omega)]
 have key:∀ (m k:Nat) (p:Pt) (t s:Int),k + m=l.length->Fol r p (l.drop k) q s->-400000 * (k:Int) <= t->t <= 400000 * (k:Int)->forN (B:=wAJ × Int × Bool) (fun (k27:Nat) ((x24,x25,x26):Int × Int × Int) =>
  (idx l (↑k27:Int)).bind fun x50 =>
  (wAt r x50).bind fun (x69,x70,x71) =>
  if x69=(⟨x24,x25⟩:wAJ) then
   some (.inl (x70.skier,x70.mat,w64 (x26 + x71)))
  else
   esc (some ((⟨x24,x25⟩:wAJ),0,false))) m k (p.skier,p.mat,t)=some (.inl (q.skier,q.mat,t + s)):=by
  intro m
  induction m with
  | zero =>
   intro k p t s hk hf _ _
   rw [nb (by omega)] at hf
   obtain ⟨rfl,rfl⟩:=hf
   rw [Int.add_zero]
   rfl
  | succ m ih =>
   intro k p t s hk hf h1 h2
   have hk':k < l.length:=by omega
   rw [wKC hk'] at hf
   obtain ⟨f1,f2,f3⟩:=hf
   have c:=(wEE C f1).2.2
   have e:=wFg C f1
   generalize wCS r (gd l k)=L at e f2 f3 c
   obtain ⟨L1,L2,L3⟩:=L
   simp only at f2 f3 c
   rw [forN,wBk hk']
   simp only [hD,e]
   rw [if_pos (by rw [f2]),wAT (by omega) (by omega)]
   have:=ih (k + 1) L2 (t + L3) (s - L3) (by omega) f3 (by omega) (by omega)
   rw [show t + L3 + (s - L3)=t + s by omega] at this
   exact this
 have:=key l.length 0 p 0 s (by omega) (by simpa using h) (by omega) (by omega)
 rw [Int.zero_add] at this
 erw [this]
 rfl
theorem wJZ {l:List wAF} (hl:l.length <= 1000):wAh l=some l.reverse:=by
 unfold wAh
 exact wKm (by omega)
end Go.Proofs.Ytlnfbjphfoipaaa
namespace Go.Proofs.Ytlnfbjphfoipaaa
open Go.KL Go.KL.Net
open Classical
theorem wKS {r:wAC} (S:wEV r) {x:wAF} (hk:0 <= x.Kind/\x.Kind <= 3) (h:¬ wCZ r x):wAv r x=some false:=by
 have hn:=S.n;have hm:=S.m;have hc:=S.c;have hq:=S.q
 have h0:¬ _:=fun a=>h (.inl a)
 have h1:¬ _:=fun a=>h (.inr (.inl a))
 have h2:¬ _:=fun a=>h (.inr (.inr (.inl a)))
 have h3:¬ _:=fun a=>h (.inr (.inr (.inr a)))
 have kin:inB x.Kind 0 3=true:=by unfold inB;rw [decide_eq_true_eq];omega
 unfold wAv
 by_cases k0:x.Kind=0
 ·rw [if_pos k0,wDs,hD,if_pos kin,show wAg=some () from rfl,hD]
  unfold wDC
  rw [wAT (by omega) (by omega),wDs,hD]
  by_cases c:inB x.Skier 0 ((r.Starts.length:Int) - 1)=true
  ·rw [if_pos c,hD]
   unfold inB at c
   rw [decide_eq_true_eq] at c
   rw [decide_eq_false (fun e=>h0 ⟨k0,by omega,by omega,e⟩)]
  ·rw [if_neg c,hD]
 rw [if_neg k0]
 by_cases k1:x.Kind=1
 ·rw [if_pos k1,wDs,hD,if_pos kin,show wAg=some () from rfl,hD]
  unfold wDD
  rw [wAT (by omega) (by omega),wDs,hD]
  by_cases c:inB x.Skier 0 ((r.Starts.length:Int) - 1)=true
  ·rw [if_pos c,wAT (by omega) (by omega),wDs,hD,hD]
   unfold inB at c ⊢
   rw [decide_eq_true_eq] at c
   rw [decide_eq_false (fun e=>h1 ⟨k1,by omega,by omega,by omega,by omega⟩)]
  ·rw [if_neg c,hD]
 rw [if_neg k1]
 by_cases k2:x.Kind=2
 ·rw [if_pos k2,wDs,hD,if_pos kin,show wAg=some () from rfl,hD]
  unfold wDE
  by_cases c:x.Skier=0
  ·rw [if_pos c,wAT (by omega) (by omega),wDs,hD,hD]
   unfold inB
   rw [decide_eq_false (fun e=>h2 ⟨k2,c,by omega,by omega⟩)]
  ·rw [if_neg c,hD]
 have k3:x.Kind=3:=by omega
 rw [if_neg k2,if_pos k3,wDs,hD,if_pos kin,show wAg=some () from rfl,hD]
 unfold wCl
 by_cases c:x.Skier=0
 ·rw [if_pos c,wAT (by omega) (by omega),wDs,hD,hD]
  unfold inB
  rw [decide_eq_false (fun e=>h3 ⟨k3,c,by omega,by omega⟩)]
 ·rw [if_neg c,hD]
theorem wJa {r:wAC} (C:RC r) {l:List wAF} (hl:l.length <= 100) (hs:∀ x ∈ l,wCZ r x) (p:Pt):∃ a b c,wAo r p l=some (a,b,c)/\(c=true->Fol r p l a b):=by
 unfold wAo
 rw [wCo (by omega)]
 rcases wFb (B:=wAJ × Int × Bool) (body:=fun (k27:Nat) ((x24,x25,x26):Int × Int × Int) =>
  (idx l (↑k27:Int)).bind fun x50 =>
  (wAt r x50).bind fun (x69,x70,x71) =>
  if x69=(⟨x24,x25⟩:wAJ) then
   some (.inl (x70.skier,x70.mat,w64 (x26 + x71)))
  else
   esc (some ((⟨x24,x25⟩:wAJ),0,false))) (fun k s=>Fol r p (l.take k) ⟨s.1,s.2.1⟩ s.2.2/\-400000 * (k:Int) <= s.2.2/\s.2.2 <= 400000 * (k:Int)) (fun b=>b.2.2=false) l.length 0 (p.skier,p.mat,0) ⟨⟨rfl,rfl⟩,by simp,by simp⟩ (by
  rintro k ⟨a,b,t⟩ _ hk ⟨h1,h2,h3⟩
  simp only at h1 h2 h3
  have hk':k < l.length:=by omega
  have ok:=hs _ (wBo hk')
  have c:=(wEE C ok).2.2
  have sn:(wCS r (gd l k)).1=⟨a,b⟩->Fol r p (l.take k ++ [gd l k]) (wCS r (gd l k)).2.1 (t + (wCS r (gd l k)).2.2):=fun h=>Fol.snoc ok (by rw [h];exact h1)
  have ld:=wFg C ok
  generalize wCS r (gd l k)=L at c sn ld
  obtain ⟨L1,L2,L3⟩:=L
  simp only at c sn
  rw [wBk hk']
  simp only [hD,ld]
  by_cases e:L1=⟨a,b⟩
  ·left
   rw [if_pos e,wAT (by omega) (by omega)]
   refine ⟨_,rfl,?_,by simp only;omega,by simp only;omega⟩
   rw [wEe hk']
   exact sn e
  ·right
   rw [if_neg e]
   exact ⟨_,rfl,rfl⟩) with ⟨⟨a,b,t⟩,e,h1,_⟩ | ⟨⟨a,b,c⟩,e,h1⟩
 ·erw [e]
  rw [nK,nR] at h1
  exact ⟨_,_,_,rfl,fun _=>h1⟩
 ·erw [e]
  exact ⟨_,_,_,rfl,fun h=>by simp only at h1;rw [h1] at h;cases h⟩
theorem Fol.le {r:wAC} {y:Pt->Int} (F:wCq r y):∀ {p:Pt} {l:List wAF} {q:Pt} {s:Int},Fol r p l q s->y q <= y p + s
 | _,[],_,_,⟨h1,h2⟩=>by rw [h1,h2];omega
 | _,x :: l,_,_,⟨h1,h2,h3⟩=>by
  have:=Fol.le F h3
  have:=F x h1
  rw [h2] at this
  omega
theorem wJb {r:wAC} (S:wEV r) (c:code r=0) (hy:∃ y,wCq r y) {l:List wAF} (hl:l.length <= 60) (hk:∀ x ∈ l,0 <= x.Kind/\x.Kind <= 3):∃ s e,wBR r l=some (s,e)/\(e=8 \/ e=1):=by
 have C:=wGc c
 obtain ⟨y,F⟩:=hy
 unfold wBR
 rw [wFv S,hD,if_pos c]
 unfold wBd
 rw [if_neg (by omega),wHJ (p:=fun x=>decide (wCZ r x)) (fun x hx=>by
  by_cases h:wCZ r x
  ·rw [wIE S h,decide_eq_true h]
  ·rw [wKS S (hk x hx) h,decide_eq_false h]) (by omega),hD]
 by_cases all:∀ x ∈ l,wCZ r x
 ·rw [if_pos (by rw [nN];exact fun x hx=>decide_eq_true (all x hx)),hD,if_pos rfl]
  match l,hl,all with
  | [],_,_=>exact ⟨_,_,rfl,.inl rfl⟩
  | x :: l',hl,all =>
   rw [if_neg (by simp only [hH];omega)]
   have i0:idx (x :: l') 0=some x:=rfl
   rw [i0,hD,wFg C (all x (.head _)),hD]
   simp only
   rw [hD]
   simp only
   obtain ⟨a,b,t,e,h⟩:=wJa C (by omega) all (wCS r x).1
   show ∃ s e,(wAo r (wCS r x).1 (x :: l')).bind _=some (s,e)/\_
   rw [e,hD]
   simp only
   by_cases ht:t=true
   ·rw [if_pos ht]
    have f:=(h ht).le F
    split
    ·rename_i ea
     rw [if_pos]
     ·exact ⟨_,_,rfl,.inl rfl⟩
     ·have ea:a=(wCS r x).1:=ea
      rw [ea] at f
      omega
    ·exact ⟨_,_,rfl,.inl rfl⟩
   ·rw [if_neg ht]
    exact ⟨_,_,rfl,.inl rfl⟩
 ·rw [if_neg (fun h=>all (by rw [nN] at h;exact fun x hx=>of_decide_eq_true (h x hx))),hD,if_neg (by omega)]
  exact ⟨_,_,rfl,.inr rfl⟩
end Go.Proofs.Ytlnfbjphfoipaaa
namespace Go.Proofs.Ytlnfbjphfoipaaa
open Go.KL Go.KL.Net
open Classical
structure CI (n:Nat) (es:List wAV) (p:Bool) (t i:Nat) (far by_:List Int) (T U:Nat->Nat) (s:Nat):Prop where
 fl:far.length=n
 bl:by_.length=n
 tl:∀ v,v < n->T v <= t
 ul:∀ v,v < n->U v <= s
 ro:∀ v,v < n->(gd by_ v=-1/\T v=0) \/ ∃ k,k < es.length/\gd by_ v=(k:Int)/\(ed p (gd es k)).b=v/\T v <= T (ed p (gd es k)).a + 1/\gd far (ed p (gd es k)).a + (ed p (gd es k)).c <= gd far v/\(U v <= U (ed p (gd es k)).a->gd far (ed p (gd es k)).a + (ed p (gd es k)).c < gd far v)
 re:∀ j,j < es.length->(gd far (ed p (gd es j)).a < 1125899906842624->gd far (ed p (gd es j)).b <= gd far (ed p (gd es j)).a + (ed p (gd es j)).c) \/ (if j < i then t else t - 1) <= T (ed p (gd es j)).a
theorem wLx {n:Nat} {es:List wAV} {p:Bool} {t i:Nat} {far by_:List Int} {T U:Nat->Nat} {s:Nat} (I:CI n es p t i far by_ T U s) (hi:i < es.length) (ha:(ed p (gd es i)).a < n) (hb:(ed p (gd es i)).b < n) (c:gd far (ed p (gd es i)).a < 1125899906842624/\gd far (ed p (gd es i)).a + (ed p (gd es i)).c < gd far (ed p (gd es i)).b) (ends:∀ j,j < es.length->(ed p (gd es j)).a < n/\(ed p (gd es j)).b < n) :
  CI n es p t (i + 1) (far.set (ed p (gd es i)).b (gd far (ed p (gd es i)).a + (ed p (gd es i)).c)) (by_.set (ed p (gd es i)).b (i:Int)) (fun v=>if v=(ed p (gd es i)).b then t else T v) (fun v=>if v=(ed p (gd es i)).b then s + 1 else U v) (s + 1):=by
 obtain ⟨fl,bl,tl,ul,ro,re⟩:=I
 have hre:=re i hi
 generalize hE:ed p (gd es i)=E at *
 obtain ⟨c1,c2⟩:=c
 have gf:∀ u,gd (far.set E.b (gd far E.a + E.c)) u=if u=E.b then gd far E.a + E.c else gd far u:=fun u=>by
  by_cases hu:u < n
  ·rw [wEs (by omega) (by omega)]
  ·rw [if_neg (by omega)]
   unfold gd
   simp only [nk,kO]
   rw [if_neg (by omega)]
 have gb:∀ u,u < n->gd (by_.set E.b (i:Int)) u=if u=E.b then (i:Int) else gd by_ u:=fun u hu=>by rw [wEs (by omega) (by omega)]
 have ht:t <= T E.a + 1:=by
  rcases hre with h | h
  ·have:=h c1;omega
  ·rw [if_neg (by omega)] at h;omega
 refine ⟨by simpa using fl,by simpa using bl,fun v hv=>?_,fun v hv=>?_,fun v hv=>?_,fun j hj=>?_⟩
 ·have:=tl v hv
  try simp only
  split <;> omega
 ·have:=ul v hv
  try simp only
  split <;> omega
 ·rw [gb v hv]
  by_cases e:v=E.b
  ·right
   refine ⟨i,hi,by rw [if_pos e],by rw [hE,e],?_,?_,?_⟩
   ·rw [hE];try simp only
    rw [if_pos e];split <;> omega
   ·rw [hE,gf,gf,if_pos e];split
    ·rename_i h;rw [h] at c2 ⊢;omega
    ·omega
   ·rw [hE,gf,gf,if_pos e];try simp only
    rw [if_pos e]
    have:=ul E.a ha
    by_cases h:E.a=E.b
    ·rw [if_pos h];intro _;rw [h] at c2 ⊢;omega
    ·rw [if_neg h];intro _;omega
  ·rcases ro v hv with ⟨q1,q2⟩ | ⟨k,hk,q1,q2,q3,q4,q5⟩
   ·left
    refine ⟨by rw [if_neg e];exact q1,?_⟩
    try simp only
    rw [if_neg e];exact q2
   ·right
    have:=tl v hv
    refine ⟨k,hk,by rw [if_neg e];exact q1,q2,?_,?_,?_⟩
    ·try simp only
     rw [if_neg e];split <;> omega
    ·rw [gf,gf,if_neg e];split
     ·rename_i h;rw [h] at q4;omega
     ·exact q4
    ·rw [gf,gf,if_neg e];try simp only
     rw [if_neg e];split
     ·rename_i h;rw [h] at q4;intro _;omega
     ·exact q5
 ·have hT:=tl (ed p (gd es j)).a (ends j hj).1
  rw [gf,gf]
  try simp only
  by_cases h1:(ed p (gd es j)).a=E.b
  ·right
   rw [if_pos h1];split <;> omega
  ·rw [if_neg h1,if_neg h1]
   by_cases h2:j=i
   ·left
    subst h2
    rw [hE] at h1 ⊢
    rw [if_pos rfl]
    intro _;exact kQ _
   ·rcases re j hj with h | h
    ·left
     intro h3
     have:=h h3
     split
     ·rename_i h4;rw [h4] at this;omega
     ·exact this
    ·right
     split at h <;> split <;> omega
theorem wLy {n:Nat} {es:List wAV} {p:Bool} {t i:Nat} {far by_:List Int} {T U:Nat->Nat} {s:Nat} (I:CI n es p t i far by_ T U s) (c:¬ (gd far (ed p (gd es i)).a < 1125899906842624/\gd far (ed p (gd es i)).a + (ed p (gd es i)).c < gd far (ed p (gd es i)).b)):CI n es p t (i + 1) far by_ T U s:=by
 obtain ⟨fl,bl,tl,ul,ro,re⟩:=I
 refine ⟨fl,bl,tl,ul,ro,fun j hj=>?_⟩
 by_cases h2:j=i
 ·left
  subst h2
  intro h
  have:¬ _:=fun h'=>c ⟨h,h'⟩
  omega
 ·rcases re j hj with h | h
  ·exact .inl h
  ·right
   split at h <;> split <;> omega
theorem wLz {n:Nat} {es:List wAV} (hes:∀ e ∈ es,wLN n e) (hl:es.length <= 1000) (p:Bool) {far by_:List Int} {t:Nat} {T U:Nat->Nat} {s0:Nat} (I:CI n es p t es.length far by_ T U s0) {M:Int} (hM:M <= 900000000000000) (h0:0 <= M) (hr:∀ v,v < n->gd far v=1125899906842624 \/ (-M <= gd far v/\gd far v <= M)) {s:SS} (e:wBY 0 (↑es.length:Int) (spB es p) (far,by_,-1)=some s) :
  ∃ T' U' s',CI n es p (t + 1) es.length s.1 s.2.1 T' U' s'/\(s.2.2=-1 \/ ∃ v,v < n/\s.2.2=(v:Int)/\T' v=t + 1):=by
 rw [wCv (by omega)] at e
 have ends:∀ j,j < es.length->(ed p (gd es j)).a < n/\(ed p (gd es j)).b < n:=fun j hj=>by
  obtain ⟨a1,a2,a3,a4,_,_⟩:=hes _ (wBo hj)
  unfold ed
  split <;> (simp only;omega)
 obtain ⟨s',e',P⟩:=wDW (body:=spB es p) (fun (j:Nat) s=>(∃ T' U' s',CI n es p (t + 1) j s.1 s.2.1 T' U' s'/\(s.2.2=-1 \/ ∃ v,v < n/\s.2.2=(v:Int)/\T' v=t + 1))/\∀ v,v < n->gd s.1 v=1125899906842624 \/ (-(M + 400000 * (j:Int)) <= gd s.1 v/\gd s.1 v <= M + 400000 * (j:Int))) es.length 0 (far,by_,-1) ⟨⟨T,U,s0,⟨I.fl,I.bl,fun v hv=>by have:=I.tl v hv;omega,I.ul,I.ro,fun j hj=>by
   rcases I.re j hj with h | h
   ·exact .inl h
   ·right;rw [if_pos hj] at h;rw [if_neg (by omega)];omega⟩,.inl rfl⟩,fun v hv=>by simpa using hr v hv⟩ (by
  rintro j ⟨f,b,la⟩ _ hj ⟨⟨T',U',s',J,lst⟩,rg⟩
  simp only at J lst rg
  have hj':j < es.length:=by omega
  obtain ⟨ha,hb,e2⟩:=wLO hes (p:=p) (k:=j) hj' (last:=la) J.fl J.bl (M:=M + 400000 * (j:Int)) (by omega) (by omega) rg
  have hok:=hes _ (wBo hj')
  have hc:-400000 <= (ed p (gd es j)).c/\(ed p (gd es j)).c <= 400000:=by
   have:=hok.c0;have:=hok.c1
   unfold ed
   split <;> exact ⟨by assumption,by assumption⟩
  have rj:=rg (ed p (gd es j)).a ha
  by_cases c:gd f (ed p (gd es j)).a < 1125899906842624/\gd f (ed p (gd es j)).a + (ed p (gd es j)).c < gd f (ed p (gd es j)).b
  ·rw [if_pos c] at e2
   refine ⟨_,e2,⟨_,_,_,wLx J hj' ha hb c ends,.inr ⟨_,hb,rfl,by simp⟩⟩,fun v hv=>?_⟩
   simp only
   have hfl:=J.fl
   rw [wEs (by omega) (by omega)]
   have:=rg v hv
   split <;> omega
  ·rw [if_neg c] at e2
   refine ⟨_,e2,⟨T',U',s',wLy J c,lst⟩,fun v hv=>?_⟩
   have:=rg v hv
   simp only
   omega)
 rw [e'] at e
 cases e
 obtain ⟨h,_⟩:=P
 simpa using h
end Go.Proofs.Ytlnfbjphfoipaaa
namespace Go.Proofs.Ytlnfbjphfoipaaa
open Go.KL Go.KL.Net
open Classical
theorem wKT {d:wAW} {n:Nat} (hn:d.number.length=n) (h1:1 <= n) (h2:n <= 500) (hes:∀ e ∈ d.edges,wLN n e) (hl:d.edges.length <= 1000) (i:Int) (p:Bool) {f:wAb} {last:Int} (e:wAd d i p=some (f,last,false)):∃ T U s,CI n d.edges p (n + 1) d.edges.length f.far f.by_ T U s/\∃ v,v < n/\last=(v:Int)/\T v=n + 1:=by
 unfold wAd at e
 rw [hn,wFe _ h1 (by omega),hD,wFe _ h1 (by omega),hD,hD] at e
 simp only at e
 obtain ⟨z,e1,y1,y2⟩:=wKF (n:=n) i (l:=hU n 1125899906842624) (by simp) (by omega) (fun v hv=>by rw [wHv (by simpa using hv)];simp)
 rw [e1,hD,wAT (by omega) (by omega)] at e
 have hn1:((n:Int) + 1)=((n + 1:Nat):Int):=by omega
 rw [hn1,wCo (by omega)] at e
 have gm:∀ v,v < n->gd (hU n (-1:Int)) v=-1:=fun v hv=>by rw [wHv (by simpa using hv)];simp
 have I0:CI n d.edges p 0 d.edges.length z (hU n (-1)) (fun _=>0) (fun _=>0) 0:=⟨y1,by simp,fun _ _=>nA _,fun _ _=>nA _,fun v hv=>.inl ⟨gm v hv,rfl⟩,fun j hj=>.inr (by rw [if_pos hj];exact nA _)⟩
 rcases wFb (B:=wAb × Int × Bool) (body:=fun (k1336:Nat) ((l1333,l1334,x1335):SS) =>
  (wBY 0 (↑d.edges.length:Int) (spB d.edges p) (l1333,l1334,-1)).bind fun (y1380,y1381,y1382) =>
  if y1382 < 0 then
   esc (some ((⟨y1380,y1381⟩:wAb),0,true))
  else
   some (.inl (y1380,y1381,y1382))) (fun (t:Nat) s=>(∃ T U s',CI n d.edges p t d.edges.length s.1 s.2.1 T U s'/\(t=0 \/ ∃ v,v < n/\s.2.2=(v:Int)/\T v=t))/\∀ v,v < n->gd s.1 v=1125899906842624 \/ (-(400000000 * (t:Int)) <= gd s.1 v/\gd s.1 v <= 400000000 * (t:Int))) (fun b=>b.2.2=true) (n + 1) 0 (z,hU n (-1),-1)
  ⟨⟨_,_,_,I0,.inl rfl⟩,fun v hv=>by simp only;rw [y2 v hv];unfold wHU;split <;> omega⟩ (by
   rintro t ⟨far,by_,la⟩ _ ht ⟨⟨T,U,s',J,_⟩,rg⟩
   simp only at J rg
   obtain ⟨⟨far',by',last'⟩,e2,P⟩:=wKD hes hl p J.fl J.bl (M:=400000000 * (t:Int)) (by omega) (by omega) rg
   obtain ⟨T',U',s'',J2,lst⟩:=wLz hes hl p J (M:=400000000 * (t:Int)) (by omega) (by omega) rg e2
   simp only at J2 lst ⊢
   rw [e2,hD]
   simp only
   by_cases c:last' < 0
   ·right
    rw [if_pos c]
    exact ⟨_,rfl,rfl⟩
   ·left
    rw [if_neg c]
    refine ⟨_,rfl,⟨T',U',s'',J2,.inr (lst.resolve_left (by omega))⟩,fun v hv=>?_⟩
    show gd far' v=_ \/ (_ <= gd far' v/\gd far' v <= _)
    rcases P.rg v hv with q | q
    ·exact .inl q
    ·right;simp only at q;omega) with ⟨⟨far,by_,la⟩,e2,⟨T,U,s',J,hv⟩,_⟩ | ⟨⟨f2,la,o⟩,e2,I⟩
 ·have e:jn (forN (B:=wAb × Int × Bool) (fun (k1336:Nat) ((l1333,l1334,x1335):SS) =>
  (wBY 0 (↑d.edges.length:Int) (spB d.edges p) (l1333,l1334,-1)).bind fun (y1380,y1381,y1382) =>
  if y1382 < 0 then
   esc (some ((⟨y1380,y1381⟩:wAb),0,true))
  else
   some (.inl (y1380,y1381,y1382))) (n + 1) 0 (z,hU n (-1),-1)) (fun (a,b,c)=>some ((⟨a,b⟩:wAb),c,false))=some (f,last,false):=e
  rw [e2] at e
  cases e
  rw [nK] at J hv
  exact ⟨T,U,s',J,hv.resolve_left (by omega)⟩
 ·have e:jn (forN (B:=wAb × Int × Bool) (fun (k1336:Nat) ((l1333,l1334,x1335):SS) =>
  (wBY 0 (↑d.edges.length:Int) (spB d.edges p) (l1333,l1334,-1)).bind fun (y1380,y1381,y1382) =>
  if y1382 < 0 then
   esc (some ((⟨y1380,y1381⟩:wAb),0,true))
  else
   some (.inl (y1380,y1381,y1382))) (n + 1) 0 (z,hU n (-1),-1)) (fun (a,b,c)=>some ((⟨a,b⟩:wAb),c,false))=some (f,last,false):=e
  rw [e2] at e
  cases e
  simp only at I
  cases I
theorem wMu {P:Nat->Prop} (h:∃ m,P m):∃ m,P m/\∀ k,k < m->¬ P k:=by
 obtain ⟨m,hm⟩:=h
 induction m using Nat.strongRecOn with
 | ind m ih =>
  by_cases c:∃ k,k < m/\P k
  ·obtain ⟨k,h1,h2⟩:=c
   exact ih k h1 h2
  ·exact ⟨m,hm,fun k h1 h2=>c ⟨k,h1,h2⟩⟩
def bk (es:List wAV) (by_:List Int) (v:Nat):Nat:=(gd es (gd by_ v).toNat).from_.toNat
def bkN (es:List wAV) (by_:List Int):Nat->Nat->Nat
 | 0,v=>v
 | k + 1,v=>bkN es by_ k (bk es by_ v)
theorem wEt {es:List wAV} {by_:List Int}:∀ (a b v:Nat),bkN es by_ (a + b) v=bkN es by_ b (bkN es by_ a v)
 | 0,b,v=>by rw [nK];rfl
 | a + 1,b,v=>by rw [show a + 1 + b=(a + b) + 1 by omega];exact wEt a b _
theorem wHa {es:List wAV} {by_:List Int} (k v:Nat):bkN es by_ (k + 1) v=bk es by_ (bkN es by_ k v):=wEt k 1 v
structure Rnd (n:Nat) (es:List wAV) (far by_:List Int) (P m:Nat):Prop where
 lt:∀ k,k <= m->bkN es by_ k P < n
 on:∀ k,k < m->∃ j,j < es.length/\gd by_ (bkN es by_ k P)=(j:Int)/\(gd es j).to_.toNat=bkN es by_ k P/\(gd es j).from_.toNat=bkN es by_ (k + 1) P
 m1:1 <= m
 mn:m <= n
 cl:bkN es by_ m P=P
 no:∀ k,1 <= k->k < m->bkN es by_ k P ≠ P
theorem Rnd.sum {n:Nat} {es:List wAV} {far by_:List Int} {t:Nat} {T U:Nat->Nat} {s P m:Nat} (R:Rnd n es far by_ P m) (I:CI n es false t es.length far by_ T U s):∀ k,k <= m ->
  gd far (bkN es by_ k P) + ((nD k).map fun j=>(gd es (gd by_ (bkN es by_ j P)).toNat).count).sum <= gd far P /\
  ((∃ j,j < k/\U (bkN es by_ j P) <= U (bkN es by_ (j + 1) P))->gd far (bkN es by_ k P) + ((nD k).map fun j=>(gd es (gd by_ (bkN es by_ j P)).toNat).count).sum < gd far P):=by
 intro k
 induction k with
 | zero=>exact fun _=>⟨by simp [bkN],fun ⟨_,h,_⟩=>by omega⟩
 | succ k ih =>
  intro hk
  obtain ⟨i1,i2⟩:=ih (by omega)
  obtain ⟨j,hj,q1,q2,q3⟩:=R.on k (by omega)
  rw [kA,na,List.sum_append,nm,kK,List.sum_cons,List.sum_nil,q1,nE]
  rcases I.ro _ (R.lt k (by omega)) with ⟨r1,_⟩ | ⟨j',hj',r1,r2,r3,r4,r5⟩
  ·omega
  ·have:j'=j:=by omega
   subst this
   have ea:(ed false (gd es j')).a=bkN es by_ (k + 1) P:=q3
   have ec:(ed false (gd es j')).c=(gd es j').count:=rfl
   rw [ea,ec] at r4 r5
   refine ⟨by omega,fun ⟨x,hx,hx2⟩=>?_⟩
   by_cases c:x=k
   ·subst c
    have:=r5 hx2
    omega
   ·have:=i2 ⟨x,by omega,hx2⟩
    omega
theorem Rnd.neg {n:Nat} {es:List wAV} {far by_:List Int} {t:Nat} {T U:Nat->Nat} {s P m:Nat} (R:Rnd n es far by_ P m) (I:CI n es false t es.length far by_ T U s):((nD m).map fun j=>(gd es (gd by_ (bkN es by_ j P)).toNat).count).sum < 0:=by
 have h:=(R.sum I m (nA _)).2
 rw [R.cl] at h
 have:=h (by
  apply Classical.byContradiction
  intro no
  have dec:∀ k,k <= m->U (bkN es by_ k P) + k <= U P:=by
   intro k
   induction k with
   | zero=>exact fun _=>nA _
   | succ k ih =>
    intro hk
    have:=ih (by omega)
    have:¬ U (bkN es by_ k P) <= U (bkN es by_ (k + 1) P):=fun h=>no ⟨k,by omega,h⟩
    omega
  have:=dec m (nA _)
  rw [R.cl] at this
  have:=R.m1
  omega)
 omega
theorem wMv {n:Nat} {es:List wAV} (hes:∀ e ∈ es,wLN n e) {far by_:List Int} {T U:Nat->Nat} {s:Nat} (I:CI n es false (n + 1) es.length far by_ T U s) {v:Nat} (hv:v < n) (hT:T v=n + 1):(∀ k,k <= n->bkN es by_ k v < n/\∃ j,j < es.length/\gd by_ (bkN es by_ k v)=(j:Int))/\∃ m,Rnd n es far by_ (bkN es by_ n v) m:=by
 have lnk:∀ u,u < n->1 <= T u->∃ j,j < es.length/\gd by_ u=(j:Int)/\(gd es j).to_.toNat=u/\(gd es j).from_.toNat=bk es by_ u/\bk es by_ u < n/\T u <= T (bk es by_ u) + 1:=by
  intro u hu h
  rcases I.ro u hu with ⟨_,r⟩ | ⟨j,hj,r1,r2,r3,_⟩
  ·omega
  ·have e:(gd es j).from_.toNat=bk es by_ u:=by unfold bk;rw [r1,nE]
   have ea:(ed false (gd es j)).a=bk es by_ u:=e
   rw [ea] at r3
   obtain ⟨a1,a2,_⟩:=hes _ (wBo hj)
   exact ⟨j,hj,r1,r2,e,by omega,r3⟩
 have down:∀ k,k <= n->bkN es by_ k v < n/\n + 1 <= T (bkN es by_ k v) + k:=by
  intro k
  induction k with
  | zero=>exact fun _=>⟨hv,by show n + 1 <= T v + 0;omega⟩
  | succ k ih =>
   intro hk
   obtain ⟨h1,h2⟩:=ih (by omega)
   obtain ⟨_,_,_,_,_,h3,h4⟩:=lnk _ h1 (by omega)
   rw [wHa]
   exact ⟨h3,by omega⟩
 refine ⟨fun k hk=>?_,?_⟩
 ·obtain ⟨h1,h2⟩:=down k hk
  obtain ⟨j,hj,e,_⟩:=lnk _ h1 (by omega)
  exact ⟨h1,j,hj,e⟩
 ·have hn1:1 <= n:=by omega
  obtain ⟨i,j,hij,hj,e⟩:=wIa (n - 1) (fun k=>if k <= n then bkN es by_ k v else 0) (fun k hk=>by
   show (if k <= n then bkN es by_ k v else 0) <= n - 1
   split
   ·rename_i h
    have:=(down k h).1
    omega
   ·omega)
  replace e:(if i <= n then bkN es by_ i v else 0)=(if j <= n then bkN es by_ j v else 0):=e
  rw [if_pos (by omega),if_pos (by omega)] at e
  have closed:bkN es by_ (j - i) (bkN es by_ n v)=bkN es by_ n v:=by
   rw [<- wEt,show n + (j - i)=j + (n - i) by omega,wEt,<- e,<- wEt,show i + (n - i)=n by omega]
  have ex:∃ m,1 <= m/\m <= j - i/\bkN es by_ m (bkN es by_ n v)=bkN es by_ n v:=⟨j - i,by omega,nA _,closed⟩
  obtain ⟨m,⟨m1,m2,m3⟩,mm⟩:∃ m,(1 <= m/\m <= j - i/\bkN es by_ m (bkN es by_ n v)=bkN es by_ n v)/\∀ k,k < m->¬ (1 <= k/\k <= j - i/\bkN es by_ k (bkN es by_ n v)=bkN es by_ n v):=wMu ex
  have back:∀ k,k <= j - i->bkN es by_ k (bkN es by_ n v)=bkN es by_ (n - (j - i) + k) v:=by
   intro k _
   have h1:bkN es by_ n v=bkN es by_ (n - (j - i)) v:=by
    rw [show n=j + (n - j) by omega,wEt,<- e,<- wEt]
    congr 1
    omega
   rw [h1,<- wEt]
  refine ⟨m,fun k hk=>?_,fun k hk=>?_,m1,by omega,m3,fun k h1 h2 h3=>mm k h2 ⟨h1,by omega,h3⟩⟩
  ·rw [back k (by omega)]
   exact (down _ (by omega)).1
  ·rw [wHa,back k (by omega)]
   obtain ⟨h1,h2⟩:=down (n - (j - i) + k) (by omega)
   obtain ⟨j',q1,q2,q3,q4,_⟩:=lnk _ h1 (by omega)
   exact ⟨j',q1,q2,q3,q4⟩
end Go.Proofs.Ytlnfbjphfoipaaa
namespace Go.Proofs.Ytlnfbjphfoipaaa
open Go.KL Go.KL.Net
open Classical
section
variable {r:wAC} {d:wAW} {pts:List Pt} (D:Desk r d pts)
include D
theorem wMA {f:wAb} {n v:Nat} (hn:n <= 500) (hb:f.by_.length=pts.length) (h:∀ k,k <= n->bkN d.edges f.by_ k v < pts.length/\∃ j,j < d.edges.length/\gd f.by_ (bkN d.edges f.by_ k v)=(j:Int)) :
    wBY 0 (↑n:Int) (fun k100 x99 =>
          (chk x99 f.by_.length).bind fun _ =>
          (idx d.edges (gd f.by_ x99.toNat)).bind fun x129 =>
          some x129.from_) (v:Int)=some (bkN d.edges f.by_ n v:Int):=by
  rw [wCv (by omega)]
  obtain ⟨s,e,P⟩:=wDW (body:=fun (k100:Nat) (x99:Int) =>
          (chk x99 f.by_.length).bind fun _ =>
          (idx d.edges (gd f.by_ x99.toNat)).bind fun x129 =>
          some x129.from_) (fun (k:Nat) (s:Int)=>s=(bkN d.edges f.by_ k v:Int)) n 0 (v:Int) rfl (by
    rintro k s _ hk rfl
    obtain ⟨h1,j,hj,h2⟩:=h k (by omega)
    rw [wDX (by omega) (by omega),hD,nE,h2,wBk hj,hD]
    obtain ⟨x,hx,e1,e2,_⟩:=D.edge hj
    refine ⟨_,rfl,?_⟩
    rw [wHa]
    unfold bk
    rw [h2,nE]
    omega)
  rw [e,P,nK]
theorem wJc {f:wAb} {P m:Nat} (hb:f.by_.length=pts.length) (R:Rnd pts.length d.edges f.far f.by_ P m) {g:Int->Option Bool} (hg:∀ v:Nat,g (v:Int)=some (decide (v=P))):∀ (c k:Nat) (out:List wAF) (F:Nat),k + c=m->out.length=k->c < F ->
  wBz F (bkN d.edges f.by_ k P:Int) f out g d ()=some (out ++ (nD c).map fun j=>(gd d.edges (gd f.by_ (bkN d.edges f.by_ (k + j) P)).toNat).step):=by
 have hmn:=R.mn
 have hp:=D.len.2
 intro c
 induction c with
 | zero =>
  intro k out F hk ho hF
  obtain ⟨G,rfl⟩:∃ G,F=G + 1:=⟨F - 1,by omega⟩
  have e0:bkN d.edges f.by_ k P=P:=by rw [show k=m by omega];exact R.cl
  obtain ⟨j,hj,q1,_⟩:=R.on 0 R.m1
  have q1:gd f.by_ P=(j:Int):=q1
  have lt:P < pts.length:=R.lt 0 (kR _)
  have:=R.m1
  show wAy _ _ _ _ _ _ _=_
  unfold wAy
  rw [e0,wBk (by omega),hD,q1,if_neg (by omega),if_pos (by omega),hg,decide_eq_true rfl,hD,hD,if_pos rfl]
  simp
 | succ c ih =>
  intro k out F hk ho hF
  obtain ⟨G,rfl⟩:∃ G,F=G + 1:=⟨F - 1,by omega⟩
  obtain ⟨j,hj,q1,q2,q3⟩:=R.on k (by omega)
  have lt:=R.lt k (by omega)
  obtain ⟨x,hx,e1,e2,e3,e4⟩:=D.edge hj
  show wAy _ _ _ _ _ _ _=_
  unfold wAy
  have cond:((idx f.by_ (bkN d.edges f.by_ k P:Int)).bind fun x7=>if x7 < 0 then some true else if 0 < (↑out.length:Int) then (g (bkN d.edges f.by_ k P:Int)).bind fun x20=>some x20 else some false)=some false:=by
   rw [wBk (by omega),hD,q1,if_neg (by omega)]
   split
   ·rw [hg,hD,decide_eq_false (R.no k (by omega) (by omega))]
   ·rfl
  rw [cond,hD,if_neg (by simp),wBk (by omega),hD,q1,wBk hj,hD,wCx (by simp only [hH,hJ];omega),hD]
  have:=ih (k + 1) (out ++ [(gd d.edges j).step]) G (by omega) (by simp only [nI,hH,hJ];omega) (by omega)
  rw [show ((bkN d.edges f.by_ (k + 1) P:Nat):Int)=(gd d.edges j).from_ by omega] at this
  rw [this,hD,List.range_succ_eq_map,nm,np,List.map_map]
  simp only [Nat.add_zero]
  rw [q1,nE,List.singleton_append]
  congr 3
  apply kG
  intro i _
  simp only [Function.comp_def]
  rw [show k + 1 + i=k + (i + 1) by omega]
theorem wMB {far by_:List Int} {P m:Nat} (R:Rnd pts.length d.edges far by_ P m):∀ k,k <= m->Fol r (gd pts (bkN d.edges by_ k P)) ((nD k).map fun j=>(gd d.edges (gd by_ (bkN d.edges by_ j P)).toNat).step).reverse (gd pts P) ((nD k).map fun j=>(gd d.edges (gd by_ (bkN d.edges by_ j P)).toNat).count).sum:=by
 intro k
 induction k with
 | zero=>exact fun _=>⟨rfl,rfl⟩
 | succ k ih =>
  intro hk
  have i1:=ih (by omega)
  obtain ⟨j,hj,q1,q2,q3⟩:=R.on k (by omega)
  obtain ⟨x,hx,e1,e2,e3,e4⟩:=D.edge hj
  obtain ⟨o1,o2,_,_⟩:=wEE D.c hx
  have p1:=(D.pos_ok o1).2.1
  have p2:=(D.pos_ok o2).2.1
  rw [kA,na,na,List.reverse_append,List.sum_append,nm,nm,kK,kK,List.sum_cons,List.sum_nil,q1,nE,e1]
  have hf:bkN d.edges by_ (k + 1) P=pos pts (wCS r x).1:=by omega
  have ht:bkN d.edges by_ k P=pos pts (wCS r x).2.1:=by omega
  rw [hf,p1]
  rw [ht,p2] at i1
  refine ⟨hx,rfl,?_⟩
  rw [e4]
  have e5:∀ s:Int,s + ((wCS r x).2.2 + 0) - (wCS r x).2.2=s:=fun s=>by omega
  rw [e5]
  exact i1
end
theorem wKw {r:wAC} (S:wEV r) (c:code r=0):((∃ y,wCq r y)->wDN r=some ([],6))/\((¬ ∃ y,wCq r y)->∃ l p s,wDN r=some (l,0)/\Fol r p l p s/\s < 0/\1 <= l.length/\l.length <= 69):=by
 rcases wGN S with ⟨h,_⟩ | ⟨_,d,pts,e,D⟩
 ·exact absurd c h
 obtain ⟨f,last,ok,e1,fl,bl,h1,_,h2⟩:=D.any
 unfold wDN
 rw [e,hD]
 simp only
 rw [if_pos trivial,e1,hD]
 simp only
 refine ⟨fun hy=>by rw [h1.2 hy,if_pos rfl],fun hy=>?_⟩
 have hok:ok=false:=by
  cases ok with
  | false=>rfl
  | true=>exact absurd (h1.1 rfl) hy
 subst hok
 rw [if_neg (by simp),D.nlen]
 obtain ⟨T,U,s,I,v,hv,rfl,hT⟩:=wKT D.nlen D.len.1 (by have:=D.len.2;omega) D.edOK D.elen (-1) false e1
 obtain ⟨w1,m,R⟩:=wMv D.edOK I hv hT
 have hp:=D.len.2
 have hm:=R.mn
 have h69:=wMt D
 rw [wMA D (by omega) bl w1,hD]
 unfold wCu
 have:=wJc D bl R (g:=fun x=>wBw x (bkN d.edges f.by_ pts.length v:Int)) (fun u=>by
  show wBw (u:Int) _=_
  unfold wBw
  by_cases h:u=bkN d.edges f.by_ pts.length v
  ·rw [decide_eq_true h,h,decide_eq_true rfl]
  ·rw [decide_eq_false h,decide_eq_false (fun h'=>h (by omega))]) m 0 [] 1000 (by omega) rfl (by omega)
 have z0:∀ u,bkN d.edges f.by_ 0 u=u:=fun _=>rfl
 rw [z0] at this
 rw [this,hD,nw,wJZ (by simp;omega),hD,hD]
 have F:=wMB D R m (nA _)
 rw [R.cl] at F
 simp only [nK]
 have:=R.m1
 exact ⟨_,_,_,rfl,F,R.neg I,by simp;omega,by simp;omega⟩
theorem wJd {r:wAC} (S:wEV r) (c:code r=0) {l:List wAF} (h1:1 <= l.length) (hl:l.length <= 80) {p:Pt} {s:Int} (hs:s < 0) (h:Fol r p l p s):wBR r l=some (s,0):=by
 have C:=wGc c
 unfold wBR
 rw [wFv S,hD,if_pos c]
 unfold wBd
 rw [if_neg (by omega),wHJ (p:=fun _=>true) (fun x hx=>wIE S (h.ok x hx)) (by omega),hD,if_pos (by simp),hD,if_pos rfl,if_neg (by omega)]
 match l,h1,h with
 | x :: l',_,h =>
  obtain ⟨q1,q2,q3⟩:=id h
  have i0:idx (x :: l') 0=some x:=rfl
  rw [i0,hD,wFg C q1,hD]
  simp only
  rw [hD]
  simp only
  rw [q2]
  show (wAo r p (x :: l')).bind _=_
  rw [wKR C (by omega) h,hD]
  simp only
  rw [if_pos trivial]
  rw [if_pos trivial,if_neg (by omega)]
end Go.Proofs.Ytlnfbjphfoipaaa
namespace Go.Proofs.Ytlnfbjphfoipaaa
open Go.KL
theorem wFK {l:List Int} (b:Int) (hn:l.length <= 1000):wAn l b=some (decide (b ∈ l)):=by
 have key:∀ (m k:Nat),k + m=l.length->∃ q,jn (forN (B:=Int) (fun k2 _ =>
   (idx l (↑k2:Int)).bind fun x22 =>
   if b=x22 then
    esc (some (↑k2:Int))
   else
    some (.inl ())) m k ()) (fun _=>some (-1))=some q/\(0 <= q ↔ b ∈ l.drop k):=by
  intro m
  induction m with
  | zero=>intro k hk;exact ⟨-1,rfl,by rw [nb (by omega)];simp⟩
  | succ m ih =>
   intro k hk
   have hlt:k < l.length:=by omega
   rw [forN,wKC hlt,wBk hlt,hD]
   by_cases e:b=gd l k
   ·rw [if_pos e]
    exact ⟨(k:Int),rfl,by simp [e]⟩
   ·rw [if_neg e]
    obtain ⟨q,h1,h2⟩:=ih (k + 1) (by omega)
    exact ⟨q,h1,by rw [h2];simp [e]⟩
 unfold wAn wCD
 obtain ⟨q,h1,h2⟩:=key l.length 0 (by omega)
 rw [wCo (by omega),h1,hD]
 rw [List.drop_zero] at h2
 simp [h2]
end Go.Proofs.Ytlnfbjphfoipaaa
namespace Go.Proofs.Ytlnfbjphfoipaaa
set_option maxRecDepth 100000 in
theorem aw06:wBD=some true:=by decide +kernel
end Go.Proofs.Ytlnfbjphfoipaaa
namespace Go.Proofs.Ytlnfbjphfoipaaa
open Go.KL Go.KL.Net
open Classical
theorem shcR {r:wAC} (C:RC r):wEV r:=by
 have hn:=C.n;have hm:=C.m;have hc:=C.c;have hq:=C.q
 exact ⟨by omega,by omega,by omega,by omega⟩
theorem wMC {r:wAC} (C:RC r) (q:Nat->Bool):RC (wr r (wFx q r.Readings r.Readings.length)) :=
 wMs C (by have:=wHY q r.Readings r.Readings.length;have:=C.q;omega) (fun x hx=>by
  obtain ⟨i,hi,_,rfl⟩:=wJK.1 hx
  exact wBo hi)
theorem wHb {r:wAC} (C:RC r) (q:Nat->Bool):∃ t o,wBF (wr r (wFx q r.Readings r.Readings.length))=some (t,o,if Wo r q then 0 else 7):=by
 have C2:=wMC C q
 obtain ⟨h1,h2⟩:=wJJ (shcR C2)
 have ee:wJW (wr r (wFx q r.Readings r.Readings.length)) []=if Wo r q then 0 else 7:=by
  unfold wJW
  rw [if_pos (wKO C2),if_pos (by rfl)]
  rfl
 by_cases w:Wo r q
 ·rw [if_pos w] at ee ⊢
  obtain ⟨y,_,e⟩:=h2 ee
  exact ⟨_,_,e⟩
 ·rw [if_neg w] at ee ⊢
  rw [h1 (by omega),ee]
  exact ⟨_,_,rfl⟩
theorem wGe {l:List wAI} (hl:l.length <= 100) (q:Nat->Bool) {body:Nat->List wAI->Option (List wAI)} (h:∀ k m,k < l.length->m.length <= k->body k m=some (if q k=true then m else m ++ [gd l k])):wBY 0 (↑l.length:Int) body []=some (wFx q l l.length):=by
 rw [wFd (S:=List wAI) (fun k=>wFx q l k) (s0:=[]) rfl (by omega) fun k hk=>?_]
 rw [h k _ hk (wHY q l k),wGF]
theorem wGP {r:wAC} {q q':Nat->Bool} (h:∀ k,k < r.Readings.length->q k=q' k):Wo r q ↔ Wo r q':=by
 have:∀ k,k <= r.Readings.length->wFx q r.Readings k=wFx q' r.Readings k:=by
  intro k
  induction k with
  | zero=>exact fun _=>rfl
  | succ k ih=>intro hk;rw [wGF,wGF,ih (by omega),h k (by omega)]
 unfold Wo
 rw [this _ (nA _)]
theorem wKx {l:List wAI} {q:Nat->Bool} (h:∀ k,k < l.length->q k=false):wFx q l l.length=l:=by
 have:∀ k,k <= l.length->wFx q l k=l.take k:=by
  intro k
  induction k with
  | zero=>exact fun _=>rfl
  | succ k ih=>intro hk;rw [wGF,h k (by omega),if_neg (by simp),ih (by omega),wEe (by omega)]
 rw [this _ (nA _),nR]
theorem wKU {r:wAC} {q:Nat->Bool} (h:∀ k,k < r.Readings.length->q k=false):Wo r q ↔ ∃ y,wCq r y:=by
 unfold Wo
 rw [wKx h]
 exact Iff.rfl
theorem wJe {r:wAC} {bad:List Int} {g:Int} (h:wGd r bad g) (no:¬ ∃ y,wCq r y) {k:Nat} (hk:k < bad.length):¬ Wo r fun j=>decide ((j:Int) ∈ bad) && !decide ((j:Int)=gd bad k):=by
 rcases h with ⟨_,h⟩ | ⟨_,⟨i,_,h,_⟩ | ⟨i,j,hij,hj,h,_,h2⟩⟩
 ·rw [h] at hk;simp at hk
 ·subst h
  rw [wKU]
  ·exact no
  ·intro u _
   have:k=0:=by simp at hk;omega
   subst this
   show (decide ((u:Int) ∈ [(i:Int)]) && !decide ((u:Int)=(i:Int)))=false
   by_cases e:(u:Int)=(i:Int)
   ·rw [decide_eq_true e];simp
   ·rw [decide_eq_false (fun m=>e (nH.1 m))];simp
 ·subst h
  have:k=0 \/ k=1:=by simp at hk;omega
  rcases this with rfl | rfl
  ·intro w
   refine h2 j hj ((wGP fun u _=>?_).1 w)
   show (decide ((u:Int) ∈ [(i:Int),(j:Int)]) && !decide ((u:Int)=(i:Int)))=decide (u=j)
   by_cases e:u=j
   ·rw [decide_eq_true e,e,decide_eq_true (by simp),decide_eq_false (by omega)];rfl
   ·rw [decide_eq_false e]
    by_cases e2:u=i
    ·rw [decide_eq_true (p:=(u:Int)=(i:Int)) (by omega)];simp
    ·rw [decide_eq_false (fun m=>by simp at m;omega)];simp
  ·intro w
   refine h2 i (by omega) ((wGP fun u _=>?_).1 w)
   show (decide ((u:Int) ∈ [(i:Int),(j:Int)]) && !decide ((u:Int)=(j:Int)))=decide (u=i)
   by_cases e:u=i
   ·rw [decide_eq_true e,e,decide_eq_true (by simp),decide_eq_false (by omega)];rfl
   ·rw [decide_eq_false e]
    by_cases e2:u=j
    ·rw [decide_eq_true (p:=(u:Int)=(j:Int)) (by omega)];simp
    ·rw [decide_eq_false (fun m=>by simp at m;omega)];simp
theorem wJf {r:wAC} {bad:List Int} {g:Int} (h:wGd r bad g) (no:¬ ∃ y,wCq r y):(g=10/\¬ Wo r fun j=>decide ((j:Int) ∈ bad)) \/ (g=0/\(Wo r fun j=>decide ((j:Int) ∈ bad))/\bad.length ≠ 0):=by
 rcases h with ⟨h0,h⟩ | ⟨h0,⟨i,_,h,w⟩ | ⟨i,j,hij,hj,h,w,_⟩⟩
 ·subst h
  exact .inl ⟨h0,by rw [wKU (fun u _=>by simp)];exact no⟩
 ·subst h
  refine .inr ⟨h0,(wGP fun u _=>?_).1 w,by simp⟩
  exact decide_eq_decide.2 ⟨fun e=>by rw [e];simp,fun m=>by simp at m;omega⟩
 ·subst h
  refine .inr ⟨h0,(wGP fun u _=>?_).1 w,by simp⟩
  show (decide (u=i) || decide (u=j))=decide ((u:Int) ∈ [(i:Int),(j:Int)])
  by_cases e:u=i
  ·rw [decide_eq_true e,e,Bool.true_or,decide_eq_true (p:=(i:Int) ∈ [(i:Int),(j:Int)]) (by simp)]
  ·rw [decide_eq_false e,Bool.false_or]
   exact decide_eq_decide.2 ⟨fun e=>by rw [e];simp,fun m=>by simp at m;omega⟩
theorem wJM {r:wAC} {bad:List Int} {g:Int} (h:wGd r bad g) {k:Nat} (hk:k < bad.length):0 <= gd bad k/\gd bad k < r.Readings.length/\(0 < k->gd bad (k - 1) < gd bad k)/\bad.length <= 2:=by
 rcases h with ⟨_,h⟩ | ⟨_,⟨i,hi,h,_⟩ | ⟨i,j,hij,hj,h,_,h2⟩⟩
 ·rw [h] at hk;simp at hk
 ·subst h
  have:k=0:=by simp at hk;omega
  subst this
  exact ⟨by show 0 <= (i:Int);omega,by show (i:Int) < _;omega,fun h=>by omega,by simp⟩
 ·subst h
  have:k=0 \/ k=1:=by simp at hk;omega
  rcases this with rfl | rfl
  ·exact ⟨by show 0 <= (i:Int);omega,by show (i:Int) < _;omega,fun h=>by omega,by simp⟩
  ·exact ⟨by show 0 <= (j:Int);omega,by show (j:Int) < _;omega,fun h=>by show (i:Int) < (j:Int);omega,by simp⟩
theorem dealt {b:List Int} {n st:Int} (n0:0 <= n) (n1:n <= 1000) {m:Nat} (hm:m <= 5):∃ s,wBY 0 (↑m:Int) (fun k766 (l757,x760,x761,l762) =>
                  (wAL (⟨l757,x760,x761⟩:wAH) 4).bind fun (x795,x796) =>
                  (wAL x796 2).bind fun (x809,x810) =>
                  (wAL x810 2).bind fun (x823,x824) =>
                  (wAf x824 2).bind fun (x837,x838) =>
                  (app 32 l762 [(⟨x795,x809,x823,x837⟩:wAF)]).bind fun x856 =>
                  some (x838.bytes,x838.next,x838.state,x856)) (b,n,st,[])=some s/\0 <= s.2.1/\s.2.1 <= n + 20/\s.2.2.2.length <= 5/\∀ z ∈ s.2.2.2,0 <= z.Kind/\z.Kind <= 3:=by
  rw [wCv (by omega)]
  obtain ⟨s,e,h1,h2,h3,h4⟩:=wDW (body:=fun (k766:Nat) ((l757,x760,x761,l762):List Int × Int × Int × List wAF) =>
                  (wAL (⟨l757,x760,x761⟩:wAH) 4).bind fun (x795,x796) =>
                  (wAL x796 2).bind fun (x809,x810) =>
                  (wAL x810 2).bind fun (x823,x824) =>
                  (wAf x824 2).bind fun (x837,x838) =>
                  (app 32 l762 [(⟨x795,x809,x823,x837⟩:wAF)]).bind fun x856 =>
                  some (x838.bytes,x838.next,x838.state,x856)) (fun k s=>0 <= s.2.1/\s.2.1 <= n + 4 * (k:Int)/\s.2.2.2.length <= k/\∀ z ∈ s.2.2.2,0 <= z.Kind/\z.Kind <= 3) m 0 (b,n,st,[]) ⟨n0,by simp,nA _,fun z h=>by cases h⟩ (by
    rintro k ⟨c,x,st,l⟩ _ hk ⟨a1,a2,a3,a4⟩
    simp only at a1 a2 a3 a4 ⊢
    obtain ⟨x1,d1,e1,p0,p1,u0,u1⟩:=wDL ⟨c,x,st⟩ 4 a1 (by simp only;omega)
    simp only at p1
    obtain ⟨x2,d2,e2,q0,q1,v0,v1⟩:=wDL d1 2 p0 (by omega)
    obtain ⟨x3,d3,e3,r0,r1,w0,w1⟩:=wDL d2 2 q0 (by omega)
    obtain ⟨x4,d4,e4,t0,t1⟩:=wKQ d3 2 r0 (by omega)
    rw [e1,hD]
    simp only
    rw [e2,hD]
    simp only
    rw [e3,hD]
    simp only
    rw [e4,hD]
    simp only
    rw [wCx (by simp only [hH,hJ];omega),hD]
    refine ⟨_,rfl,t0,by simp only;omega,by simp only [nI,hH,hJ];omega,fun z hz=>?_⟩
    rcases nP.1 hz with h | h
    · exact a4 z h
    · rw [nH.1 h]
      simp only
      omega)
  exact ⟨s,e,h1,by omega,by omega,h4⟩
theorem wIb (p0 p1 p2:List Int):wBW p0 p1 p2=some true:=by
  have aw:=aw06
  unfold wBW
  obtain ⟨r0,T,O,d',e1,C0,_,_,b1,b2,b3⟩:=wLt (d:=⟨p0,0,17⟩) rfl (u:=4) (w:=4) (q:=8) (by omega) (by omega) (by omega) (by omega) (by omega) (by omega)
  obtain ⟨L,d2,e2,hl,hsp⟩:=wKs C0 b3 ⟨p1,0,17⟩ rfl
  have C:=wKt C0 hl hsp
  generalize hR:(⟨r0.Starts,r0.Splits,r0.Clocks,L⟩:wAC)=r at *
  rw [show wBh p0=some (⟨p0,0,17⟩:wAH) from rfl,hD,e1,hD]
  simp only
  rw [show wBh p1=some (⟨p1,0,17⟩:wAH) from rfl,hD,e2,hD]
  simp only
  rw [hD]
  simp only
  rw [show (⟨r.Starts,r.Splits,r.Clocks,r.Readings⟩:wAC)=r from rfl]
  clear e1 e2 hsp hl C0
  have S:=shcR C
  have c:=wKO C
  have hq:=C.q
  have hn:=C.n
  rw [show wBh p2=some (⟨p2,0,17⟩:wAH) from rfl,hD]
  obtain ⟨tr1,tr2⟩:=wJJ S
  obtain ⟨cl1,cl2⟩:=wKw S c
  obtain ⟨fa1,fa2⟩:=wKu S c
  obtain ⟨bl1,bl2⟩:=wKv S c
  have ee:wJW r []=if ∃ y,wCq r y then 0 else 7:=by
    unfold wJW
    rw [if_pos c,if_pos (by rfl)]
  by_cases hy:∃ y,wCq r y
  · rw [if_pos hy] at ee
    obtain ⟨y,Fy,e3⟩:=tr2 ee
    rw [e3,hD]
    simp only
    rw [cl1 hy,hD]
    simp only
    rw [fa1 hy,hD]
    simp only
    rw [bl1 hy,hD]
    simp only
    rw [if_pos trivial,if_pos trivial,if_pos trivial,if_pos trivial,if_neg (by simp),wLw C Fy,hD,if_pos rfl]
    rw [show (6:Int)=((6:Nat):Int) from rfl,wCo (by omega)]
    rcases wFb (B:=Bool) (body:=fun (k684:Nat) ((l679,x682,x683):List Int × Int × Int) =>
                (wAO (⟨l679,x682,x683⟩:wAH) 1 5).bind fun (x715,x716) =>
                (wBY 0 x715 (fun k766 (l757,x760,x761,l762) =>
                  (wAL (⟨l757,x760,x761⟩:wAH) 4).bind fun (x795,x796) =>
                  (wAL x796 2).bind fun (x809,x810) =>
                  (wAL x810 2).bind fun (x823,x824) =>
                  (wAf x824 2).bind fun (x837,x838) =>
                  (app 32 l762 [(⟨x795,x809,x823,x837⟩:wAF)]).bind fun x856 =>
                  some (x838.bytes,x838.next,x838.state,x856)) (x716.bytes,x716.next,x716.state,[])).bind fun (y771,y772,y773,y774) =>
                (wBR r y774).bind fun (x923,x924) =>
                if x924=8 then
                  some (.inl (y771,y772,y773))
                else
                  if x924=1 then
                    some (.inl (y771,y772,y773))
                  else
                    esc (some false)) (fun k s=>0 <= s.2.1/\s.2.1 <= 30 * (k:Int)) (fun _=>False) 6 0 (p2,0,17) ⟨by simp,by simp⟩ (by
      rintro k ⟨b,n,st⟩ _ hk ⟨n0,n1⟩
      simp only at n0 n1 ⊢
      left
      obtain ⟨x,d,e7,q0,q1,q2,q3⟩:=wEg ⟨b,n,st⟩ 1 5 n0 (by simp only;omega) (by omega) (by omega) (by omega)
      obtain ⟨m,rfl⟩:∃ m:Nat,x=(m:Int):=⟨x.toNat,by omega⟩
      simp only at q1
      obtain ⟨⟨b',n',st',l⟩,e8,z1,z2,z3,z4⟩:=dealt (b:=d.bytes) (n:=d.next) (st:=d.state) q0 (by omega) (m:=m) (by omega)
      obtain ⟨s,e,e9,he⟩:=wJb S c hy (l:=l) (by simp only at z3;omega) z4
      rw [e7,hD]
      simp only
      rw [e8,hD]
      simp only
      rw [e9,hD]
      simp only at z1 z2 ⊢
      refine ⟨(b',n',st'),?_,by simp only;omega,by simp only;omega⟩
      rcases he with rfl | rfl
      · rfl
      · rfl) with ⟨⟨b,n,st⟩,e8,_⟩ | ⟨_,_,h⟩
    · erw [e8]
      show (wBD).bind _=_
      rw [aw]
      rfl
    · exact h.elim
  · rw [if_neg hy] at ee
    have e3:=tr1 (by omega)
    rw [ee] at e3
    obtain ⟨l,p,s,e4,F,s0,l1,l2⟩:=cl2 hy
    obtain ⟨bad,g,e5,hf⟩:=fa2 hy
    obtain ⟨bl,e6,bll,hb⟩:=bl2 hy
    rw [e3,hD]
    simp only
    rw [e4,hD]
    simp only
    rw [e5,hD]
    simp only
    rw [e6,hD]
    simp only
    rw [if_neg (by omega),wJd S c l1 (by omega) s0 F,hD]
    simp only
    rw [if_pos trivial,if_pos trivial,if_pos trivial,if_pos trivial,if_neg (by omega)]
    have hg:=wJf hf hy
    have gb:(if g=0 then some false else some (decide (¬ g=10)))=some false:=by
      rcases hg with ⟨h,_⟩ | ⟨h,_⟩
      · rw [h];rfl
      · rw [h];rfl
    have n2:bad.length <= 2:=by
      by_cases h:0 < bad.length
      · exact (wJM hf h).2.2.2
      · omega
    rw [gb,hD,if_neg (by simp),wEr (by omega) fun k hk=>by
      obtain ⟨i0,i1,i2,_⟩:=wJM hf hk
      have hd:(if 0 < (k:Int) then (idx bad (w64 ((k:Int) - 1))).bind fun x1128=>some (decide (gd bad k <= x1128)) else some false)=some false:=by
        by_cases h:k=0
        · rw [if_neg (by omega)]
        · rw [if_pos (by omega),wAT (by omega) (by omega),show (k:Int) - 1=((k - 1:Nat):Int) by omega,wBk (by omega),hD,decide_eq_false (by have:=i2 (by omega);omega)]
      obtain ⟨t,o,e⟩:=wHb C fun j=>decide ((j:Int) ∈ bad) && !decide ((j:Int)=gd bad k)
      rw [if_neg (wJe hf hy hk)] at e
      rw [wBk hk,hD,if_neg (by omega),if_neg (by omega),hd,hD,if_neg (by simp),wHX S,hD,wGe (l:=r.Readings) (by omega) (fun j=>decide ((j:Int) ∈ bad) && !decide ((j:Int)=gd bad k)) fun j m hj hm=>by
        rw [wBk hj,hD,wFK _ (by omega),hD]
        by_cases a:(j:Int) ∈ bad
        · rw [if_pos (decide_eq_true a),hD]
          by_cases b:(j:Int)=gd bad k
          · rw [if_pos b,wCx (by simp only [hH,hJ];omega),hD,if_neg (by rw [decide_eq_true b];simp)]
          · rw [if_neg b,if_pos (by rw [decide_eq_true a,decide_eq_false b];rfl)]
        · rw [if_neg (by simpa using a),wCx (by simp only [hH,hJ];omega),hD,if_neg (by rw [decide_eq_false a];simp)]]
      rw [hD]
      show (wBF (wr r _)).bind _=_
      rw [e]
      rfl]
    show (wAu r).bind _=_
    rw [wHX S,hD,wGe (l:=r.Readings) (by omega) (fun j=>decide ((j:Int) ∈ bad)) fun j m hj hm=>by
        rw [wBk hj,hD,wFK _ (by omega),hD]
        by_cases a:(j:Int) ∈ bad
        · rw [if_pos (decide_eq_true a),if_pos (decide_eq_true a)]
        · rw [if_neg (by simpa using a),wCx (by simp only [hH,hJ];omega),hD,if_neg (by simpa using a)]]
    rw [hD]
    obtain ⟨t,o,e⟩:=wHb C fun j=>decide ((j:Int) ∈ bad)
    generalize hY:wFx (fun j=>decide ((j:Int) ∈ bad)) r.Readings r.Readings.length=Y at e ⊢
    show (wBF (wr r Y)).bind _=_
    rw [e,hD]
    simp only
    have gc:(if ((decide ((if Wo r fun j=>decide ((j:Int) ∈ bad) then (0:Int) else 7)=0)) == (decide (g=0)))=true then if g=0 then some (decide ((↑bad.length:Int)=0)) else some false else some true)=some false:=by
      rcases hg with ⟨h,w⟩ | ⟨h,w,b0⟩
      · rw [if_neg w,h];rfl
      · rw [if_pos w,h]
        rw [if_pos rfl,if_pos (by decide),decide_eq_false (by omega)]
    rw [gc,hD,if_neg (by simp)]
    rw [wIx (S:=List wAI) (n:=r.Starts.length) (fun k=>match k with | 0=>Y | k + 1=>wFx (fun j=>decide ((gd r.Readings j).Skier=(k:Int))) r.Readings r.Readings.length) rfl (by omega) fun k hk=>by
      obtain ⟨t,o,e⟩:=wHb C fun j=>decide ((gd r.Readings j).Skier=(k:Int))
      rw [wGe (l:=r.Readings) (by omega) (fun j=>decide ((gd r.Readings j).Skier=(k:Int))) fun j m hj hm=>by
        rw [wBk hj,hD]
        by_cases a:(gd r.Readings j).Skier=(k:Int)
        · rw [if_pos a,if_pos (decide_eq_true a)]
        · rw [if_neg a,wCx (by simp only [hH,hJ];omega),hD,if_neg (by simpa using a)]]
      rw [hD]
      show (wBF (wr r _)).bind _=_
      rw [e,hD]
      simp only
      rw [wFK _ (by omega),hD]
      have hbk:=hb k hk
      by_cases w:Wo r fun j=>decide ((gd r.Readings j).Skier=(k:Int))
      · rw [if_pos w,decide_eq_true (hbk.2 w)];rfl
      · rw [if_neg w,decide_eq_false (fun h=>w (hbk.1 h))];rfl]
    show (wBD).bind _=_
    rw [aw]
    rfl
end Go.Proofs.Ytlnfbjphfoipaaa
