import Derived.Test.YtlnfbjphfoipaaaQ0
import Derived.Test.YtlnfbjphfoipaaaQ2
import Derived.Test.YtlnfbjphfoipaaaProg
import Derived.Lib.Overlaps
import Derived.Lib.AppendZerosOnto
import Derived.Test.YtlnfbjphfoipaaaQ1
set_option linter.all false
open Option renaming bind_some->hD
open List renaming set->hH,length_cons->nA,length_nil->nB,mem_singleton->nE,mem_append->nH,length_take->nI,replicate->nJ,length_append->nM,mem_map->nQ,range->nR,all_eq_true->nS,length_singleton->nW,length_set->nX,length_drop->nZ,length_map->na,getElem?_take->nb,getElem?_append_right->nc,getElem?_append_left->ni,getElem?_eq_getElem->nj,cons_append->nk,map_append->nm,sum_replicate_nat->no,mem_range->np,length_filter_le->nq,mem_of_mem_drop->nt,mem_of_mem_take->nu,range_eq_range'->nv,all_cons->nw,length_flatMap->ny,getElem?_drop->nz,all_nil->kA,filter_append->kB,append_assoc->kC,flatMap_cons->kD,length_range->kE
open Int renaming toNat_natCast->hJ,toNat_of_nonneg->nD,sub_add_cancel->nU,tmod_eq_emod_of_nonneg->nh,add_comm->nl,le_refl->nn
open Bool renaming and_eq_true->nL,false_eq_true->nN
open Nat renaming zero_add->nV,le_refl->nY
open Classical renaming choose_spec->nr,choose->kG
namespace Go.Proofs.Ytlnfbjphfoipaaa
open Go.KL
structure wAI where
 bytes:List Int
 next:Int
 state:Int
deriving DecidableEq,Inhabited,Repr
structure wAF where
 Lo:Int
 Hi:Int
deriving DecidableEq,Inhabited,Repr
structure wAG where
 Offset:wAF
 Error:Int
deriving DecidableEq,Inhabited,Repr
structure wAJ where
 Skier:Int
 Mat:Int
 Clock:Int
 Time:Int
deriving DecidableEq,Inhabited,Repr
structure wAE where
 Starts:List Int
 Splits:List wAF
 Clocks:List wAG
 Readings:List wAJ
deriving DecidableEq,Inhabited,Repr
structure wAP where
 Skier:Int
 Mat:Int
deriving DecidableEq,Inhabited,Repr
structure wAL where
 skier:Int
 mat:Int
deriving DecidableEq,Inhabited,Repr
structure wAK where
 Kind:Int
 Skier:Int
 Index:Int
 Up:Bool
deriving DecidableEq,Inhabited,Repr
structure wAW where
 step:wAK
 from_:Int
 to_:Int
 count:Int
deriving DecidableEq,Inhabited,Repr
structure wAX where
 Race:wAE
 number:List (wAL × Int)
 edges:List wAW
structure wCx where
 far:List Int
 by_:List Int
deriving DecidableEq,Inhabited,Repr
def wCJ (p0:List Int):Option (wAI) :=
 some (⟨p0,0,17⟩:wAI)
def wAM (p0:wAI) (p1:Int):Option (Int × wAI) :=
 if p1 <= 1 then
  some (0,p0)
 else
  if (↑p0.bytes.length:Int)=0 then
   some (0,p0)
  else
   (rem p0.next (↑p0.bytes.length:Int)).bind fun x10 =>
   (idx p0.bytes x10).bind fun x13 =>
   (quo p0.next (↑p0.bytes.length:Int)).bind fun x20 =>
   (rem (wET ((wET ((wET ((wET (p0.state * 45)) + (wET x13))) + (wET (77 * (wET x20))))) + 1)) 65519).bind fun x32 =>
   if (wET x20)=0 then
    if p1 <= 256 then
     (rem (w64 (wET x13)) p1).bind fun x42 =>
     some (x42,(⟨p0.bytes,w64 (p0.next + 1),x32⟩:wAI))
    else
     (rem (w64 (wET ((wET (x32 * 256)) + (wET x13)))) p1).bind fun x46 =>
     some (x46,(⟨p0.bytes,w64 (p0.next + 1),x32⟩:wAI))
   else
    (rem (w64 (wET ((wET (x32 * 256)) + (wET x13)))) p1).bind fun x50 =>
    some (x50,(⟨p0.bytes,w64 (p0.next + 1),x32⟩:wAI))
def wAR (p0:wAI) (p1:Int) (p2:Int):Option (Int × wAI) :=
 (wAM p0 (w64 ((w64 (p2 - p1)) + 1))).bind fun (x2,x3) =>
 some (w64 (p1 + x2),x3)
def wBl (p0:wAI) (p1:Int) (p2:Int) (p3:Int):Option (wAE × (List (List Int)) × (List Int) × wAI) :=
 (wAR p0 1 p1).bind fun (x10,x11) =>
 (wBe 0 x10 (fun k62 (l53,x56,x57,l58) =>
  (wAM (⟨l53,x56,x57⟩:wAI) 4).bind fun (x142,x143) =>
  (wAM x143 3).bind fun (x156,x157) =>
  (app 8 l58 [w64 ((w64 (300 * x142)) + x156)]).bind fun x175 =>
  some (x157.bytes,x157.next,x157.state,x175)) (x11.bytes,x11.next,x11.state,[])).bind fun (y67,y68,y69,y70) =>
 (wAM (⟨y67,y68,y69⟩:wAI) p2).bind fun (x223,x224) =>
 (wBe 0 x223 (fun k274 (l265,x268,x269,l270) =>
  (wAR (⟨l265,x268,x269⟩:wAI) 3 9).bind fun (x305,x306) =>
  (wAM x306 30).bind fun (x353,x354) =>
  (app 16 l270 [(⟨w64 (100 * x305),w64 ((w64 (100 * x305)) + (w64 (10 * x353)))⟩:wAF)]).bind fun x372 =>
  some (x354.bytes,x354.next,x354.state,x372)) (x224.bytes,x224.next,x224.state,[])).bind fun (y279,y280,y281,y282) =>
 (wBe 0 (↑y70.length:Int) (fun k460 (l450,x453,x454,l455) =>
  (chk (↑k460:Int) y70.length).bind fun _ =>
  (wBe 0 (↑y282.length:Int) (fun k541 (l532,x535,x536,x537,l538) =>
   (chk (↑k541:Int) y282.length).bind fun _ =>
   (wAR (⟨l532,x535,x536⟩:wAI) ((gd y282 k541).Lo) ((gd y282 k541).Hi)).bind fun (x589,x590) =>
   (app 8 l538 [w64 (x537 + x589)]).bind fun x609 =>
   some (x590.bytes,x590.next,x590.state,w64 (x537 + x589),x609)) (l450,x453,x454,(gd y70 k460),[(gd y70 k460)])).bind fun (y546,y547,y548,y549,y550) =>
  (app 24 l455 [y550]).bind fun x672 =>
  some (y546,y547,y548,x672)) (y279,y280,y281,[])).bind fun (y465,y466,y467,y468) =>
 (wAR (⟨y465,y466,y467⟩:wAI) 1 3).bind fun (x726,x727) =>
 (wBe 0 x726 (fun k792 (l779,x782,x783,l784,l788) =>
  (wAR (⟨l779,x782,x783⟩:wAI) (-60) 20).bind fun (x826,x827) =>
  (wAM x827 50).bind fun (x840,x841) =>
  (wAM x841 6).bind fun (x854,x855) =>
  (app 24 l784 [(⟨(⟨x826,w64 (x826 + x840)⟩:wAF),x854⟩:wAG)]).bind fun x880 =>
  (wAR x855 x826 (w64 (x826 + x840))).bind fun (x888,x889) =>
  (app 8 l788 [x888]).bind fun x908 =>
  some (x889.bytes,x889.next,x889.state,x880,x908)) (x727.bytes,x727.next,x727.state,[],[])).bind fun (y797,y798,y799,y800,y801) =>
 (wAM (⟨y797,y798,y799⟩:wAI) (w64 (p3 + 1))).bind fun (x1667,x1668) =>
 (wBe 0 x1667 (fun k1736 (l1727,x1730,x1731,l1732) =>
  ((wAM (⟨l1727,x1730,x1731⟩:wAI) (↑y70.length:Int)).bind fun (x1833,x1834) =>
  (wAM x1834 (w64 ((↑y282.length:Int) + 1))).bind fun (x1847,x1848) =>
  (wAM x1848 (↑y800.length:Int)).bind fun (x1861,x1862) =>
  some (x1862.bytes,x1862.next,x1862.state,x1833,x1847,x1861)).bind fun (l1767,x1770,x1771,x1774,x1775,x1776) =>
  (chk x1776 y800.length).bind fun _ =>
  (idx y468 x1774).bind fun x2140 =>
  (idx x2140 x1775).bind fun x2156 =>
  (chk x1776 y801.length).bind fun _ =>
  (wAR (⟨l1767,x1770,x1771⟩:wAI) (w64 (-((gd y800 x1776.toNat).Error))) ((gd y800 x1776.toNat).Error)).bind fun (x2171,x2172) =>
  if (w64 (-((gd y800 x1776.toNat).Error))) <= (w64 ((w64 ((max 0 (w64 ((w64 (x2156 + (gd y801 x1776.toNat))) + x2171))) - x2156)) - (gd y801 x1776.toNat))) then
   if (w64 ((w64 ((max 0 (w64 ((w64 (x2156 + (gd y801 x1776.toNat))) + x2171))) - x2156)) - (gd y801 x1776.toNat))) <= ((gd y800 x1776.toNat).Error) then
    (app 32 l1732 [(⟨x1774,x1775,x1776,max 0 (w64 ((w64 (x2156 + (gd y801 x1776.toNat))) + x2171))⟩:wAJ)]).bind fun x2225 =>
    some (x2172.bytes,x2172.next,x2172.state,x2225)
   else
    some (x2172.bytes,x2172.next,x2172.state,l1732)
  else
   some (x2172.bytes,x2172.next,x2172.state,l1732)) (x1668.bytes,x1668.next,x1668.state,[])).bind fun (y1741,y1742,y1743,y1744) =>
 some ((⟨y70,y282,y800,y1744⟩:wAE),y468,y801,(⟨y1741,y1742,y1743⟩:wAI))
def wAi (p0:Int) (p1:Int):Option (wAP) :=
 some (⟨p0,p1⟩:wAP)
def wBT (p0:wAI) (p1:wAE):Option (wAP × wAI) :=
 (wAM p0 (↑p1.Starts.length:Int)).bind fun (x56,x57) =>
 (wAM x57 (w64 ((↑p1.Splits.length:Int) + 1))).bind fun (x71,x72) =>
 (wAi x56 x71).bind fun x85 =>
 some (x85,x72)
def wBq (p0:List Int):Option ((List Int)) :=
 (app 8 ([]:List Int) p0).bind fun x4 =>
 some x4
def wBM (p0:List wAF):Option ((List wAF)) :=
 (app 16 ([]:List wAF) p0).bind fun x4 =>
 some x4
def wBC (p0:List wAG):Option ((List wAG)) :=
 (app 24 ([]:List wAG) p0).bind fun x4 =>
 some x4
def wAy (p0:List wAJ):Option ((List wAJ)) :=
 (app 32 ([]:List wAJ) p0).bind fun x4 =>
 some x4
def wAk (p0:wAE):Option (wAE) :=
 (wBq p0.Starts).bind fun x11 =>
 (wBM p0.Splits).bind fun x25 =>
 (wBC p0.Clocks).bind fun x40 =>
 (wAy p0.Readings).bind fun x56 =>
 some (⟨x11,x25,x40,x56⟩:wAE)
def wBB (p0:Int) (p1:Int) (p2:Int):Option (Bool) :=
 if p1 <= p0 then
  some (decide (p0 <= p2))
 else
  some false
def wCK (p0:List Int) (p1:(Int->Option Bool)):Option (Bool) :=
 jn (wEi 0 (↑p0.length:Int) (fun k2 _ =>
  (idx p0 (↑k2:Int)).bind fun x22 =>
  (p1 x22).bind fun x30 =>
  if x30=true then
   some (.inl ())
  else
   esc (some false)) ()) fun _ =>
 some true
def wCU (p0:Int):Option (Bool) :=
 (wBB p0 0 360000).bind fun x1 =>
 some x1
def wBU (p0:List wAF) (p1:(wAF->Option Bool)):Option (Bool) :=
 jn (wEi 0 (↑p0.length:Int) (fun k2 _ =>
  (idx p0 (↑k2:Int)).bind fun x22 =>
  (p1 x22).bind fun x37 =>
  if x37=true then
   some (.inl ())
  else
   esc (some false)) ()) fun _ =>
 some true
def wCV (p0:wAF) (p1:Int) (p2:Int):Option (Bool) :=
 if p0.Lo <= p0.Hi then
  if p1 <= p0.Lo then
   some (decide (p0.Hi <= p2))
  else
   some false
 else
  some false
def wCW (p0:wAF):Option (Bool) :=
 (wCV p0 0 360000).bind fun x5 =>
 some x5
def wBF (p0:List wAG) (p1:(wAG->Option Bool)):Option (Bool) :=
 jn (wEi 0 (↑p0.length:Int) (fun k2 _ =>
  (idx p0 (↑k2:Int)).bind fun x22 =>
  (p1 x22).bind fun x37 =>
  if x37=true then
   some (.inl ())
  else
   esc (some false)) ()) fun _ =>
 some true
def wCX (p0:wAG):Option (Bool) :=
 (wCV p0.Offset (-36000) 36000).bind fun x5 =>
 if x5=true then
  (wBB p0.Error 0 600).bind fun x17 =>
  some x17
 else
  some false
def wAn (p0:List wAJ) (p1:(wAJ->Option Bool)):Option (Bool) :=
 jn (wEi 0 (↑p0.length:Int) (fun k2 _ =>
  (idx p0 (↑k2:Int)).bind fun x22 =>
  (p1 x22).bind fun x37 =>
  if x37=true then
   some (.inl ())
  else
   esc (some false)) ()) fun _ =>
 some true
def wCY (p0:wAJ):Option (Bool) :=
 (wBB p0.Time 0 360000).bind fun x5 =>
 some x5
def wAf (p0:wAE) (p1:wAP):Option (Bool) :=
 (wBB p1.Skier 0 (w64 ((↑p0.Starts.length:Int) - 1))).bind fun x9 =>
 if x9=true then
  (wBB p1.Mat 0 (↑p0.Splits.length:Int)).bind fun x21 =>
  some x21
 else
  some false
def wCZ (p0:wAJ) (p1:wAE):Option (Bool) :=
 (wAf p1 (⟨p0.Skier,p0.Mat⟩:wAP)).bind fun x5 =>
 if x5=true then
  (wBB p0.Clock 0 (w64 ((↑p1.Clocks.length:Int) - 1))).bind fun x18 =>
  some x18
 else
  some false
def wCO (p0:wAE):Option (Int) :=
 (wBB (↑p0.Starts.length:Int) 1 8).bind fun x10 =>
 if x10=true then
  if 7 < (↑p0.Splits.length:Int) then
   some 2
  else
   if 4 < (↑p0.Clocks.length:Int) then
    some 2
   else
    if 40 < (↑p0.Readings.length:Int) then
     some 2
    else
     (wCK p0.Starts wCU).bind fun x35 =>
     if x35=true then
      (wBU p0.Splits wCW).bind fun x52 =>
      if x52=true then
       (wBF p0.Clocks wCX).bind fun x70 =>
       if x70=true then
        (wAn p0.Readings wCY).bind fun x92 =>
        if x92=true then
         (wAn p0.Readings (fun x=>wCZ x p0)).bind fun x116 =>
         if x116=true then
          some 0
         else
          some 1
        else
         some 3
       else
        some 3
      else
       some 3
     else
      some 3
 else
  some 2
def wBN :Option (wAL) :=
 some (⟨-1,0⟩:wAL)
def wBm {S E:Type} (f:S->wAK->Option (S ⊕ E)) (s0:S) (p1:wAE):Option (S ⊕ E) :=
 jn (wEi 0 4 (fun k12 s10 =>
  (idx ([1,(↑p1.Splits.length:Int),(↑p1.Clocks.length:Int),(↑p1.Readings.length:Int)]:List Int) (↑k12:Int)).bind fun x33 =>
  (if (↑k12:Int)=2 then
   some (true,s10)
  else
   some (decide ((↑k12:Int)=3),s10)).bind fun (b37,s38) =>
  if b37=true then
   jn (wEi 0 1 (fun k78 s76 =>
    jn (wEi 0 x33 (fun k113 s111 =>
     (f s111 (⟨(↑k12:Int),(↑k78:Int),(↑k113:Int),true⟩:wAK)).bind fun yr141 =>
     match yr141 with
     | .inl s151 =>
      (f s151 (⟨(↑k12:Int),(↑k78:Int),(↑k113:Int),false⟩:wAK)).bind fun yr154 =>
      match yr154 with
      | .inl s164 =>
       some (.inl s164)
      | .inr s164 =>
       esc (esc (esc (some (.inr s164))))
     | .inr s151 =>
      esc (esc (esc (some (.inr s151))))) s76) fun y195 =>
    some (.inl y195)) s38) fun y219 =>
   some (.inl y219)
  else
   jn (wEi 0 (↑p1.Starts.length:Int) (fun k247 s245 =>
    jn (wEi 0 x33 (fun k282 s280 =>
     (f s280 (⟨(↑k12:Int),(↑k247:Int),(↑k282:Int),true⟩:wAK)).bind fun yr310 =>
     match yr310 with
     | .inl s320 =>
      (f s320 (⟨(↑k12:Int),(↑k247:Int),(↑k282:Int),false⟩:wAK)).bind fun yr323 =>
      match yr323 with
      | .inl s333 =>
       some (.inl s333)
      | .inr s333 =>
       esc (esc (esc (some (.inr s333))))
     | .inr s320 =>
      esc (esc (esc (some (.inr s320))))) s245) fun y364 =>
    some (.inl y364)) s38) fun y388 =>
   some (.inl y388)) s0) fun y409 =>
 some (.inl y409)
def wCi (p0:wAE):Option (Unit) :=
 some ()
def wDv (p0:wAE) (p1:wAK):Option (Bool) :=
 (wBB p1.Skier 0 (w64 ((↑p0.Starts.length:Int) - 1))).bind fun x9 =>
 if x9=true then
  some (decide (p1.Index=0))
 else
  some false
def wDM (p0:wAE) (p1:wAK):Option (wAL × wAL) :=
 ((wBN).bind fun x22 =>
 some (x22.skier,x22.mat)).bind fun (x17,x18) =>
 some ((⟨x17,x18⟩:wAL),(⟨p1.Skier,0⟩:wAL))
def wDN (p0:wAE) (p1:wAK):Option (Int × Int) :=
 (idx p0.Starts p1.Skier).bind fun x11 =>
 some (x11,w64 (-x11))
def wDw (p0:wAE) (p1:wAK):Option (Bool) :=
 (wBB p1.Skier 0 (w64 ((↑p0.Starts.length:Int) - 1))).bind fun x9 =>
 if x9=true then
  (wBB p1.Index 0 (w64 ((↑p0.Splits.length:Int) - 1))).bind fun x21 =>
  some x21
 else
  some false
def wDO (p0:wAE) (p1:wAK):Option (wAL × wAL) :=
 (some ()).bind fun _ =>
 some ((⟨p1.Skier,p1.Index⟩:wAL),(⟨p1.Skier,w64 (p1.Index + 1)⟩:wAL))
def wDP (p0:wAE) (p1:wAK):Option (Int × Int) :=
 (idx p0.Splits p1.Index).bind fun x11 =>
 some (x11.Hi,w64 (-x11.Lo))
def wDx (p0:wAE) (p1:wAK):Option (Bool) :=
 if p1.Skier=0 then
  (wBB p1.Index 0 (w64 ((↑p0.Clocks.length:Int) - 1))).bind fun x11 =>
  some x11
 else
  some false
def wCa (p0:Int):Option (wAL) :=
 some (⟨-1,w64 (1 + p0)⟩:wAL)
def wDQ (p0:wAE) (p1:wAK):Option (wAL × wAL) :=
 (wBN).bind fun x19 =>
 (wCa p1.Index).bind fun x29 =>
 some (x19,x29)
def wDR (p0:wAE) (p1:wAK):Option (Int × Int) :=
 (idx p0.Clocks p1.Index).bind fun x11 =>
 some (w64 (-x11.Offset.Lo),x11.Offset.Hi)
def wDh (p0:wAE) (p1:wAK):Option (Bool) :=
 if p1.Skier=0 then
  (wBB p1.Index 0 (w64 ((↑p0.Readings.length:Int) - 1))).bind fun x11 =>
  some x11
 else
  some false
def wDA (p0:wAE) (p1:wAK):Option (wAL × wAL) :=
 (idx p0.Readings p1.Index).bind fun x17 =>
 ((wCa x17.Clock).bind fun x36 =>
 some (x36.skier,x36.mat)).bind fun (x31,x32) =>
 some ((⟨x31,x32⟩:wAL),(⟨x17.Skier,x17.Mat⟩:wAL))
def wDB (p0:wAE) (p1:wAK):Option (Int × Int) :=
 (idx p0.Readings p1.Index).bind fun x9 =>
 (idx p0.Clocks x9.Clock).bind fun x25 =>
 some (w64 (x9.Time + x25.Error),w64 (x25.Error - x9.Time))
def wBG :Option (Unit) :=
 some ()
def wBH (p0:wAE) (p1:wAK):Option (wAL × wAL × Int) :=
 if p1.Kind=0 then
  ((wBG).bind fun _ =>
  some ()).bind fun _ =>
  (wDM p0 p1).bind fun (x92,x93) =>
  (wDN p0 p1).bind fun (x113,x114) =>
  if p1.Up=true then
   (some ()).bind fun _ =>
   some (x92,x93,x113)
  else
   some (x93,x92,x114)
 else
  if p1.Kind=1 then
   ((wBG).bind fun _ =>
   some ()).bind fun _ =>
   (wDO p0 p1).bind fun (x251,x252) =>
   (wDP p0 p1).bind fun (x272,x273) =>
   if p1.Up=true then
    (some ()).bind fun _ =>
    some (x251,x252,x272)
   else
    some (x252,x251,x273)
  else
   if p1.Kind=2 then
    ((wBG).bind fun _ =>
    some ()).bind fun _ =>
    (wDQ p0 p1).bind fun (x410,x411) =>
    (wDR p0 p1).bind fun (x431,x432) =>
    if p1.Up=true then
     (some ()).bind fun _ =>
     some (x410,x411,x431)
    else
     some (x411,x410,x432)
   else
    if p1.Kind=3 then
     ((wBG).bind fun _ =>
     some ()).bind fun _ =>
     (wDA p0 p1).bind fun (x569,x570) =>
     (wDB p0 p1).bind fun (x590,x591) =>
     if p1.Up=true then
      (some ()).bind fun _ =>
      some (x569,x570,x590)
     else
      some (x570,x569,x591)
    else
     (wBG).bind fun _ =>
     none
def wCj (p0:wAE):Option (wAX) :=
 ((wBN).bind fun x22 =>
 some (wFS ([]:List (wAL × Int)) x22 0)).bind fun l13 =>
 (wCi p0).bind fun _ =>
 (wBm (S:=(List wAW) × (List (wAL × Int))) (E:=Empty) (fun (l1591,l1595) x1616 =>
  (wBH p0 x1616).bind fun (x1652,x1653,x1654) =>
  (wBe 0 2 (fun k1692 l1689 =>
   (idx ([x1652,x1653]:List wAL) (↑k1692:Int)).bind fun x1718 =>
   if (wJH l1689 x1718)=true then
    some l1689
   else
    some (wFS l1689 x1718 (↑(l1689.length):Int))) l1595).bind fun y1697 =>
  (app 56 l1591 [(⟨x1616,(wBE y1697 x1652 0),(wBE y1697 x1653 0),x1654⟩:wAW)]).bind fun x1773 =>
  some (.inl (x1773,y1697))) ([],l13) p0).bind fun rr1606 =>
 match rr1606 with
 | .inl (y1845,y1846) =>
  some (⟨p0,y1846,y1845⟩:wAX)
 | .inr e1851 =>
  e1851.elim
def wCA (p0:wAE):Option ((Option wAX) × Int) :=
 (wCO p0).bind fun x5 =>
 if x5=0 then
  (wCj p0).bind fun x21 =>
  some ((some x21),0)
 else
  some (none,x5)
def wAz (p0:List wAP) (p1:(wAP->Option Bool)):Option (Bool) :=
 jn (wEi 0 (↑p0.length:Int) (fun k2 _ =>
  (idx p0 (↑k2:Int)).bind fun x22 =>
  (p1 x22).bind fun x37 =>
  if x37=true then
   some (.inl ())
  else
   esc (some false)) ()) fun _ =>
 some true
def wDC (p0 p1:Int):Option (Int × Int):=if 0 <= p0/\p0 < 18446744073709551616/\0 <= p1/\p1 < 18446744073709551616 then some (p0 * p1 / 18446744073709551616,p0 * p1 % 18446744073709551616) else none
def wBA (p0:List Int) (p1:Int):Option ((List Int)) :=
 if p1 < 0 then
  none
 else
  (wDC (wKD (↑p0.length:Int)) (wKD p1)).bind fun (x4,x5) =>
  (if 0 < x4 then
   some true
  else
   some (decide (9223372036854775807 < x5))).bind fun b15 =>
  if b15=true then
   none
  else
   (mkz 8 (w64 x5) (0:Int)).bind fun x35 =>
   (wJR x35 0 p0).bind fun x45 =>
   iter (fun (l58,x59) =>
    if x59 < (↑l58.length:Int) then
     (cut l58 x59 (↑(l58.length):Int)).bind fun x77 =>
     (cut l58 0 x59).bind fun x86 =>
     (wJR l58 x59 x86).bind fun x95 =>
     some (.inl (x95,w64 (x59 + (↑(min x86.length (x77.length)):Int))))
    else
     esc (some l58)) big (x45,(↑(min p0.length (x35.length)):Int))
def wAg (p0:wAX) (p1:Int) (p2:Bool):Option (wCx × Int × Bool) :=
 ((wBA [1125899906842624] (↑(p0.number.length):Int)).bind fun x28 =>
 (wBA [-1] (↑(p0.number.length):Int)).bind fun x51 =>
 some (x28,x51)).bind fun (l9,l12) =>
 (wBe 0 (↑l9.length:Int) (fun k1254 l1253 =>
  if p1 < 0 then
   (chk (↑k1254:Int) l1253.length).bind fun _ =>
   some (hH l1253 k1254 0)
  else
   if (↑k1254:Int)=p1 then
    (chk (↑k1254:Int) l1253.length).bind fun _ =>
    some (hH l1253 k1254 0)
   else
    some l1253) l9).bind fun y1259 =>
 jn (wEi 0 (w64 ((↑(p0.number.length):Int) + 1)) (fun k1336 (l1333,l1334,x1335) =>
  (wBe 0 (↑p0.edges.length:Int) (fun k1375 (l1372,l1373,x1374) =>
   ((idx p0.edges (↑k1375:Int)).bind fun x1412 =>
   if p2=true then
    (chk x1412.to_ l1372.length).bind fun _ =>
    if (gd l1372 x1412.to_.toNat) < 1125899906842624 then
     (chk x1412.from_ l1372.length).bind fun _ =>
     if (w64 ((gd l1372 x1412.to_.toNat) + x1412.count)) < (gd l1372 x1412.from_.toNat) then
      ((chk x1412.from_ l1373.length).bind fun _ =>
      some ()).bind fun _ =>
      some ((hH l1372 x1412.from_.toNat (w64 ((gd l1372 x1412.to_.toNat) + x1412.count))),(hH l1373 x1412.from_.toNat (↑k1375:Int)),x1412.from_)
     else
      some (l1372,l1373,x1374)
    else
     some (l1372,l1373,x1374)
   else
    (chk x1412.from_ l1372.length).bind fun _ =>
    if (gd l1372 x1412.from_.toNat) < 1125899906842624 then
     (chk x1412.to_ l1372.length).bind fun _ =>
     if (w64 ((gd l1372 x1412.from_.toNat) + x1412.count)) < (gd l1372 x1412.to_.toNat) then
      ((chk x1412.to_ l1373.length).bind fun _ =>
      some ()).bind fun _ =>
      some ((hH l1372 x1412.to_.toNat (w64 ((gd l1372 x1412.from_.toNat) + x1412.count))),(hH l1373 x1412.to_.toNat (↑k1375:Int)),x1412.to_)
     else
      some (l1372,l1373,x1374)
    else
     some (l1372,l1373,x1374)).bind fun (l1406,l1407,x1408) =>
   some (l1406,l1407,x1408)) (l1333,l1334,-1)).bind fun (y1380,y1381,y1382) =>
  if y1382 < 0 then
   esc (some ((⟨y1380,y1381⟩:wCx),0,true))
  else
   some (.inl (y1380,y1381,y1382))) (y1259,l12,-1)) fun (y1697,y1698,y1699) =>
 some ((⟨y1697,y1698⟩:wCx),y1699,false)
def wAp (p0:wAX):Option (Bool) :=
 (wAg p0 (-1) false).bind fun (x3,x4,x5) =>
 some x5
def wCP (p0:wAE) (p1:List wAP):Option ((Option wAX) × Int) :=
 (wCA p0).bind fun (x5,x6) =>
 match x5 with
 | none =>
  if x6=0 then
   (wAz p1 (fun x=>wAf p0 x)).bind fun x40 =>
   if x40=true then
    none
   else
    some (none,1)
  else
   some (none,x6)
 | some x30 =>
  if x6=0 then
   (wAz p1 (fun x=>wAf p0 x)).bind fun x71 =>
   if x71=true then
    (wAp x30).bind fun x96 =>
    if x96=true then
     some ((some x30),0)
    else
     some (none,7)
   else
    some (none,1)
  else
   some (none,x6)
def wBn (p0:wAP):Option (wAL) :=
 some (⟨p0.Skier,p0.Mat⟩:wAL)
def wAo (p0:wAX) (p1:wAL) (p2:wAL):Option (wAF) :=
 ((wAg p0 (wBE p0.number p1 0) false).bind fun (x26,x27,x28) =>
 some (x26.far,x26.by_)).bind fun (l17,l20) =>
 ((wAg p0 (wBE p0.number p2 0) false).bind fun (x145,x146,x147) =>
 some (x145.far,x145.by_)).bind fun (l131,l134) =>
 (chk (wBE p0.number p1 0) l131.length).bind fun _ =>
 (chk (wBE p0.number p2 0) l17.length).bind fun _ =>
 some (⟨w64 (-(gd l131 (wBE p0.number p1 0).toNat)),(gd l17 (wBE p0.number p2 0).toNat)⟩:wAF)
def wAZ (p0:wAE) (p1:wAP):Option (wAF × Int) :=
 (wCP p0 [p1]).bind fun (x27,x28) =>
 match x27 with
 | none =>
  if x28=0 then
   (wBN).bind fun x58 =>
   (wBn p1).bind fun x68 =>
   none
  else
   some ((⟨0,0⟩:wAF),x28)
 | some x52 =>
  if x28=0 then
   (wBN).bind fun x95 =>
   (wBn p1).bind fun x105 =>
   (wAo x52 x95 x105).bind fun x125 =>
   some (x125,0)
  else
   some ((⟨0,0⟩:wAF),x28)
def wBZ (p0:Int) (p1:wAJ) (p2:Int):Option (Bool) :=
 some (decide (p0=p2))
def wAt (p0:wAE) (p1:((Int × wAJ)->Option Bool)):Option (wAX) :=
 (mkz 32 (↑p0.Readings.length:Int) (⟨0,0,0,0⟩:wAJ)).bind fun x5 =>
 (wJR x5 0 p0.Readings).bind fun x13 =>
 (wBe 0 (↑x13.length:Int) (fun k34 (l32,k33) =>
  (chk (↑k34:Int) l32.length).bind fun _ =>
  (p1 ((↑k34:Int),(gd l32 k34))).bind fun x68 =>
  if x68=true then
   some (l32,k33)
  else
   (chk (((k33):Nat):Int) l32.length).bind fun _ =>
   some ((hH l32 k33 (gd l32 k34)),(k33 + 1))) (x13,0)).bind fun (y39,y40) =>
 (cut y39 0 ((y40:Nat):Int)).bind fun x114 =>
 (wCj (⟨p0.Starts,p0.Splits,p0.Clocks,x114⟩:wAE)).bind fun x130 =>
 some x130
def wCF (p0:List Int):Option (Int) :=
 if (↑p0.length:Int) < 1 then
  none
 else
  (idx p0 0).bind fun x4 =>
  (wBe 1 (↑p0.length:Int) (fun k17 x16 =>
   (idx p0 (1 + ↑k17:Int)).bind fun x37 =>
   some (max x16 x37)) x4).bind fun y22 =>
  some y22
def wDi (p0:List Int):Option (Int) :=
 (wCF p0).bind fun x1 =>
 some x1
def wCk (p0:wAE) (p1:wAP):Option ((List Int) × Int) :=
 (wCP p0 [p1]).bind fun (x23,x24) =>
 match x23 with
 | none =>
  if x24=0 then
   (wBN).bind fun x52 =>
   (wBn p1).bind fun x62 =>
   none
  else
   some ([],x24)
 | some x48 =>
  if x24=0 then
   ((wBN).bind fun x149 =>
   (wBn p1).bind fun x159 =>
   (wAo x48 x149 x159).bind fun x179 =>
   some (x179.Lo,x179.Hi)).bind fun (x144,x145) =>
   (wBe 0 (↑p0.Readings.length:Int) (fun k385 l381 =>
    ((wAt p0 (fun x=>wBZ x.1 x.2 (↑k385:Int))).bind fun x446 =>
    (wBN).bind fun x478 =>
    (wBn p1).bind fun x488 =>
    (wAo x446 x478 x488).bind fun x515 =>
    some (x515.Lo,x515.Hi)).bind fun (x419,x420) =>
    (wDi [w64 (x144 - x419),w64 (x420 - x145)]).bind fun x925 =>
    if 0 < x925 then
     (app 8 l381 [(↑k385:Int)]).bind fun x944 =>
     some x944
    else
     some l381) []).bind fun y390 =>
   some (y390,0)
  else
   some ([],x24)
def wAe (p0:List wAJ) (p1:Int) (p2:Int):Option (List wAJ):=delO p0 p1 p2
def wBr (p0:List Int) (p1:Int):Option (Int) :=
 jn (wEi 0 (↑p0.length:Int) (fun k2 _ =>
  (idx p0 (↑k2:Int)).bind fun x22 =>
  if p1=x22 then
   esc (some (↑k2:Int))
  else
   some (.inl ())) ()) fun _ =>
 some (-1)
def wAq (p0:List Int) (p1:Int):Option (Bool) :=
 (wBr p0 p1).bind fun x1 =>
 some (decide (0 <= x1))
def wAr :Option (wAE) :=
 some (⟨[0,300],[(⟨1000,1200⟩:wAF),(⟨900,1500⟩:wAF)],[(⟨(⟨-5,5⟩:wAF),1⟩:wAG)],[(⟨0,2,0,2250⟩:wAJ),(⟨1,1,0,1400⟩:wAJ),(⟨1,2,0,2499⟩:wAJ)]⟩:wAE)
def wFX (p0:wAE) (p1:wAP) (p2:wAP):Option (wAF × Int) :=
 (wCP p0 [p1,p2]).bind fun (x31,x32) =>
 match x31 with
 | none =>
  if x32=0 then
   (wBn p1).bind fun x62 =>
   (wBn p2).bind fun x72 =>
   none
  else
   some ((⟨0,0⟩:wAF),x32)
 | some x56 =>
  if x32=0 then
   (wBn p1).bind fun x99 =>
   (wBn p2).bind fun x109 =>
   (wAo x56 x99 x109).bind fun x129 =>
   some (x129,0)
  else
   some ((⟨0,0⟩:wAF),x32)
def wCB (p0:wAE) (p1:wAK):Option (Bool) :=
 if p1.Kind=0 then
  (wBB p1.Kind 0 3).bind fun x16 =>
  if x16=true then
   (wBG).bind fun _ =>
   (wDv p0 p1).bind fun x45 =>
   some x45
  else
   some false
 else
  if p1.Kind=1 then
   (wBB p1.Kind 0 3).bind fun x67 =>
   if x67=true then
    (wBG).bind fun _ =>
    (wDw p0 p1).bind fun x96 =>
    some x96
   else
    some false
  else
   if p1.Kind=2 then
    (wBB p1.Kind 0 3).bind fun x118 =>
    if x118=true then
     (wBG).bind fun _ =>
     (wDx p0 p1).bind fun x147 =>
     some x147
    else
     some false
   else
    if p1.Kind=3 then
     (wBB p1.Kind 0 3).bind fun x169 =>
     if x169=true then
      (wBG).bind fun _ =>
      (wDh p0 p1).bind fun x198 =>
      some x198
     else
      some false
    else
     (wBB p1.Kind 0 3).bind fun x220 =>
     if x220=true then
      (wBG).bind fun _ =>
      none
     else
      some false
def wCQ (p0:List wAK) (p1:(wAK->Option Bool)):Option (Bool) :=
 jn (wEi 0 (↑p0.length:Int) (fun k2 _ =>
  (idx p0 (↑k2:Int)).bind fun x22 =>
  (p1 x22).bind fun x37 =>
  if x37=true then
   some (.inl ())
  else
   esc (some false)) ()) fun _ =>
 some true
def wCR (p0:wAE) (p1:List wAK):Option (Int) :=
 if 80 < (↑p1.length:Int) then
  some 2
 else
  (wCQ p1 (fun x=>wCB p0 x)).bind fun x9 =>
  if x9=true then
   some 0
  else
   some 1
def wCd (p0:wAE) (p1:wAL) (p2:List wAK):Option (wAL × Int × Bool) :=
 jn (wEi 0 (↑p2.length:Int) (fun k27 (x24,x25,x26) =>
  (idx p2 (↑k27:Int)).bind fun x50 =>
  (wBH p0 x50).bind fun (x69,x70,x71) =>
  if x69=(⟨x24,x25⟩:wAL) then
   some (.inl (x70.skier,x70.mat,w64 (x26 + x71)))
  else
   esc (some ((⟨x24,x25⟩:wAL),0,false))) (p1.skier,p1.mat,0)) fun (y114,y115,y116) =>
 some ((⟨y114,y115⟩:wAL),y116,true)
def wEI (p0:wAE) (p1:wAP) (p2:wAP) (p3:List wAK):Option (Int × Int) :=
 (wCO p0).bind fun x13 =>
 if x13=0 then
  (wAf p0 p1).bind fun x29 =>
  if x29=true then
   (wAf p0 p2).bind fun x45 =>
   if x45=true then
    (wCR p0 p3).bind fun x64 =>
    if x64=0 then
     ((wBn p1).bind fun x85 =>
     (wCd p0 x85 p3).bind fun (x105,x106,x107) =>
     some (x105.skier,x105.mat,x106,x107)).bind fun (x78,x79,x80,b81) =>
     if b81=true then
      (wBn p2).bind fun x256 =>
      if (⟨x78,x79⟩:wAL)=x256 then
       some (x80,0)
      else
       some (0,8)
     else
      some (0,8)
    else
     some (0,x64)
   else
    some (0,1)
  else
   some (0,1)
 else
  some (0,x13)
def wEJ (p0:wAE) (p1:Int):Option ((Option wAX) × Int) :=
 (wCP p0 [(⟨0,p1⟩:wAP)]).bind fun (x19,x20) =>
 match x19 with
 | none =>
  some (none,x20)
 | some x44 =>
  some ((some x44),x20)
def wCo (p0:wAX) (p1:Int):Option ((Arr Int 64)) :=
 (wBe 0 (↑p0.Race.Starts.length:Int) (fun k19 a18 =>
  (wAg p0 (wBE p0.number (⟨(↑k19:Int),p1⟩:wAL) 0) false).bind fun (x47,x48,x49) =>
  (wBe 0 (↑p0.Race.Starts.length:Int) (fun k79 a78 =>
   (chk (wBE p0.number (⟨(↑k79:Int),p1⟩:wAL) 0) x47.far.length).bind fun _ =>
   (chk (↑k19:Int) 8).bind fun _ =>
   (chk (↑k79:Int) 8).bind fun _ =>
   some (a78.set (k19 * 8 + k79) (gd x47.far (wBE p0.number (⟨(↑k79:Int),p1⟩:wAL) 0).toNat))) a18).bind fun y84 =>
  some y84) (Arr.fill 64 0)).bind fun y24 =>
 some y24
def wEK (p0:wAE) (p1:Int):Option ((List wAF) × Int) :=
 (wEJ p0 p1).bind fun (x5,x6) =>
 match x5 with
 | none =>
  if x6=0 then
   none
  else
   some ([],x6)
 | some x30 =>
  if x6=0 then
   (wCo x30 p1).bind fun x48 =>
   (wBe 0 (↑p0.Starts.length:Int) (fun k83 l79 =>
    (wBe 0 (↑p0.Starts.length:Int) (fun k124 (x122,x123) =>
     (chk (↑k83:Int) 8).bind fun _ =>
     (chk (↑k124:Int) 8).bind fun _ =>
     if (x48.get (k83 * 8 + k124)) < 0 then
      if 0 < (x48.get (k124 * 8 + k83)) then
       some (w64 (x122 + 1),w64 (x123 + 1))
      else
       some (w64 (x122 + 1),x123)
     else
      if 0 < (x48.get (k124 * 8 + k83)) then
       some (x122,w64 (x123 + 1))
      else
       some (x122,x123)) (1,1)).bind fun (y129,y130) =>
    (app 16 l79 [(⟨y129,y130⟩:wAF)]).bind fun x207 =>
    some x207) []).bind fun y88 =>
   some (y88,0)
  else
   some ([],x6)
def wCS (p0:wAJ) (p1:Int) (p2:Int):Option (Bool) :=
 some (decide ((⟨p0.Skier,p0.Mat⟩:wAP)=(⟨p1,p2⟩:wAP)))
def wAm (p0:List wAJ) (p1:(wAJ->Option Bool)):Option (Int) :=
 jn (wEi 0 (↑p0.length:Int) (fun k2 _ =>
  (idx p0 (↑k2:Int)).bind fun x22 =>
  (p1 x22).bind fun x30 =>
  if x30=true then
   esc (some (↑k2:Int))
  else
   some (.inl ())) ()) fun _ =>
 some (-1)
def wAj (p0:List wAJ) (p1:(wAJ->Option Bool)):Option (Bool) :=
 (wAm p0 p1).bind fun x1 =>
 some (decide (0 <= x1))
def wDy (p0:wAE):Option ((List wAP) × Int) :=
 (wCO p0).bind fun x5 =>
 if x5=0 then
  (wBe 0 (↑p0.Starts.length:Int) (fun k34 l30 =>
   iter (fun (l91,x95) =>
    if x95 <= (↑p0.Splits.length:Int) then
     (wAj p0.Readings (fun x=>wCS x (↑k34:Int) x95)).bind fun x127 =>
     if x127=true then
      some (.inl (l91,w64 (x95 + 1)))
     else
      (app 16 l91 [(⟨(↑k34:Int),x95⟩:wAP)]).bind fun x163 =>
      some (.inl (x163,w64 (x95 + 1)))
    else
     esc (some l91)) big (l30,1)) []).bind fun y39 =>
  some (y39,0)
 else
  some ([],x5)
def wBo (p0:List wAF) (p1:List wAF):Option (Bool) :=
 if (↑p0.length:Int)=(↑p1.length:Int) then
  jn (wEi 0 (↑p0.length:Int) (fun k4 _ =>
   (idx p0 (↑k4:Int)).bind fun x26 =>
   (idx p1 (↑k4:Int)).bind fun x34 =>
   if x26=x34 then
    some (.inl ())
   else
    esc (some false)) ()) fun _ =>
  some true
 else
  some false
def wBh (p0:List wAP) (p1:List wAP):Option (Bool) :=
 if (↑p0.length:Int)=(↑p1.length:Int) then
  jn (wEi 0 (↑p0.length:Int) (fun k4 _ =>
   (idx p0 (↑k4:Int)).bind fun x26 =>
   (idx p1 (↑k4:Int)).bind fun x34 =>
   if x26=x34 then
    some (.inl ())
   else
    esc (some false)) ()) fun _ =>
  some true
 else
  some false
def wBI :Option (wAE) :=
 (wAr).bind fun x5 =>
 (chk 1 x5.Readings.length).bind fun _ =>
 some (⟨x5.Starts,x5.Splits,x5.Clocks,(hH x5.Readings 1 (⟨(gd x5.Readings 1).Skier,(gd x5.Readings 1).Mat,(gd x5.Readings 1).Clock,1700⟩:wAJ))⟩:wAE)
def wDY (p0:wAX) (p1:List Int):Option ((List (List Int)) × (List Int)) :=
 (idx p1 0).bind fun x3 =>
 (wBe 0 (↑p0.Race.Starts.length:Int) (fun k31 l26 =>
  (wBe 0 (w64 ((↑p0.Race.Splits.length:Int) + 1)) (fun k74 l70 =>
   (idx p1 (wBE p0.number (⟨(↑k31:Int),(↑k74:Int)⟩:wAL) 0)).bind fun x103 =>
   (app 8 l70 [w64 (x103 - x3)]).bind fun x117 =>
   some x117) []).bind fun y79 =>
  (app 24 l26 [y79]).bind fun x161 =>
  some x161) []).bind fun y36 =>
 (wBe 0 (↑p0.Race.Clocks.length:Int) (fun k215 l211 =>
  (wCa (↑k215:Int)).bind fun x243 =>
  (idx p1 (wBE p0.number x243 0)).bind fun x253 =>
  (app 8 l211 [w64 (x3 - x253)]).bind fun x268 =>
  some x268) []).bind fun y220 =>
 some (y36,y220)
def wEX (p0:wAE):Option ((List (List Int)) × (List Int) × Int) :=
 (wCA p0).bind fun (x5,x6) =>
 match x5 with
 | none =>
  if x6=0 then
   none
  else
   some ([],[],x6)
 | some x30 =>
  if x6=0 then
   (wAg x30 (-1) false).bind fun (x59,x60,x61) =>
   if x61=true then
    (wDY x30 x59.far).bind fun (x101,x102) =>
    some (x101,x102,0)
   else
    some ([],[],7)
  else
   some ([],[],x6)
def wDz (p0:wAE) (p1:List wAK):Option (Int × Int) :=
 (wCO p0).bind fun x5 =>
 if x5=0 then
  (wCR p0 p1).bind fun x22 =>
  if x22=0 then
   if (↑p1.length:Int)=0 then
    some (0,8)
   else
    ((idx p1 0).bind fun x44 =>
    (wBH p0 x44).bind fun (x56,x57,x58) =>
    some (x56.skier,x56.mat)).bind fun (x39,x40) =>
    (wCd p0 (⟨x39,x40⟩:wAL) p1).bind fun (x279,x280,x281) =>
    if x281=true then
     if x279=(⟨x39,x40⟩:wAL) then
      if 0 <= x280 then
       some (0,8)
      else
       some (x280,0)
     else
      some (0,8)
    else
     some (0,8)
  else
   some (0,x22)
 else
  some (0,x5)
def wCq (p0:Int) (p1:wAJ) (p2:Int):Option (Bool) :=
 some (decide (p0=p2))
def wCr (p0:Int) (p1:wAJ) (p2:Int) (p3:Int):Option (Bool) :=
 if p0=p2 then
  some true
 else
  some (decide (p0=p3))
def wEY (p0:wAE):Option ((List Int) × Int) :=
 (wCA p0).bind fun (x5,x6) =>
 match x5 with
 | none =>
  if x6=0 then
   none
  else
   some ([],x6)
 | some x30 =>
  if x6=0 then
   (wAp x30).bind fun x57 =>
   if x57=true then
    some ([],0)
   else
    jn (wEi 0 (↑p0.Readings.length:Int) (fun k73 _ =>
     (wAt p0 (fun x=>wCq x.1 x.2 (↑k73:Int))).bind fun x126 =>
     (wAp x126).bind fun x167 =>
     if x167=true then
      esc (some ([(↑k73:Int)],0))
     else
      some (.inl ())) ()) fun _ =>
    jn (wEi 0 (↑p0.Readings.length:Int) (fun k204 _ =>
     iter (fun x250 =>
      if x250 < (↑p0.Readings.length:Int) then
       (wAt p0 (fun x=>wCr x.1 x.2 (↑k204:Int) x250)).bind fun x309 =>
       (wAp x309).bind fun x350 =>
       if x350=true then
        esc (esc (some ([(↑k204:Int),x250],0)))
       else
        some (.inl (w64 (x250 + 1)))
      else
       esc (some (.inl ()))) big (↑(k204 + 1):Int)) ()) fun _ =>
    some ([],10)
  else
   some ([],x6)
def wCs (p0:Int) (p1:wAJ) (p2:Int):Option (Bool) :=
 some (decide (p1.Skier=p2))
def wEZ (p0:wAE):Option ((List Int) × Int) :=
 (wCA p0).bind fun (x5,x6) =>
 match x5 with
 | none =>
  if x6=0 then
   none
  else
   some ([],x6)
 | some x30 =>
  if x6=0 then
   (wAp x30).bind fun x57 =>
   if x57=true then
    some ([],6)
   else
    (wBe 0 (↑p0.Starts.length:Int) (fun k89 l85 =>
     (wAt p0 (fun x=>wCs x.1 x.2 (↑k89:Int))).bind fun x145 =>
     (wAp x145).bind fun x186 =>
     if x186=true then
      (app 8 l85 [(↑k89:Int)]).bind fun x206 =>
      some x206
     else
      some l85) []).bind fun y94 =>
    some (y94,0)
  else
   some ([],x6)
def wBs (p0:List Int) (p1:List Int):Option (Bool) :=
 if (↑p0.length:Int)=(↑p1.length:Int) then
  jn (wEi 0 (↑p0.length:Int) (fun k4 _ =>
   (idx p0 (↑k4:Int)).bind fun x26 =>
   (idx p1 (↑k4:Int)).bind fun x34 =>
   if x26=x34 then
    some (.inl ())
   else
    esc (some false)) ()) fun _ =>
  some true
 else
  some false
def wBf :Option (Bool) :=
 (wAr).bind fun x1 =>
 (wAi 0 2).bind fun x23 =>
 (wAZ x1 x23).bind fun (x59,x60) =>
 (wAr).bind fun x77 =>
 (wAi 0 1).bind fun x99 =>
 (wAZ x77 x99).bind fun (x135,x136) =>
 (wAr).bind fun x153 =>
 (wAi 0 2).bind fun x175 =>
 (wAi 1 2).bind fun x185 =>
 (wFX x153 x175 x185).bind fun (x221,x222) =>
 (wAr).bind fun x239 =>
 (wAi 0 2).bind fun x261 =>
 (wAi 1 2).bind fun x271 =>
 (wEI x239 x261 x271 [(⟨3,0,0,false⟩:wAK),(⟨3,0,2,true⟩:wAK)]).bind fun (x321,x322) =>
 (wAr).bind fun x342 =>
 (wEK x342 2).bind fun (x390,x391) =>
 (wAr).bind fun x404 =>
 (wDy x404).bind fun (x452,x453) =>
 (if x60=0 then
  if x136=0 then
   if x222=0 then
    if x322=0 then
     if x391=0 then
      if x453=0 then
       if x59=(⟨2244,2256⟩:wAF) then
        if x135=(⟨1000,1200⟩:wAF) then
         if x221=(⟨247,251⟩:wAF) then
          if x321=251 then
           (wBo x390 [(⟨1,1⟩:wAF),(⟨2,2⟩:wAF)]).bind fun x506 =>
           if x506=true then
            (wAi 0 1).bind fun x518 =>
            (wBh x452 [x518]).bind fun x544 =>
            some (!x544)
           else
            some true
          else
           some true
         else
          some true
        else
         some true
       else
        some true
      else
       some true
     else
      some true
    else
     some true
   else
    some true
  else
   some true
 else
  some true).bind fun b466 =>
 if b466=true then
  some false
 else
  (wBI).bind fun x586 =>
  (wEX x586).bind fun (x634,x635,x636) =>
  (wBI).bind fun x654 =>
  (wDz x654 [(⟨0,1,0,true⟩:wAK),(⟨1,1,0,true⟩:wAK),(⟨3,0,1,false⟩:wAK),(⟨2,0,0,false⟩:wAK)]).bind fun (x716,x717) =>
  (wBI).bind fun x727 =>
  (wEY x727).bind fun (x775,x776) =>
  (wBI).bind fun x789 =>
  (wEZ x789).bind fun (x837,x838) =>
  if x636=7 then
   if x717=0 then
    if x776=0 then
     if x838=0 then
      if x716=(-194) then
       (wBs x775 [1]).bind fun x886 =>
       if x886=true then
        (wBs x837 [1]).bind fun x914 =>
        some x914
       else
        some false
      else
       some false
     else
      some false
    else
     some false
   else
    some false
  else
   some false
def wBi (p0:List Int) (p1:List Int):Option (Bool) :=
 (wCJ p0).bind fun x1 =>
 (wBl x1 5 5 8).bind fun (x16,x17,x18,x19) =>
 (wCJ p1).bind fun x59 =>
 (wBT x59 x16).bind fun (x104,x105) =>
 ((wAk x16).bind fun x174 =>
 (wAk x16).bind fun x200 =>
 (wAk x16).bind fun x226 =>
 some (x226.Starts,x226.Splits,x226.Clocks,x226.Readings,x226.Starts,x226.Splits,x226.Clocks,x226.Readings,x226.Starts,x226.Splits,x226.Clocks,x226.Readings)).bind fun (l127,l130,l133,l136,l141,l144,l147,l150,l155,l158,l161,l164) =>
 ((wAM x105 (↑x16.Starts.length:Int)).bind fun (x756,x757) =>
 (wAM x757 (w64 ((↑x16.Splits.length:Int) + 1))).bind fun (x771,x772) =>
 (wAM x772 (↑x16.Clocks.length:Int)).bind fun (x785,x786) =>
 some (x786.bytes,x786.next,x786.state,x756,x771,x785)).bind fun (l687,x690,x691,x694,x695,x696) =>
 (idx x17 x694).bind fun x1012 =>
 (idx x1012 x695).bind fun x1032 =>
 (chk x696 x18.length).bind fun _ =>
 if 0 <= (w64 (x1032 + (gd x18 x696.toNat))) then
  (app 32 l136 [(⟨x694,x695,x696,w64 (x1032 + (gd x18 x696.toNat))⟩:wAJ)]).bind fun x1054 =>
  (wBe 0 (↑l147.length:Int) (fun k1091 (l1085,x1088,x1089,l1090) =>
   (chk (↑k1091:Int) l1090.length).bind fun _ =>
   (wAM (⟨l1085,x1088,x1089⟩:wAI) 9).bind fun (x1151,x1152) =>
   (wAM x1152 9).bind fun (x1215,x1216) =>
   (wAM x1216 9).bind fun (x1229,x1230) =>
   some (x1230.bytes,x1230.next,x1230.state,(hH (hH l1090 k1091 (⟨((gd l1090 k1091).Offset),w64 (((gd l1090 k1091).Error) + x1151)⟩:wAG)) k1091 (⟨(⟨w64 ((((gd (hH l1090 k1091 (⟨((gd l1090 k1091).Offset),w64 (((gd l1090 k1091).Error) + x1151)⟩:wAG)) k1091).Offset).Lo) - x1215),w64 ((((gd (hH l1090 k1091 (⟨((gd l1090 k1091).Offset),w64 (((gd l1090 k1091).Error) + x1151)⟩:wAG)) k1091).Offset).Hi) + x1229)⟩:wAF),(gd (hH l1090 k1091 (⟨((gd l1090 k1091).Offset),w64 (((gd l1090 k1091).Error) + x1151)⟩:wAG)) k1091).Error⟩:wAG)))) (l687,x690,x691,l147)).bind fun (y1096,y1097,y1098,y1099) =>
  (wBe 0 (↑l144.length:Int) (fun k1305 (l1299,x1302,x1303,l1304) =>
   (chk (↑k1305:Int) l1304.length).bind fun _ =>
   (wAM (⟨l1299,x1302,x1303⟩:wAI) 9).bind fun (x1371,x1372) =>
   (chk (↑k1305:Int) (hH l1304 k1305 (⟨w64 (((gd l1304 k1305).Lo) - x1371),(gd l1304 k1305).Hi⟩:wAF)).length).bind fun _ =>
   (wAM x1372 9).bind fun (x1422,x1423) =>
   some (x1423.bytes,x1423.next,x1423.state,(hH (hH l1304 k1305 (⟨w64 (((gd l1304 k1305).Lo) - x1371),(gd l1304 k1305).Hi⟩:wAF)) k1305 (⟨(gd (hH l1304 k1305 (⟨w64 (((gd l1304 k1305).Lo) - x1371),(gd l1304 k1305).Hi⟩:wAF)) k1305).Lo,w64 (((gd (hH l1304 k1305 (⟨w64 (((gd l1304 k1305).Lo) - x1371),(gd l1304 k1305).Hi⟩:wAF)) k1305).Hi) + x1422)⟩:wAF)))) (y1096,y1097,y1098,l144)).bind fun (y1310,y1311,y1312,y1313) =>
  (wAZ x16 x104).bind fun (x1495,x1496) =>
  (wAZ (⟨l127,l130,l133,x1054⟩:wAE) x104).bind fun (x1539,x1540) =>
  (wAZ (⟨l141,y1313,y1099,l150⟩:wAE) x104).bind fun (x1583,x1584) =>
  (wAZ (⟨l155,l158,l161,[]⟩:wAE) x104).bind fun (x1619,x1620) =>
  if x1496=0 then
   if x1540=0 then
    if x1584=0 then
     if x1620=0 then
      if x1539.Lo < x1495.Lo then
       some false
      else
       if x1495.Hi < x1539.Hi then
        some false
       else
        if x1495.Lo < x1583.Lo then
         some false
        else
         if x1583.Hi < x1495.Hi then
          some false
         else
          (idx x16.Starts x104.Skier).bind fun x1677 =>
          (cut x16.Splits 0 x104.Mat).bind fun x1703 =>
          (wBe 0 (↑x1703.length:Int) (fun k1740 (x1738,x1739) =>
           (idx x1703 (↑k1740:Int)).bind fun x1767 =>
           some (w64 (x1738 + x1767.Lo),w64 (x1739 + x1767.Hi))) (x1677,x1677)).bind fun (y1745,y1746) =>
          if x1619=(⟨y1745,y1746⟩:wAF) then
           (wCk x16 x104).bind fun (x1840,x1841) =>
           if x1841=0 then
            jn (wEi 0 (↑x16.Readings.length:Int) (fun k1863 _ =>
             (wAk x16).bind fun x1897 =>
             (wAe x1897.Readings (↑k1863:Int) (↑(k1863 + 1):Int)).bind fun x1926 =>
             (wAZ (⟨x1897.Starts,x1897.Splits,x1897.Clocks,x1926⟩:wAE) x104).bind fun (x1969,x1970) =>
             if x1970=0 then
              if x1495.Lo < x1969.Lo then
               esc (some false)
              else
               if x1969.Hi < x1495.Hi then
                esc (some false)
               else
                (wAq x1840 (↑k1863:Int)).bind fun x2022 =>
                if (x2022 == (decide (¬ (x1969=x1495))))=true then
                 some (.inl ())
                else
                 esc (some false)
             else
              esc (some false)) ()) fun _ =>
            (wBf).bind fun x2056 =>
            some x2056
           else
            some false
          else
           some false
     else
      some false
    else
     some false
   else
    some false
  else
   some false
 else
  (wBe 0 (↑l147.length:Int) (fun k2099 (l2093,x2096,x2097,l2098) =>
   (chk (↑k2099:Int) l2098.length).bind fun _ =>
   (wAM (⟨l2093,x2096,x2097⟩:wAI) 9).bind fun (x2159,x2160) =>
   (wAM x2160 9).bind fun (x2223,x2224) =>
   (wAM x2224 9).bind fun (x2237,x2238) =>
   some (x2238.bytes,x2238.next,x2238.state,(hH (hH l2098 k2099 (⟨((gd l2098 k2099).Offset),w64 (((gd l2098 k2099).Error) + x2159)⟩:wAG)) k2099 (⟨(⟨w64 ((((gd (hH l2098 k2099 (⟨((gd l2098 k2099).Offset),w64 (((gd l2098 k2099).Error) + x2159)⟩:wAG)) k2099).Offset).Lo) - x2223),w64 ((((gd (hH l2098 k2099 (⟨((gd l2098 k2099).Offset),w64 (((gd l2098 k2099).Error) + x2159)⟩:wAG)) k2099).Offset).Hi) + x2237)⟩:wAF),(gd (hH l2098 k2099 (⟨((gd l2098 k2099).Offset),w64 (((gd l2098 k2099).Error) + x2159)⟩:wAG)) k2099).Error⟩:wAG)))) (l687,x690,x691,l147)).bind fun (y2104,y2105,y2106,y2107) =>
  (wBe 0 (↑l144.length:Int) (fun k2313 (l2307,x2310,x2311,l2312) =>
   (chk (↑k2313:Int) l2312.length).bind fun _ =>
   (wAM (⟨l2307,x2310,x2311⟩:wAI) 9).bind fun (x2379,x2380) =>
   (chk (↑k2313:Int) (hH l2312 k2313 (⟨w64 (((gd l2312 k2313).Lo) - x2379),(gd l2312 k2313).Hi⟩:wAF)).length).bind fun _ =>
   (wAM x2380 9).bind fun (x2430,x2431) =>
   some (x2431.bytes,x2431.next,x2431.state,(hH (hH l2312 k2313 (⟨w64 (((gd l2312 k2313).Lo) - x2379),(gd l2312 k2313).Hi⟩:wAF)) k2313 (⟨(gd (hH l2312 k2313 (⟨w64 (((gd l2312 k2313).Lo) - x2379),(gd l2312 k2313).Hi⟩:wAF)) k2313).Lo,w64 (((gd (hH l2312 k2313 (⟨w64 (((gd l2312 k2313).Lo) - x2379),(gd l2312 k2313).Hi⟩:wAF)) k2313).Hi) + x2430)⟩:wAF)))) (y2104,y2105,y2106,l144)).bind fun (y2318,y2319,y2320,y2321) =>
  (wAZ x16 x104).bind fun (x2503,x2504) =>
  (wAZ (⟨l127,l130,l133,l136⟩:wAE) x104).bind fun (x2547,x2548) =>
  (wAZ (⟨l141,y2321,y2107,l150⟩:wAE) x104).bind fun (x2591,x2592) =>
  (wAZ (⟨l155,l158,l161,[]⟩:wAE) x104).bind fun (x2627,x2628) =>
  if x2504=0 then
   if x2548=0 then
    if x2592=0 then
     if x2628=0 then
      if x2547.Lo < x2503.Lo then
       some false
      else
       if x2503.Hi < x2547.Hi then
        some false
       else
        if x2503.Lo < x2591.Lo then
         some false
        else
         if x2591.Hi < x2503.Hi then
          some false
         else
          (idx x16.Starts x104.Skier).bind fun x2685 =>
          (cut x16.Splits 0 x104.Mat).bind fun x2711 =>
          (wBe 0 (↑x2711.length:Int) (fun k2748 (x2746,x2747) =>
           (idx x2711 (↑k2748:Int)).bind fun x2775 =>
           some (w64 (x2746 + x2775.Lo),w64 (x2747 + x2775.Hi))) (x2685,x2685)).bind fun (y2753,y2754) =>
          if x2627=(⟨y2753,y2754⟩:wAF) then
           (wCk x16 x104).bind fun (x2848,x2849) =>
           if x2849=0 then
            jn (wEi 0 (↑x16.Readings.length:Int) (fun k2871 _ =>
             (wAk x16).bind fun x2905 =>
             (wAe x2905.Readings (↑k2871:Int) (↑(k2871 + 1):Int)).bind fun x2934 =>
             (wAZ (⟨x2905.Starts,x2905.Splits,x2905.Clocks,x2934⟩:wAE) x104).bind fun (x2977,x2978) =>
             if x2978=0 then
              if x2503.Lo < x2977.Lo then
               esc (some false)
              else
               if x2977.Hi < x2503.Hi then
                esc (some false)
               else
                (wAq x2848 (↑k2871:Int)).bind fun x3030 =>
                if (x3030 == (decide (¬ (x2977=x2503))))=true then
                 some (.inl ())
                else
                 esc (some false)
             else
              esc (some false)) ()) fun _ =>
            (wBf).bind fun x3064 =>
            some x3064
           else
            some false
          else
           some false
     else
      some false
    else
     some false
   else
    some false
  else
   some false
end Go.Proofs.Ytlnfbjphfoipaaa
namespace Go.Proofs
open Go.RowKit Go.Lib
set_option maxHeartbeats 4000000 in
set_option maxRecDepth 100000 in
theorem delCalls36 (b c n i j:Nat) (cs:List Value) (w:World) (hcs:cs.length=n * 4) (h1:∀ v ∈ cs,v.oneCell'=true)
  (hcell:∀ k v,cs[k]?=some v->w.cell? ⟨b,k,none⟩=some v) (hfz:∀ k,k < n * 4->w.frozen? ⟨b,k,none⟩=false) (hn:n <= c) (_:c <= 9223372036854775807) (hij:i < j) (hj:j <= n) :
  Calls Try.prog 36 #[.slice (some ⟨b,0,none⟩) n c,.int .i64 i,.int .i64 j] w fun e w'=>e=.returned (.slice (some ⟨b,0,none⟩) (n - (j - i)) c) /\
   w'=(w.drew.setCells b (i * 4) (cs.drop (j * 4))).setCells b ((n - (j - i)) * 4) (nJ ((j - i) * 4) (.int .i64 0)):=by
 obtain ⟨news,hnews⟩:∃ news,news=cs.drop (j * 4):=⟨_,rfl⟩
 have hlen:news.length=(n - j) * 4:=by rw [hnews,nZ,hcs];omega
 obtain ⟨A,hA,hsrc⟩:∃ A:Addr,(if c=j then some (⟨b,0,none⟩:Addr) else some ⟨b,j * 4,none⟩)=some A/\Hid (∀ t u,news[t]?=some u->w.drew.cell? (A.add t)=some u):=by
  by_cases h:c=j
  ·refine ⟨⟨b,0,none⟩,by simp [h],fun t u hu=>?_⟩
   have h0:news.length=0:=by rw [hlen];omega
   rw [List.length_eq_zero_iff.1 h0] at hu
   simp at hu
  ·refine ⟨⟨b,j * 4,none⟩,by simp [h],fun t u hu=>?_⟩
   rw [hnews,nz] at hu
   rw [Addr.add_lit]
   exact hcell _ _ hu
 have s1:Hid (news.length=(n - j) * 4):=hlen
 have s2:Hid (∀ u ∈ news,u.oneCell'=true):=by
  intro u hu
  rw [hnews] at hu
  exact h1 u (nt hu)
 have hsome:∀ k,k < n * 4->(w.cell? ⟨b,k,none⟩).isSome=true:=fun k hk=>by
  rw [hcell k _ (nj (by omega))];rfl
 have s3:Hid (∀ t,t < news.length->(w.drew.cell? ⟨b,0 + i * 4 + t,none⟩).isSome=true/\w.drew.frozen? ⟨b,0 + i * 4 + t,none⟩=false):=by
  intro t ht
  rw [hlen] at ht
  exact ⟨hsome _ (by omega),hfz _ (by omega)⟩
 obtain ⟨W1,hW1⟩:∃ W1,W1=w.drew.setCells b (i * 4) news:=⟨_,rfl⟩
 have hcl:∀ ty,(Builtin.clear_ #[26] ty #[.slice (some ⟨b,(i + (n - j)) * 4,none⟩) (n - (i + (n - j))) (c - (i + (n - j)))]).run Try.prog W1=.ok (.tuple #[]) (W1.setCells b ((i + (n - j)) * 4) (nJ ((n - (i + (n - j))) * 4) (.int .i64 0))) :=
  fun ty=>Go.KL.run_clear_sliceK W1 _ _ ty _ (.int .i64 0) 4 Try.underlying26 Try.zeroValue39 rfl (by omega) rfl b _ _ _ (by omega) (fun t ht=>by
   rw [hW1]
   exact Go.KL.isSome_setCells' b news (i * 4) w.drew (fun q hq=>hsome _ (by rw [hlen] at hq;omega)) _ (hsome ((i + (n - j)) * 4 + t) (by omega))) (fun t ht=>by rw [hW1,World.frozen?_setCells];exact hfz ((i + (n - j)) * 4 + t) (by omega))
 have hW:Hid (W1=w.drew.setCells b (0 + i * 4) news):=by rw [nV];exact hW1
 have hic:i <= c:=by omega
 have hjc:j <= c:=by omega
 have ty30:=Try.typeInfo39
 have mixed:Try.prog.follows .mixedOrders=true:=rfl
 have hnews':Hid (news=cs.drop (j * 4)):=hnews
 try simp only [Nat.mul_one] at hcl
 clear hW1 hsome hlen hnews
 go_enter Try.func36,Try.ntmps36
 go_wp2_with fail
 go_region_law_o (refine step_append_room rfl (.tmp 22) (.tmp 25) 26 rfl 39 _ 4 Try.underlying26 Try.type39 rfl b 0 i c (by simp [Act.eval,Act.put]) A (n - j) (c - j) news (by simp [Act.eval,Act.put] <;> first | assumption | simpa using hA) s1.out hsrc.out s2.out (by omega) s3.out ?_;rw [<- hW.out])
 go_wp2
 all_goals
  go_ret
  have e1:n - (j - i)=i + (n - j):=by omega
  have e2:n - (i + (n - j))=j - i:=by omega
  have hw:=hW.out
  rw [nV,hnews'.out] at hw
  refine ⟨by rw [e1];rfl,?_⟩
  first
  | (rw [e1,hw,e2];done)
  | (simp only [Nat.mul_one] at hw ⊢;rw [e1,hw,e2])
end Go.Proofs
namespace Go.Proofs.Ytlnfbjphfoipaaa
open Go.KL Go.KL.Net
structure EdOK (n:Nat) (e:wAW):Prop where
 f0:0 <= e.from_
 f1:e.from_ < n
 t0:0 <= e.to_
 t1:e.to_ < n
 c0:-400000 <= e.count
 c1:e.count <= 400000
def ed (p:Bool) (e:wAW):Ed:=if p then ⟨e.to_.toNat,e.from_.toNat,e.count⟩ else ⟨e.from_.toNat,e.to_.toNat,e.count⟩
abbrev SS:=List Int × List Int × Int
def spB (es:List wAW) (p2:Bool):Nat->SS->Option SS:=fun k1375 (l1372,l1373,x1374) =>
      ((idx es (↑k1375:Int)).bind fun x1412 =>
      if p2=true then
        (chk x1412.to_ l1372.length).bind fun _ =>
        if (gd l1372 x1412.to_.toNat) < 1125899906842624 then
          (chk x1412.from_ l1372.length).bind fun _ =>
          if (w64 ((gd l1372 x1412.to_.toNat) + x1412.count)) < (gd l1372 x1412.from_.toNat) then
            ((chk x1412.from_ l1373.length).bind fun _ =>
            some ()).bind fun _ =>
            some ((hH l1372 x1412.from_.toNat (w64 ((gd l1372 x1412.to_.toNat) + x1412.count))),(hH l1373 x1412.from_.toNat (↑k1375:Int)),x1412.from_)
          else
            some (l1372,l1373,x1374)
        else
          some (l1372,l1373,x1374)
      else
        (chk x1412.from_ l1372.length).bind fun _ =>
        if (gd l1372 x1412.from_.toNat) < 1125899906842624 then
          (chk x1412.to_ l1372.length).bind fun _ =>
          if (w64 ((gd l1372 x1412.from_.toNat) + x1412.count)) < (gd l1372 x1412.to_.toNat) then
            ((chk x1412.to_ l1373.length).bind fun _ =>
            some ()).bind fun _ =>
            some ((hH l1372 x1412.to_.toNat (w64 ((gd l1372 x1412.from_.toNat) + x1412.count))),(hH l1373 x1412.to_.toNat (↑k1375:Int)),x1412.to_)
          else
            some (l1372,l1373,x1374)
        else
          some (l1372,l1373,x1374)).bind fun (l1406,l1407,x1408) =>
      some (l1406,l1407,x1408)
theorem wMR {n:Nat} {es:List wAW} (hes:∀ e ∈ es,EdOK n e) {p:Bool} {k:Nat} (hk:k < es.length) {far by_:List Int} {last:Int} (hf:far.length=n) (hb:by_.length=n) {M:Int} (hM:M <= 1000000000000000) (h0:0 <= M) (hr:∀ v,v < n->gd far v=1125899906842624 \/ (-M <= gd far v/\gd far v <= M)) :
  (ed p (gd es k)).a < n/\(ed p (gd es k)).b < n /\
  spB es p k (far,by_,last)=some (if gd far (ed p (gd es k)).a < 1125899906842624/\gd far (ed p (gd es k)).a + (ed p (gd es k)).c < gd far (ed p (gd es k)).b then
   (far.set (ed p (gd es k)).b (gd far (ed p (gd es k)).a + (ed p (gd es k)).c),by_.set (ed p (gd es k)).b (k:Int),((ed p (gd es k)).b:Int)) else (far,by_,last)):=by
 obtain ⟨f0,f1,t0,t1,c0,c1⟩:=hes _ (wBK hk)
 have hw:∀ a:Int,0 <= a->a < n->gd far a.toNat < 1125899906842624->w64 (gd far a.toNat + (gd es k).count)=gd far a.toNat + (gd es k).count:=fun a h1 h2 h3=>by
  rcases hr a.toNat (by omega) with c | c
  ·omega
  ·exact wAU (by omega) (by omega)
 unfold spB ed
 rw [wGy hk]
 cases p with
 | true =>
  refine ⟨by simp only [if_true];omega,by simp only [if_true];omega,?_⟩
  simp only [hD,if_true]
  rw [wCy t0 (by omega),hD]
  by_cases a:gd far (gd es k).to_.toNat < 1125899906842624
  ·rw [if_pos a,wCy f0 (by omega),hD,hw _ t0 t1 a]
   by_cases b:gd far (gd es k).to_.toNat + (gd es k).count < gd far (gd es k).from_.toNat
   ·rw [if_pos b,wCy f0 (by omega),if_pos ⟨a,b⟩]
    simp only [hD]
    rw [show (((gd es k).from_.toNat:Nat):Int)=(gd es k).from_ by omega]
   ·rw [if_neg b,if_neg (fun h=>b h.2)];rfl
  ·rw [if_neg a,if_neg (fun h=>a h.1)];rfl
 | false =>
  refine ⟨by simp only [nN,if_false];omega,by simp only [nN,if_false];omega,?_⟩
  simp only [hD,nN,if_false]
  rw [wCy f0 (by omega),hD]
  by_cases a:gd far (gd es k).from_.toNat < 1125899906842624
  ·rw [if_pos a,wCy t0 (by omega),hD,hw _ f0 f1 a]
   by_cases b:gd far (gd es k).from_.toNat + (gd es k).count < gd far (gd es k).to_.toNat
   ·rw [if_pos b,wCy t0 (by omega),if_pos ⟨a,b⟩]
    simp only [hD]
    rw [show (((gd es k).to_.toNat:Nat):Int)=(gd es k).to_ by omega]
   ·rw [if_neg b,if_neg (fun h=>b h.2)];rfl
  ·rw [if_neg a,if_neg (fun h=>a h.1)];rfl
structure Ps (n:Nat) (es:List wAW) (p:Bool) (far:List Int) (M:Int) (i:Nat) (s:SS):Prop where
 fl:s.1.length=n
 bl:s.2.1.length=n
 rg:∀ v,v < n->gd s.1 v=1125899906842624 \/ (-(M + 400000 * (i:Int)) <= gd s.1 v/\gd s.1 v <= M + 400000 * (i:Int))
 le:∀ v,v < n->gd s.1 v <= gd far v
 ch:(s.2.2=-1/\s.1=far/\∀ e ∈ es.take i,gd far (ed p e).a < 1125899906842624->gd far (ed p e).b <= gd far (ed p e).a + (ed p e).c) \/ (0 <= s.2.2/\s.2.2 < n/\∃ v,v < n/\gd s.1 v < gd far v)
 fe:∀ x,wGF (es.map (ed p)) x->(∀ v,v < n->x v <= gd far v)->∀ v,v < n->x v <= gd s.1 v
 st:∀ δ,wGF (es.map (ed p)) δ->(∀ v,v < n->δ v <= gd far v)->(∀ v,v < n->δ v < 1125899906842624)->∀ e ∈ es.take i,gd far (ed p e).a=δ (ed p e).a->δ (ed p e).b=δ (ed p e).a + (ed p e).c->gd s.1 (ed p e).b=δ (ed p e).b
theorem wLQ {n:Nat} {es:List wAW} (hes:∀ e ∈ es,EdOK n e) (hl:es.length <= 1000) (p:Bool) {far by_:List Int} (hf:far.length=n) (hb:by_.length=n) {M:Int} (hM:M <= 900000000000000) (h0:0 <= M) (hr:∀ v,v < n->gd far v=1125899906842624 \/ (-M <= gd far v/\gd far v <= M)) :
  ∃ s,wBe 0 (↑es.length:Int) (spB es p) (far,by_,-1)=some s/\Ps n es p far M es.length s:=by
 rw [wEF (by omega)]
 obtain ⟨s,e,P⟩:=wEc (body:=spB es p) (fun i s=>Ps n es p far M i s) es.length 0 (far,by_,-1)
  ⟨hf,hb,fun v hv=>by have:=hr v hv;simp only;omega,fun _ _=>nn _,.inl ⟨rfl,rfl,fun e he=>by simp at he⟩,fun _ _ h=>h,fun _ _ _ _ e he=>by simp at he⟩ (by
  rintro i ⟨f,b,last⟩ _ hi P
  have hi':i < es.length:=by omega
  obtain ⟨fl,bl,rg,le,ch,fe,st⟩:=P
  simp only at fl bl rg le ch fe st
  obtain ⟨ha,hbb,e⟩:=wMR hes (p:=p) hi' (last:=last) fl bl (M:=M + 400000 * (i:Int)) (by omega) (by omega) rg
  have hm:=wBK hi'
  have hok:=hes _ hm
  have hc:-400000 <= (ed p (gd es i)).c/\(ed p (gd es i)).c <= 400000:=by
   have:=hok.c0;have:=hok.c1
   unfold ed
   split <;> exact ⟨by assumption,by assumption⟩
  have hfe:∀ x,wGF (es.map (ed p)) x->x (ed p (gd es i)).b <= x (ed p (gd es i)).a + (ed p (gd es i)).c:=fun x hx=>hx _ (nQ.2 ⟨_,hm,rfl⟩)
  have hends:∀ e ∈ es.take i,(ed p e).a < n/\(ed p e).b < n:=fun e he=>by
   obtain ⟨a1,a2,a3,a4,_,_⟩:=hes e (nu he)
   unfold ed
   split <;> (simp only;omega)
  generalize hE:ed p (gd es i)=E at ha hbb e hc hfe
  rw [e]
  by_cases c:gd f E.a < 1125899906842624/\gd f E.a + E.c < gd f E.b
  ·rw [if_pos c]
   obtain ⟨c1,c2⟩:=c
   have rga:-(M + 400000 * (i:Int)) <= gd f E.a/\gd f E.a <= M + 400000 * (i:Int):=by
    rcases rg E.a ha with q | q
    ·omega
    ·exact q
   have hg:∀ v,v < n->gd (f.set E.b (gd f E.a + E.c)) v=if v=E.b then gd f E.a + E.c else gd f v:=fun v hv=>wEn (by omega) (by omega)
   refine ⟨_,rfl,by simp [fl],by simp [bl],fun v hv=>?_,fun v hv=>?_,.inr ⟨by simp only;omega,by simp only;omega,E.b,hbb,?_⟩,fun x hx hxt v hv=>?_,fun δ hδ h1 h2 e' he' g1 g2=>?_⟩
   ·simp only
    rw [hg v hv]
    split
    ·right;omega
    ·rcases rg v hv with q | q
     ·exact .inl q
     ·right;omega
   ·simp only
    rw [hg v hv]
    split
    ·rename_i h;have:=le E.b hbb;rw [h];omega
    ·exact le v hv
   ·simp only
    rw [hg _ hbb,if_pos rfl]
    have:=le E.b hbb
    omega
   ·simp only
    rw [hg v hv]
    have:=fe x hx hxt
    split
    ·rename_i h
     have a1:=this E.a ha
     have a2:=hfe x hx
     rw [h];omega
    ·exact this v hv
   ·have lo:=fe δ hδ h1
    simp only
    rw [wGz hi'] at he'
    rcases nH.1 he' with he' | he'
    ·have old:=st δ hδ h1 h2 e' he' g1 g2
     rw [hg _ (hends e' he').2]
     split
     ·rename_i h
      have a1:=lo E.a ha
      have a2:=hfe δ hδ
      rw [h] at old ⊢
      omega
     ·exact old
    ·have:=nE.1 he'
     subst this
     rw [hE] at g1 g2 ⊢
     rw [hg _ hbb,if_pos rfl]
     have a1:=lo E.a ha
     have a2:=le E.a ha
     omega
  ·rw [if_neg c]
   refine ⟨_,rfl,fl,bl,fun v hv=>?_,le,?_,fe,fun δ hδ h1 h2 e' he' g1 g2=>?_⟩
   ·rcases rg v hv with q | q
    ·exact .inl q
    ·right;simp only;omega
   ·simp only
    rcases ch with ⟨q1,q2,q3⟩ | q
    ·refine .inl ⟨q1,q2,fun e' he' g=>?_⟩
     rw [wGz hi'] at he'
     rcases nH.1 he' with he' | he'
     ·exact q3 e' he' g
     ·have:=nE.1 he'
      subst this
      rw [hE] at g ⊢
      rw [q2] at c
      rcases Int.lt_or_le (gd far E.a + E.c) (gd far E.b) with d | d
      ·exact absurd ⟨g,d⟩ c
      ·exact d
    ·exact .inr q
   ·have lo:=fe δ hδ h1
    rw [wGz hi'] at he'
    rcases nH.1 he' with he' | he'
    ·exact st δ hδ h1 h2 e' he' g1 g2
    ·have:=nE.1 he'
     subst this
     rw [hE] at g1 g2 ⊢
     simp only
     have a1:=lo E.a ha
     have a2:=le E.a ha
     have a3:=lo E.b hbb
     have a4:=h2 E.a ha
     have fa:gd f E.a=δ E.a:=by omega
     rw [fa] at c
     rcases Int.lt_or_le (δ E.a + E.c) (gd f E.b) with d | d
     ·exact absurd ⟨a4,d⟩ c
     ·omega)
 rw [nV] at P
 exact ⟨s,e,P⟩
end Go.Proofs.Ytlnfbjphfoipaaa
namespace Go.Proofs.Ytlnfbjphfoipaaa
open Go.KL Go.KL.Net
theorem wEh {α:Type} [Inhabited α] (l:List α) (k:Nat):gd l k=(l[k]?).getD default:=by unfold gd;rw [List.getD_eq_getElem?_getD]
theorem wJh {α:Type} {m ys:List α} {a:Nat} (h:a <= m.length):(cpy m a ys).length=m.length:=by
 unfold cpy
 simp only [nM,nI,nZ]
 omega
theorem wKt {α:Type} [Inhabited α] {m ys:List α} {a j:Nat} (h:a <= m.length) (hj:j < m.length):gd (cpy m a ys) j=if j < a then gd m j else if j < a + ys.length then gd ys (j - a) else gd m j:=by
 rw [wEh,wEh,wEh]
 unfold cpy
 rw [kC]
 by_cases c:j < a
 ·rw [if_pos c,ni (by rw [nI];omega),nb,if_pos c]
 ·rw [if_neg c,nc (by rw [nI];omega),nI,Nat.min_eq_left h]
  by_cases d:j < a + ys.length
  ·rw [if_pos d,ni (by rw [nI];omega),nb,if_pos (by omega)]
  ·rw [if_neg d,nc (by rw [nI];omega),nI,nz,Nat.min_eq_right (by omega)]
   congr 2
   omega
theorem wHf (x:Int) {n:Nat} (h1:1 <= n) (h2:n <= 1000):wBA [x] (n:Int)=some (nJ n x):=by
 unfold wBA wDC
 have e1:wKD (([x]:List Int).length:Int)=1:=rfl
 have e2:wKD (n:Int)=n:=by unfold wKD;omega
 rw [if_neg (by omega),e1,e2,if_pos (by omega),hD]
 simp only
 rw [show (1:Int) * (n:Int) / 18446744073709551616=0 by omega,show (1:Int) * (n:Int) % 18446744073709551616=n by omega,if_neg (by omega),hD,decide_eq_false (by omega),if_neg (by simp),wAU (by omega) (by omega),mkz,if_pos (by omega),hD,wJR,if_pos (by simp),hD]
 have hlen:(nJ (n:Int).toNat (0:Int)).length=n:=by simp
 generalize nJ (n:Int).toNat (0:Int)=z at hlen
 have e3:((min ([x]:List Int).length z.length:Nat):Int)=1:=by simp only [nW];omega
 refine wID (I:=fun i (s:List Int × Int)=>s.1.length=n/\(i:Int) + 1 <= s.2/\s.2 <= n/\∀ j,j < s.2.toNat->gd s.1 j=x) n ⟨by rw [wJh (by simp)];exact hlen,by simp only;omega,by simp only;omega,fun j hj=>?_⟩ (by omega) ?_
 ·simp only at hj ⊢
  rw [wKt (by simp) (by omega),if_neg (by simp),if_pos (by simp only [nW];omega)]
  have:j=0:=by omega
  subst this
  rfl
 ·rintro i ⟨l,k⟩ hi ⟨q1,q2,q3,q4⟩
  simp only at q1 q2 q3 q4 ⊢
  by_cases c:k < (l.length:Int)
  ·left
   refine ⟨by omega,?_⟩
   have hd:(List.take ((l.length:Int).toNat - k.toNat) (List.drop k.toNat l)).length=l.length - k.toNat:=by
    rw [nI,nZ];omega
   have ht:(List.take (k.toNat - (0:Int).toNat) (List.drop (0:Int).toNat l))=l.take k.toNat:=by simp
   rw [if_pos c,cut,if_pos (by omega),hD,cut,if_pos (by omega),hD,wJR,if_pos (by omega),hD,ht,hd,nI]
   rw [wAU (by omega) (by omega)]
   refine ⟨_,rfl,by simp only;rw [wJh (by omega)];exact q1,by simp only;omega,by simp only;omega,fun j hj=>?_⟩
   simp only at hj ⊢
   rw [wKt (by omega) (by omega),nI]
   by_cases d:j < k.toNat
   ·rw [if_pos d];exact q4 j d
   ·rw [if_neg d,if_pos (by omega)]
    have:=q4 (j - k.toNat) (by omega)
    rw [wEh] at this ⊢
    rw [nb,if_pos (by omega)]
    exact this
  ·right
   rw [if_neg c,wKE]
   have:l=nJ n x:=wMQ (by simp [q1]) fun j hj=>by
    rw [q4 j (by omega),wHA (by simpa [q1] using hj)];simp
   rw [this]
def wGD (i:Int) (v:Nat):Int:=if i < 0 \/ (v:Int)=i then 0 else 1125899906842624
theorem wKu (i:Int) (v:Nat):0 <= wGD i v/\wGD i v <= 1125899906842624:=by unfold wGD;split <;> omega
theorem wLR {n:Nat} (i:Int) {l:List Int} (hl:l.length=n) (hn:n <= 1000) (h0:∀ v,v < n->gd l v=1125899906842624):∃ y,(wBe 0 (↑l.length:Int) (fun k1254 l1253 =>
  if i < 0 then
   (chk (↑k1254:Int) l1253.length).bind fun _ =>
   some (hH l1253 k1254 0)
  else
   if (↑k1254:Int)=i then
    (chk (↑k1254:Int) l1253.length).bind fun _ =>
    some (hH l1253 k1254 0)
   else
    some l1253) l)=some y/\y.length=n/\∀ v,v < n->gd y v=wGD i v:=by
 rw [wEF (by omega)]
 obtain ⟨y,e,y1,y2⟩:=wEc (body:=fun (k1254:Nat) (l1253:List Int) =>
  if i < 0 then
   (chk (↑k1254:Int) l1253.length).bind fun _ =>
   some (hH l1253 k1254 0)
  else
   if (↑k1254:Int)=i then
    (chk (↑k1254:Int) l1253.length).bind fun _ =>
    some (hH l1253 k1254 0)
   else
    some l1253) (fun k s=>s.length=n/\∀ v,v < n->gd s v=if v < k then wGD i v else 1125899906842624) l.length 0 l ⟨hl,fun v hv=>by rw [if_neg (by omega)];exact h0 v hv⟩ (by
  rintro k s _ hk ⟨s1,s2⟩
  have hk':k < n:=by omega
  have hset:∀ v,v < n->gd (s.set k 0) v=if v=k then 0 else gd s v:=fun v hv=>wEn (by omega) (by omega)
  by_cases c:i < 0 \/ (k:Int)=i
  ·have hb:(if i < 0 then (chk (↑k:Int) s.length).bind fun _=>some (hH s k 0) else if (↑k:Int)=i then (chk (↑k:Int) s.length).bind fun _=>some (hH s k 0) else some s)=some (s.set k 0):=by
    rw [wCy (by omega) (by omega)]
    rcases c with c | c
    ·rw [if_pos c];rfl
    ·rw [if_pos c]
     split <;> rfl
   refine ⟨_,hb,by simp [s1],fun v hv=>?_⟩
   rw [hset v hv]
   by_cases e:v=k
   ·subst e
    rw [if_pos rfl,if_pos (by omega),wGD,if_pos c]
   ·rw [if_neg e,s2 v hv]
    by_cases d:v < k
    ·rw [if_pos d,if_pos (by omega)]
    ·rw [if_neg d,if_neg (by omega)]
  ·refine ⟨s,by rw [if_neg (fun h=>c (.inl h)),if_neg (fun h=>c (.inr h))],s1,fun v hv=>?_⟩
   rw [s2 v hv]
   by_cases d:v < k
   ·rw [if_pos d,if_pos (by omega)]
   ·by_cases e:v=k
    ·subst e
     rw [if_neg (by omega),if_pos (by omega),wGD,if_neg c]
    ·rw [if_neg d,if_neg (by omega)])
 rw [nV] at y2
 exact ⟨y,e,y1,fun v hv=>by rw [y2 v hv,if_pos (by omega)]⟩
structure SpT (n:Nat) (es:List Ed) (i:Int) (far:List Int):Prop where
 fl:far.length=n
 rl:∀ e ∈ es,gd far e.a < 1125899906842624->gd far e.b <= gd far e.a + e.c
 rg:∀ v,v < n->gd far v=1125899906842624 \/ (-400000000000 <= gd far v/\gd far v <= 400000000000)
 le:∀ v,v < n->gd far v <= wGD i v
 fe:∀ x,wGF es x->(∀ v,v < n->x v <= wGD i v)->∀ v,v < n->x v <= gd far v
structure SpI (n:Nat) (es:List Ed) (i:Int) (t:Nat) (s:SS):Prop where
 fl:s.1.length=n
 bl:s.2.1.length=n
 rg:∀ v,v < n->gd s.1 v=1125899906842624 \/ (-(400000000 * (t:Int)) <= gd s.1 v/\gd s.1 v <= 400000000 * (t:Int))
 le:∀ v,v < n->gd s.1 v <= wGD i v
 fe:∀ x,wGF es x->(∀ v,v < n->x v <= wGD i v)->∀ v,v < n->x v <= gd s.1 v
 st:∀ δ,Most n es (wGD i) δ->(∀ v,v < n->δ v < 1125899906842624)->t <= wLn n δ fun v=>gd s.1 v
 la:t=0 \/ (0 <= s.2.2/\s.2.2 < n)
theorem wHg {d:wAX} {n:Nat} (hn:d.number.length=n) (h1:1 <= n) (h2:n <= 500) (hes:∀ e ∈ d.edges,EdOK n e) (hl:d.edges.length <= 1000) (i:Int) (p:Bool) :
  ∃ f last ok,wAg d i p=some (f,last,ok)/\f.by_.length=n/\f.far.length=n/\(ok=true->SpT n (d.edges.map (ed p)) i f.far)/\(ok=false->0 <= last/\last < n/\∀ δ,Most n (d.edges.map (ed p)) (wGD i) δ->¬ ∀ v,v < n->δ v < 1125899906842624):=by
 unfold wAg
 rw [hn,wHf _ h1 (by omega),hD,wHf _ h1 (by omega),hD,hD]
 simp only
 obtain ⟨y,e1,y1,y2⟩:=wLR (n:=n) i (l:=nJ n 1125899906842624) (by simp) (by omega) (fun v hv=>by rw [wHA (by simpa using hv)];simp)
 rw [e1,hD,wAU (by omega) (by omega)]
 have hn1:((n:Int) + 1)=((n + 1:Nat):Int):=by omega
 rw [hn1,wEE (by omega)]
 have hmap:∀ e ∈ d.edges.map (ed p),e.a < n/\e.b < n:=fun e he=>by
  obtain ⟨q,hq,rfl⟩:=nQ.1 he
  obtain ⟨a1,a2,a3,a4,_,_⟩:=hes q hq
  unfold ed
  split <;> (simp only;omega)
 rcases wIb (B:=wCx × Int × Bool) (body:=fun (k1336:Nat) ((l1333,l1334,x1335):SS) =>
  (wBe 0 (↑d.edges.length:Int) (spB d.edges p) (l1333,l1334,-1)).bind fun (y1380,y1381,y1382) =>
  if y1382 < 0 then
   esc (some ((⟨y1380,y1381⟩:wCx),0,true))
  else
   some (.inl (y1380,y1381,y1382))) (fun t s=>SpI n (d.edges.map (ed p)) i t s) (fun b=>b.2.2=true/\b.1.by_.length=n/\SpT n (d.edges.map (ed p)) i b.1.far) (n + 1) 0 (y,nJ n (-1),-1)
  ⟨y1,by simp,fun v hv=>by simp only;rw [y2 v hv];unfold wGD;split <;> omega,fun v hv=>by simp only;rw [y2 v hv];exact nn _,fun x _ hx v hv=>by simp only;rw [y2 v hv];exact hx v hv,fun _ _ _=>Nat.zero_le _,.inl rfl⟩ (by
   rintro t ⟨far,by_,last⟩ _ ht ⟨fl,bl,rg,le,fe,st,la⟩
   simp only at fl bl rg le fe st
   obtain ⟨⟨far',by',last'⟩,e,P⟩:=wLQ hes hl p fl bl (M:=400000000 * (t:Int)) (by omega) (by omega) rg
   obtain ⟨gl,ql,qg,qle,ch,qfe,qst⟩:=P
   simp only at gl ql qg qle ch qfe qst
   simp only
   rw [e,hD]
   simp only
   rcases ch with ⟨c1,c2,c3⟩ | ⟨c1,c2,v,hv,c3⟩
   ·right
    subst c1
    rw [if_pos (by omega)]
    refine ⟨_,rfl,rfl,ql,gl,fun e' he' hlt=>?_,fun v hv=>?_,fun v hv=>Int.le_trans (qle v hv) (le v hv),fun x hx hxt v hv=>qfe x hx (fe x hx hxt) v hv⟩
    ·obtain ⟨q,hq,rfl⟩:=nQ.1 he'
     simp only at hlt ⊢
     rw [c2] at hlt ⊢
     rw [List.take_length] at c3
     exact c3 q hq hlt
    ·simp only
     rw [c2]
     rcases rg v hv with q | q
     ·exact .inl q
     ·right;omega
   ·left
    rw [if_neg (by omega)]
    refine ⟨_,rfl,gl,ql,fun v hv=>?_,fun v hv=>Int.le_trans (qle v hv) (le v hv),fun x hx hxt v hv=>qfe x hx (fe x hx hxt) v hv,fun δ M hδ=>?_,.inr ⟨c1,c2⟩⟩
    ·simp only
     rcases qg v hv with q | q
     ·exact .inl q
     ·right;omega
    ·have old:=st δ M hδ
     have lo:=fe δ M.ok M.le
     have lo':=qfe δ M.ok lo
     simp only
     obtain ⟨e',he',g1,g2,g3⟩:=M.tight hmap (fun u=>gd far u) (fun u hu=>le u hu) ⟨v,hv,by have:=lo' v hv;omega⟩ lo
     obtain ⟨q,hq,rfl⟩:=nQ.1 he'
     rw [List.take_length] at qst
     have h5:=qst δ M.ok lo hδ q hq g1 g3
     have:=wLO (n:=n) (δ:=δ) (low:=fun u=>gd far u) (low':=fun u=>gd far' u) lo' (fun u hu=>qle u hu) (hmap _ he').2 g2 h5
     omega) with ⟨⟨far,by_,last⟩,e,I⟩ | ⟨⟨f,last,ok⟩,e,h3,h4,h5⟩
 ·refine ⟨⟨far,by_⟩,last,false,?_,I.bl,I.fl,(fun h=>by cases h),fun _=>?_⟩
  ·show jn (forN _ (n + 1) 0 (y,nJ n (-1),-1)) _=_
   erw [e]
   rfl
  ·have hla:=I.la
   simp only at hla
   refine ⟨by omega,by omega,fun δ M hδ=>?_⟩
   have h6:0 + (n + 1) <= wLn n δ fun v=>gd far v:=I.st δ M hδ
   have:=wLN n δ fun v=>gd far v
   omega
 ·simp only at h3 h4 h5
  subst h3
  refine ⟨f,last,true,?_,h4,h5.fl,fun _=>h5,fun h=>by cases h⟩
  show jn (forN _ (n + 1) 0 (y,nJ n (-1),-1)) _=_
  erw [e]
  rfl
theorem SpT.fin {n:Nat} {R:Int} {es:List Ed} (C:Con n R es) (hc:∀ e ∈ es,e.c <= 400000) {i:Int} {far:List Int} (S:SpT n es i far) {k:Nat} (hk:k < n) (h0:wGD i k=0):∀ v,v < n->gd far v < 1125899906842624 :=
 C.all (fun v=>v < n->gd far v < 1125899906842624) k hk (fun _=>by have:=S.le k hk;omega) (fun e he h _=>by
  obtain ⟨h1,h2⟩:=C.ends e he
  have a:=h h1
  have b:=S.rl e he a
  have c:=hc e he
  rcases S.rg e.a h1 with q | q <;> omega) |> fun h v hv=>h v hv hv
theorem SpT.feas {n:Nat} {R:Int} {es:List Ed} (C:Con n R es) (hc:∀ e ∈ es,e.c <= 400000) {i:Int} {far:List Int} (S:SpT n es i far) {k:Nat} (hk:k < n) (h0:wGD i k=0):wGF es fun v=>gd far v :=
 fun e he=>S.rl e he (S.fin C hc hk h0 e.a (C.ends e he).1)
theorem SpT.isD {n:Nat} {R:Int} (hR:R <= 1000000000000) {es:List Ed} (C:Con n R es) (hc:∀ e ∈ es,e.c <= 400000) {i:Nat} (hi:i < n) {far:List Int} (S:SpT n es i far):IsD n es i fun v=>gd far v:=by
 have t0:wGD i i=0:=by unfold wGD;rw [if_pos (.inr rfl)]
 have F:=S.feas C hc hi t0
 have gr:∀ x,wGF es x->∀ v,v < n->x v - x i <= gd far v:=fun x hx v hv=>by
  have:=S.fe (fun u=>x u + (-(x i))) (wMP hx _) (fun u hu=>by
   show x u + (-(x i)) <= _
   have:=C.near x hx i u hi hu
   unfold wGD
   split
   ·rename_i h
    rcases h with h | h
    ·omega
    ·have:u=i:=by omega
     subst this;omega
   ·omega) v hv
  have this:x v + (-(x i)) <= gd far v:=this
  omega
 have h1:=gr _ F i hi
 have h2:=S.le i hi
 exact ⟨F,by show gd far i=0;omega,gr⟩
end Go.Proofs.Ytlnfbjphfoipaaa
namespace Go.Proofs.Ytlnfbjphfoipaaa
open Go.KL Go.KL.Net
structure RC (r:wAE):Prop where
 n:1 <= r.Starts.length/\r.Starts.length <= 8
 m:r.Splits.length <= 7
 c:r.Clocks.length <= 4
 q:r.Readings.length <= 40
 st:∀ s ∈ r.Starts,0 <= s/\s <= 360000
 sp:∀ s ∈ r.Splits,s.Lo <= s.Hi/\0 <= s.Lo/\s.Hi <= 360000
 ck:∀ s ∈ r.Clocks,(s.Offset.Lo <= s.Offset.Hi/\-36000 <= s.Offset.Lo/\s.Offset.Hi <= 36000)/\0 <= s.Error/\s.Error <= 600
 rt:∀ x ∈ r.Readings,0 <= x.Time/\x.Time <= 360000
 ru:∀ x ∈ r.Readings,0 <= x.Skier/\x.Skier < r.Starts.length/\0 <= x.Mat/\x.Mat <= r.Splits.length/\0 <= x.Clock/\x.Clock < r.Clocks.length
def zp:wAL:=⟨-1,0⟩
def wFO (r:wAE) (p:wAL):Prop:=p=zp \/ (0 <= p.skier/\p.skier < r.Starts.length/\0 <= p.mat/\p.mat <= r.Splits.length) \/ (p.skier=-1/\1 <= p.mat/\p.mat <= r.Clocks.length)
def wDm (r:wAE) (x:wAK):Prop :=
 (x.Kind=0/\0 <= x.Skier/\x.Skier < r.Starts.length/\x.Index=0) \/ (x.Kind=1/\0 <= x.Skier/\x.Skier < r.Starts.length/\0 <= x.Index/\x.Index < r.Splits.length) \/
 (x.Kind=2/\x.Skier=0/\0 <= x.Index/\x.Index < r.Clocks.length) \/ (x.Kind=3/\x.Skier=0/\0 <= x.Index/\x.Index < r.Readings.length)
abbrev Pt:=wAL
def wCv (r:wAE) (x:wAK):Pt × Pt × Int × Int :=
 if x.Kind=0 then (zp,⟨x.Skier,0⟩,gd r.Starts x.Skier.toNat,-gd r.Starts x.Skier.toNat)
 else if x.Kind=1 then (⟨x.Skier,x.Index⟩,⟨x.Skier,x.Index + 1⟩,(gd r.Splits x.Index.toNat).Hi,-(gd r.Splits x.Index.toNat).Lo)
 else if x.Kind=2 then (zp,⟨-1,1 + x.Index⟩,-(gd r.Clocks x.Index.toNat).Offset.Lo,(gd r.Clocks x.Index.toNat).Offset.Hi)
 else (⟨-1,1 + (gd r.Readings x.Index.toNat).Clock⟩,⟨(gd r.Readings x.Index.toNat).Skier,(gd r.Readings x.Index.toNat).Mat⟩,(gd r.Readings x.Index.toNat).Time + (gd r.Clocks (gd r.Readings x.Index.toNat).Clock.toNat).Error,(gd r.Clocks (gd r.Readings x.Index.toNat).Clock.toNat).Error - (gd r.Readings x.Index.toNat).Time)
def wDG (r:wAE) (x:wAK):Pt × Pt × Int:=if x.Up=true then ((wCv r x).1,(wCv r x).2.1,(wCv r x).2.2.1) else ((wCv r x).2.1,(wCv r x).1,(wCv r x).2.2.2)
theorem wEA {α:Type} [Inhabited α] {l:List α} {i:Int} (h0:0 <= i) (h1:i < l.length):idx l i=some (gd l i.toNat):=by
 obtain ⟨k,rfl⟩:=Int.eq_ofNat_of_zero_le h0
 rw [wGy (by omega)]
 rfl
theorem wCc {α:Type} [Inhabited α] {l:List α} {i:Int} (h0:0 <= i) (h1:i < l.length):gd l i.toNat ∈ l:=wBK (by omega)
theorem wKM {r:wAE} (C:RC r) {x:wAK} (h:wDm r x):wBH r x=some (wDG r x):=by
 unfold wBH wBG wDM wDN wDO wDP wDQ wDR wDA wDB wBN wCa
 have hm:=C.m;have hc:=C.c;have hq:=C.q;have hn:=C.n
 rcases h with ⟨k,a,b,c⟩ | ⟨k,a,b,c,d⟩ | ⟨k,a,c,d⟩ | ⟨k,a,c,d⟩
 ·have g:=C.st _ (wCc a b)
  have e4:wCv r x=(zp,⟨x.Skier,0⟩,gd r.Starts x.Skier.toNat,-gd r.Starts x.Skier.toNat):=if_pos k
  have w:w64 (-gd r.Starts x.Skier.toNat)=-gd r.Starts x.Skier.toNat:=wAU (by omega) (by omega)
  rw [if_pos k,wEA a b]
  simp only [hD]
  rw [w]
  unfold wDG
  rw [e4]
  split <;> rfl
 ·have g:=C.sp _ (wCc c d)
  have e4:wCv r x=(⟨x.Skier,x.Index⟩,⟨x.Skier,x.Index + 1⟩,(gd r.Splits x.Index.toNat).Hi,-(gd r.Splits x.Index.toNat).Lo):=(if_neg (by omega)).trans (if_pos k)
  have w:w64 (-(gd r.Splits x.Index.toNat).Lo)=-(gd r.Splits x.Index.toNat).Lo:=wAU (by omega) (by omega)
  have w2:w64 (x.Index + 1)=x.Index + 1:=wAU (by omega) (by omega)
  rw [if_neg (by omega),if_pos k,wEA c d]
  simp only [hD]
  rw [w,w2]
  unfold wDG
  rw [e4]
  split <;> rfl
 ·have g:=C.ck _ (wCc c d)
  have e4:wCv r x=(zp,⟨-1,1 + x.Index⟩,-(gd r.Clocks x.Index.toNat).Offset.Lo,(gd r.Clocks x.Index.toNat).Offset.Hi):=(if_neg (by omega)).trans ((if_neg (by omega)).trans (if_pos k))
  have w:w64 (-(gd r.Clocks x.Index.toNat).Offset.Lo)=-(gd r.Clocks x.Index.toNat).Offset.Lo:=wAU (by omega) (by omega)
  have w2:w64 (1 + x.Index)=1 + x.Index:=wAU (by omega) (by omega)
  rw [if_neg (by omega),if_neg (by omega),if_pos k,wEA c d]
  simp only [hD]
  rw [w,w2]
  unfold wDG
  rw [e4]
  split <;> rfl
 ·have g:=C.rt _ (wCc c d)
  have u:=C.ru _ (wCc c d)
  have gc:=C.ck _ (wCc u.2.2.2.2.1 u.2.2.2.2.2)
  have e4:wCv r x=(⟨-1,1 + (gd r.Readings x.Index.toNat).Clock⟩,⟨(gd r.Readings x.Index.toNat).Skier,(gd r.Readings x.Index.toNat).Mat⟩,(gd r.Readings x.Index.toNat).Time + (gd r.Clocks (gd r.Readings x.Index.toNat).Clock.toNat).Error,(gd r.Clocks (gd r.Readings x.Index.toNat).Clock.toNat).Error - (gd r.Readings x.Index.toNat).Time):=(if_neg (by omega)).trans ((if_neg (by omega)).trans (if_neg (by omega)))
  rw [if_neg (by omega),if_neg (by omega),if_neg (by omega),if_pos k,wEA c d]
  simp only [hD]
  rw [wEA u.2.2.2.2.1 u.2.2.2.2.2]
  simp only [hD]
  generalize gd r.Readings x.Index.toNat=X at *
  generalize gd r.Clocks X.Clock.toNat=Y at *
  have w:w64 (X.Time + Y.Error)=X.Time + Y.Error:=wAU (by omega) (by omega)
  have w2:w64 (1 + X.Clock)=1 + X.Clock:=wAU (by omega) (by omega)
  have w3:w64 (Y.Error - X.Time)=Y.Error - X.Time:=wAU (by omega) (by omega)
  rw [w,w2,w3]
  unfold wDG
  rw [e4]
  split <;> rfl
theorem wFa {r:wAE} (C:RC r) {x:wAK} (h:wDm r x):wFO r (wDG r x).1/\wFO r (wDG r x).2.1/\-400000 <= (wDG r x).2.2/\(wDG r x).2.2 <= 400000:=by
 have key:wFO r (wCv r x).1/\wFO r (wCv r x).2.1/\(-400000 <= (wCv r x).2.2.1/\(wCv r x).2.2.1 <= 400000)/\(-400000 <= (wCv r x).2.2.2/\(wCv r x).2.2.2 <= 400000):=by
  have hn:=C.n
  unfold wCv
  rcases h with ⟨k,a,b,c⟩ | ⟨k,a,b,c,d⟩ | ⟨k,a,c,d⟩ | ⟨k,a,c,d⟩
  ·have g:=C.st _ (wCc a b)
   rw [if_pos k]
   exact ⟨.inl rfl,.inr (.inl ⟨a,b,by simp only;omega,by simp only;omega⟩),by simp only;omega,by simp only;omega⟩
  ·have g:=C.sp _ (wCc c d)
   rw [if_neg (by omega),if_pos k]
   exact ⟨.inr (.inl ⟨a,b,by simp only;omega,by simp only;omega⟩),.inr (.inl ⟨a,b,by simp only;omega,by simp only;omega⟩),by simp only;omega,by simp only;omega⟩
  ·have g:=C.ck _ (wCc c d)
   rw [if_neg (by omega),if_neg (by omega),if_pos k]
   exact ⟨.inl rfl,.inr (.inr ⟨rfl,by simp only;omega,by simp only;omega⟩),by simp only;omega,by simp only;omega⟩
  ·have g:=C.rt _ (wCc c d)
   have u:=C.ru _ (wCc c d)
   have gc:=C.ck _ (wCc u.2.2.2.2.1 u.2.2.2.2.2)
   rw [if_neg (by omega),if_neg (by omega),if_neg (by omega)]
   exact ⟨.inr (.inr ⟨rfl,by simp only;omega,by simp only;omega⟩),.inr (.inl ⟨u.1,u.2.1,u.2.2.1,u.2.2.2.1⟩),by simp only;omega,by simp only;omega⟩
 obtain ⟨h1,h2,h3,h4⟩:=key
 unfold wDG
 split
 ·exact ⟨h1,h2,h3⟩
 ·exact ⟨h2,h1,h4⟩
def two (kind skier i:Nat):List wAK:=[⟨kind,skier,i,true⟩,⟨kind,skier,i,false⟩]
def wHh (kind skier m:Nat):List wAK:=(nR m).flatMap (two kind skier)
def skL (kind ns m:Nat):List wAK:=(nR ns).flatMap fun s=>wHh kind s m
def wHi (r:wAE):List wAK:=skL 0 r.Starts.length 1 ++ (skL 1 r.Starts.length r.Splits.length ++ (skL 2 1 r.Clocks.length ++ skL 3 1 r.Readings.length))
theorem wLT {kind ns m:Nat} {x:wAK}:x ∈ skL kind ns m ↔ x.Kind=kind/\0 <= x.Skier/\x.Skier < ns/\0 <= x.Index/\x.Index < m:=by
 unfold skL wHh two
 simp only [List.mem_flatMap,np,List.mem_cons,List.not_mem_nil,or_false]
 constructor
 ·rintro ⟨s,hs,i,hi,rfl | rfl⟩ <;> exact ⟨rfl,by simp only;omega,by simp only;omega,by simp only;omega,by simp only;omega⟩
 ·rintro ⟨a,b,c,d,e⟩
  refine ⟨x.Skier.toNat,by omega,x.Index.toNat,by omega,?_⟩
  obtain ⟨k,s,i,u⟩:=x
  simp only at a b c d e
  subst a
  rw [nD b,nD d]
  cases u <;> simp
theorem wEd {r:wAE} {x:wAK}:x ∈ wHi r ↔ wDm r x:=by
 unfold wHi wDm
 simp only [nH,wLT]
 omega
theorem wLU (kind ns m:Nat):(skL kind ns m).length=2 * m * ns:=by
 unfold skL wHh
 rw [ny]
 have:∀ s:Nat,((nR m).flatMap (two kind s)).length=2 * m:=fun s=>by
  rw [ny]
  have e:(nR m).map (fun a=>(two kind s a).length)=nJ m 2:=by
   apply List.ext_getElem (by simp)
   intro i h1 h2
   simp [two]
  rw [e,no]
  omega
 have e:(nR ns).map (fun s=>((nR m).flatMap (two kind s)).length)=nJ ns (2 * m):=by
  apply List.ext_getElem (by simp)
  intro i h1 h2
  simp [this]
 rw [e,no,Nat.mul_comm]
theorem wHj {r:wAE} (C:RC r):(wHi r).length <= 216:=by
 unfold wHi
 simp only [nM,wLU]
 have hm:=C.m;have hc:=C.c;have hq:=C.q;have hn:=C.n
 have h1:2 * r.Splits.length * r.Starts.length <= 14 * 8:=Nat.mul_le_mul (by omega) hn.2
 omega
section
variable {S E:Type}
def wHJ (f:S->wAK->Option (S ⊕ E)):List wAK->S->Option (S ⊕ E)
 | [],s=>some (.inl s)
 | x :: l,s=>(f s x).bind fun y=>match y with
  | .inl s'=>wHJ f l s'
  | .inr e=>some (.inr e)
theorem wId (f:S->wAK->Option (S ⊕ E)):∀ (l m:List wAK) (s:S),wHJ f (l ++ m) s=(wHJ f l s).bind fun y=>match y with
  | .inl s'=>wHJ f m s'
  | .inr e=>some (.inr e)
 | [],_,_=>rfl
 | x :: l,m,s=>by
  rw [nk,wHJ,wHJ]
  cases f s x with
  | none=>rfl
  | some y=>cases y with
   | inl s'=>exact wId f l m s'
   | inr e=>rfl
def lif {B:Type} (k:E->B) (x:Option (S ⊕ E)):Option (S ⊕ B):=x.bind fun y=>match y with
 | .inl s=>some (.inl s)
 | .inr e=>some (.inr (k e))
theorem wFn {B:Type} (k:E->B) {body:Nat->S->Option (S ⊕ B)} {f:S->wAK->Option (S ⊕ E)} {L:Nat->List wAK}:∀ (m i:Nat) (s:S),(∀ j s,i <= j->j < i + m->body j s=lif k (wHJ f (L j) s))->forN body m i s=lif k (wHJ f ((List.range' i m).flatMap L) s)
 | 0,_,_,_=>rfl
 | m + 1,i,s,h=>by
  rw [forN,h i s (nY _) (by omega),List.range'_succ,kD,wId]
  cases wHJ f (L i) s with
  | none=>rfl
  | some y=>cases y with
   | inl s'=>exact wFn k m (i + 1) s' fun j s h1 h2=>h j s (by omega) (by omega)
   | inr e=>rfl
theorem wKv {B:Type} (k:E->B) (x:Option (S ⊕ E)):jn (lif (fun e=>(.inr (k e):S ⊕ B)) x) (fun y=>some (.inl y))=lif k x:=by
 cases x with
 | none=>rfl
 | some y=>cases y <;> rfl
theorem wMS (x:Option (S ⊕ E)):jn (lif (fun e=>(.inr e:S ⊕ E)) x) (fun y=>some (.inl y))=x:=by
 cases x with
 | none=>rfl
 | some y=>cases y <;> rfl
theorem wMT (f:S->wAK->Option (S ⊕ E)) (kind skier i:Nat) (s:S):((f s (⟨(kind:Int),(skier:Int),(i:Int),true⟩:wAK)).bind fun yr141 =>
          match yr141 with
          | .inl s151 =>
            (f s151 (⟨(kind:Int),(skier:Int),(i:Int),false⟩:wAK)).bind fun yr154 =>
            match yr154 with
            | .inl s164 =>
              some (.inl s164)
            | .inr s164 =>
              esc (esc (esc (some (.inr s164))))
          | .inr s151 =>
            esc (esc (esc (some (.inr s151)))))=lif (fun e=>(.inr (.inr (.inr e)):S ⊕ (S ⊕ (S ⊕ E)))) (wHJ f (two kind skier i) s):=by
  unfold two
  rw [wHJ]
  cases f s (⟨(kind:Int),(skier:Int),(i:Int),true⟩:wAK) with
  | none=>rfl
  | some y=>cases y with
    | inr e=>rfl
    | inl s' =>
      simp only [hD]
      rw [wHJ]
      cases f s' (⟨(kind:Int),(skier:Int),(i:Int),false⟩:wAK) with
      | none=>rfl
      | some y=>cases y <;> rfl
theorem wJi (f:S->wAK->Option (S ⊕ E)) (s0:S) {r:wAE} (C:RC r):wBm f s0 r=wHJ f (wHi r) s0:=by
  unfold wBm
  have hm:=C.m;have hc:=C.c;have hq:=C.q;have hn:=C.n
  have inner:∀ (kind skier m:Nat) (s:S),m <= 1000->(wEi 0 (m:Int) (fun k113 s111 =>
          (f s111 (⟨(kind:Int),(skier:Int),(↑k113:Int),true⟩:wAK)).bind fun yr141 =>
          match yr141 with
          | .inl s151 =>
            (f s151 (⟨(kind:Int),(skier:Int),(↑k113:Int),false⟩:wAK)).bind fun yr154 =>
            match yr154 with
            | .inl s164 =>
              some (.inl s164)
            | .inr s164 =>
              esc (esc (esc (some (.inr s164))))
          | .inr s151 =>
            esc (esc (esc (some (.inr s151))))) s)=lif (fun e=>(.inr (.inr (.inr e)):S ⊕ (S ⊕ (S ⊕ E)))) (wHJ f (wHh kind skier m) s):=fun kind skier m s hm=>by
    rw [wEE (by omega),wFn (fun e=>(.inr (.inr (.inr e)):S ⊕ (S ⊕ (S ⊕ E)))) (f:=f) (L:=two kind skier) m 0 s fun j s _ _=>wMT f kind skier j s,<- nv]
    rfl
  have skier:∀ (kind ns m:Nat) (s:S),ns <= 1000->m <= 1000->(jn (wEi 0 (ns:Int) (fun k78 s76 =>
        jn (wEi 0 (m:Int) (fun k113 s111 =>
          (f s111 (⟨(kind:Int),(↑k78:Int),(↑k113:Int),true⟩:wAK)).bind fun yr141 =>
          match yr141 with
          | .inl s151 =>
            (f s151 (⟨(kind:Int),(↑k78:Int),(↑k113:Int),false⟩:wAK)).bind fun yr154 =>
            match yr154 with
            | .inl s164 =>
              some (.inl s164)
            | .inr s164 =>
              esc (esc (esc (some (.inr s164))))
          | .inr s151 =>
            esc (esc (esc (some (.inr s151))))) s76) fun y195 =>
        some (.inl y195)) s) fun y219 =>
      some (.inl y219))=lif (fun e=>(.inr e:S ⊕ E)) (wHJ f (skL kind ns m) s):=fun kind ns m s hns hm=>by
    rw [wEE (by omega),wFn (fun e=>(.inr (.inr e):S ⊕ (S ⊕ E))) (f:=f) (L:=fun q=>wHh kind q m) ns 0 s fun j s _ _=>by rw [inner kind j m s hm,wKv],wKv,<- nv]
    rfl
  unfold wEi
  rw [if_pos (by omega)]
  show jn (forN _ 4 0 s0) _=_
  rw [wFn (fun e=>(.inr e:S ⊕ E)) (f:=f) (L:=fun k=>if k=0 then skL 0 r.Starts.length 1 else if k=1 then skL 1 r.Starts.length r.Splits.length else if k=2 then skL 2 1 r.Clocks.length else skL 3 1 r.Readings.length) 4 0 s0 fun j s _ hj=>?_,wMS]
  · congr 1
    show List.flatMap _ [0,1,2,3]=_
    simp only [kD,List.flatMap_nil,List.append_nil]
    rfl
  · have:j=0 \/ j=1 \/ j=2 \/ j=3:=by omega
    rcases this with rfl | rfl | rfl | rfl
    · exact skier 0 r.Starts.length 1 s (by omega) (by omega)
    · exact skier 1 r.Starts.length r.Splits.length s (by omega) (by omega)
    · exact skier 2 1 r.Clocks.length s (by omega) (by omega)
    · exact skier 3 1 r.Readings.length s (by omega) (by omega)
end
end Go.Proofs.Ytlnfbjphfoipaaa
namespace Go.Proofs.Ytlnfbjphfoipaaa
open Go.KL Go.KL.Net
def wEO:List Pt->Nat->List (Pt × Int)
 | [],_=>[]
 | p :: l,k=>(p,(k:Int)) :: wEO l (k + 1)
theorem wHB:∀ (l:List Pt) (k:Nat),(wEO l k).length=l.length
 | [],_=>rfl
 | _ :: l,k=>by rw [wEO,nA,nA,wHB l]
theorem wIe:∀ (l:List Pt) (p:Pt) (k:Nat),wEO (l ++ [p]) k=wEO l k ++ [(p,((k + l.length:Nat):Int))]
 | [],p,k=>by simp [wEO]
 | a :: l,p,k=>by
  rw [nk,wEO,wEO,wIe l p (k + 1),nk,nA]
  congr 4
  omega
theorem wIf:∀ {l:List Pt} {k:Nat} {p:Pt},p ∉ l->wKB (wEO l k) p=none/\∀ v,wFS (wEO l k) p v=wEO l k ++ [(p,v)]
 | [],_,_,_=>⟨rfl,fun _=>rfl⟩
 | a :: l,k,p,h=>by
  rw [List.mem_cons,not_or] at h
  obtain ⟨h1,h2⟩:=wIf (l:=l) (k:=k + 1) h.2
  refine ⟨by rw [wEO,wKB,if_neg h.1];exact h1,fun v=>?_⟩
  rw [wEO,wFS,if_neg h.1,h2 v];rfl
theorem wJj:∀ {l:List Pt} {k i:Nat},l.Nodup->i < l.length->wKB (wEO l k) (gd l i)=some ((k + i:Nat):Int)
 | a :: l,k,0,_,_=>by
  rw [wEO,wKB]
  exact if_pos rfl
 | a :: l,k,i + 1,nd,hi=>by
  rw [List.nodup_cons] at nd
  have hi':i < l.length:=by simpa using hi
  have e:gd (a :: l) (i + 1)=gd l i:=rfl
  have hne:gd l i ≠ a:=fun h=>nd.1 (h ▸ wBK hi')
  rw [e,wEO,wKB,if_neg hne,wJj nd.2 hi']
  congr 2
  omega
def pos (pts:List Pt) (p:Pt):Nat:=(wBE (wEO pts 0) p 0).toNat
theorem wGh {α:Type} [Inhabited α] {l:List α} {a:α} (h:a ∈ l):∃ i,i < l.length/\gd l i=a:=by
 obtain ⟨i,hi,e⟩:=List.getElem_of_mem h
 exact ⟨i,hi,by rw [wHA hi,e]⟩
theorem wIg {pts:List Pt} (nd:pts.Nodup) {i:Nat} (hi:i < pts.length):pos pts (gd pts i)=i/\wBE (wEO pts 0) (gd pts i) 0=(i:Int)/\wJH (wEO pts 0) (gd pts i)=true:=by
 unfold pos wBE wJH
 rw [wJj nd hi]
 simp
theorem wGi {pts:List Pt} (nd:pts.Nodup) {p:Pt} (h:p ∈ pts):pos pts p < pts.length/\gd pts (pos pts p)=p/\wBE (wEO pts 0) p 0=(pos pts p:Int)/\wJH (wEO pts 0) p=true:=by
 obtain ⟨i,hi,rfl⟩:=wGh h
 obtain ⟨h1,h2,h3⟩:=wIg nd hi
 rw [h1]
 exact ⟨hi,rfl,h2,h3⟩
def wGG (pts:List Pt) (p:Pt):List Pt:=if p ∈ pts then pts else pts ++ [p]
theorem wIE {pts:List Pt} (nd:pts.Nodup) (p:Pt):(wGG pts p).Nodup:=by
 unfold wGG
 split
 ·exact nd
 ·rename_i h
  rw [List.nodup_append]
  exact ⟨nd,by simp,fun a ha b hb e=>h (by rw [nE.1 hb] at e;exact e ▸ ha)⟩
theorem wDU {pts:List Pt} {p q:Pt}:q ∈ wGG pts p ↔ q ∈ pts \/ q=p:=by
 unfold wGG
 split
 ·rename_i h
  exact ⟨.inl,fun e=>e.elim id fun e=>e ▸ h⟩
 ·rw [nH,nE]
theorem wIh (pts:List Pt) (p:Pt):pts.length <= (wGG pts p).length/\(wGG pts p).length <= pts.length + 1:=by
 unfold wGG
 split <;> simp
theorem wIi {pts:List Pt} (nd:pts.Nodup) {p q:Pt} (h:q ∈ pts):wBE (wEO (wGG pts p) 0) q 0=wBE (wEO pts 0) q 0:=by
 unfold wGG
 split
 ·rfl
 ·rename_i hp
  obtain ⟨i,hi,rfl⟩:=wGh h
  have e:gd (pts ++ [p]) i=gd pts i:=wDT hi
  have nd2:=wIE nd p
  unfold wGG at nd2
  rw [if_neg hp] at nd2
  rw [(wIg nd hi).2.1,<- e,(wIg nd2 (by rw [nM];omega)).2.1]
theorem wIj {pts:List Pt} (nd:pts.Nodup) (p:Pt):(if (wJH (wEO pts 0) p)=true then some (wEO pts 0) else some (wFS (wEO pts 0) p (↑((wEO pts 0).length):Int)))=some (wEO (wGG pts p) 0):=by
 by_cases h:p ∈ pts
 ·rw [if_pos (wGi nd h).2.2.2,wGG,if_pos h]
 ·have ho:=wIf (k:=0) h
  have hn:¬ wJH (wEO pts 0) p=true:=by unfold wJH;rw [ho.1];simp
  rw [if_neg hn,ho.2,wGG,if_neg h,wIe,wHB,nV]
theorem wJk {pts:List Pt} {p:Pt} {i:Nat} (h:i < pts.length):gd (wGG pts p) i=gd pts i:=by
 unfold wGG
 split
 ·rfl
 ·exact wDT h
def mkE (r:wAE) (pts:List Pt) (x:wAK):wAW:=⟨x,wBE (wEO pts 0) (wDG r x).1 0,wBE (wEO pts 0) (wDG r x).2.1 0,(wDG r x).2.2⟩
structure Desk (r:wAE) (d:wAX) (pts:List Pt):Prop where
 c:RC r
 race:d.Race=r
 num:d.number=wEO pts 0
 nd:pts.Nodup
 len:1 <= pts.length/\pts.length <= 433
 zero:gd pts 0=zp
 all:∀ p,p ∈ pts ↔ wFO r p
 edges:d.edges=(wHi r).map (mkE r pts)
structure OpI (r:wAE) (pre:List wAK) (s:List wAW × List (Pt × Int)) (pts:List Pt):Prop where
 num:s.2=wEO pts 0
 nd:pts.Nodup
 len:1 <= pts.length/\pts.length <= 1 + 2 * pre.length
 zero:gd pts 0=zp
 ok:∀ p ∈ pts,wFO r p
 has:∀ x ∈ pre,(wDG r x).1 ∈ pts/\(wDG r x).2.1 ∈ pts
 edges:s.1=pre.map (mkE r pts)
def opF (r:wAE):List wAW × List (Pt × Int)->wAK->Option ((List wAW × List (Pt × Int)) ⊕ Empty):=fun (l1591,l1595) x1616 =>
  (wBH r x1616).bind fun (x1652,x1653,x1654) =>
  (wBe 0 2 (fun k1692 l1689 =>
   (idx ([x1652,x1653]:List wAL) (↑k1692:Int)).bind fun x1718 =>
   if (wJH l1689 x1718)=true then
    some l1689
   else
    some (wFS l1689 x1718 (↑(l1689.length):Int))) l1595).bind fun y1697 =>
  (app 56 l1591 [(⟨x1616,(wBE y1697 x1652 0),(wBE y1697 x1653 0),x1654⟩:wAW)]).bind fun x1773 =>
  some (.inl (x1773,y1697))
theorem wMU {r:wAE} (C:RC r) {pre:List wAK} (hp:pre.length <= 216) {x:wAK} (hx:wDm r x) {s:List wAW × List (Pt × Int)} {pts:List Pt} (I:OpI r pre s pts):∃ s' pts',opF r s x=some (.inl s')/\OpI r (pre ++ [x]) s' pts':=by
 obtain ⟨es,num⟩:=s
 obtain ⟨hn,nd,hl,hz,ok,has,he⟩:=I
 simp only at hn he
 subst hn he
 obtain ⟨o1,o2,_,_⟩:=wFa C hx
 unfold opF
 simp only
 rw [wKM C hx,hD]
 have nd1:=wIE nd (wDG r x).1
 have nd2:=wIE nd1 (wDG r x).2.1
 have loop:(wBe 0 2 (fun k1692 l1689 =>
   (idx ([(wDG r x).1,(wDG r x).2.1]:List wAL) (↑k1692:Int)).bind fun x1718 =>
   if (wJH l1689 x1718)=true then
    some l1689
   else
    some (wFS l1689 x1718 (↑(l1689.length):Int))) (wEO pts 0))=some (wEO (wGG (wGG pts (wDG r x).1) (wDG r x).2.1) 0):=by
  unfold wBe
  rw [if_pos (by omega)]
  show forN' _ 2 0 (wEO pts 0)=_
  have i0:idx ([(wDG r x).1,(wDG r x).2.1]:List wAL) ((0:Nat):Int)=some (wDG r x).1:=rfl
  have i1:idx ([(wDG r x).1,(wDG r x).2.1]:List wAL) ((0 + 1:Nat):Int)=some (wDG r x).2.1:=rfl
  simp only [forN',i0,i1,hD]
  rw [wIj nd]
  simp only
  rw [wIj nd1]
 rw [loop,hD,wDt (by rw [na];simp only [nA,nB];omega),hD]
 have l1:=wIh pts (wDG r x).1
 have l2:=wIh (wGG pts (wDG r x).1) (wDG r x).2.1
 have same:∀ q ∈ pts,wBE (wEO (wGG (wGG pts (wDG r x).1) (wDG r x).2.1) 0) q 0=wBE (wEO pts 0) q 0:=fun q hq=>by
  rw [wIi nd1 (wDU.2 (.inl hq)),wIi nd hq]
 refine ⟨_,wGG (wGG pts (wDG r x).1) (wDG r x).2.1,rfl,rfl,nd2,⟨by omega,by rw [nM,nW];omega⟩,?_,fun p hp=>?_,fun y hy=>?_,?_⟩
 ·rw [wJk (by omega),wJk (by omega),hz]
 ·rcases wDU.1 hp with hp | rfl
  ·rcases wDU.1 hp with hp | rfl
   ·exact ok p hp
   ·exact o1
  ·exact o2
 ·rcases nH.1 hy with hy | hy
  ·obtain ⟨a,b⟩:=has y hy
   exact ⟨wDU.2 (.inl (wDU.2 (.inl a))),wDU.2 (.inl (wDU.2 (.inl b)))⟩
  ·have:=nE.1 hy
   subst this
   exact ⟨wDU.2 (.inl (wDU.2 (.inr rfl))),wDU.2 (.inr rfl)⟩
 ·simp only
  rw [nm]
  congr 1
  refine List.map_congr_left fun y hy=>?_
  obtain ⟨a,b⟩:=has y hy
  unfold mkE
  rw [same _ a,same _ b]
theorem skip (r:wAE) (p:Pt) (h:wFO r p) (C:RC r):p=zp \/ ∃ x,wDm r x/\(wDG r x).2.1=p:=by
 rcases h with h | ⟨a,b,c,d⟩ | ⟨a,b,c⟩
 ·exact .inl h
 ·right
  by_cases e:p.mat=0
  ·refine ⟨⟨0,p.skier,0,true⟩,.inl ⟨rfl,a,b,rfl⟩,?_⟩
   show (⟨p.skier,0⟩:Pt)=p
   rw [<- e]
  ·refine ⟨⟨1,p.skier,p.mat - 1,true⟩,.inr (.inl ⟨rfl,a,b,by simp only;omega,by simp only;omega⟩),?_⟩
   show (⟨p.skier,p.mat - 1 + 1⟩:Pt)=p
   rw [nU]
 ·right
  refine ⟨⟨2,0,p.mat - 1,true⟩,.inr (.inr (.inl ⟨rfl,rfl,by simp only;omega,by simp only;omega⟩)),?_⟩
  show (⟨-1,1 + (p.mat - 1)⟩:Pt)=p
  rw [<- a,nl,nU]
theorem wHk {r:wAE} (C:RC r):∃ d pts,wCj r=some d/\Desk r d pts:=by
 unfold wCj wBN wCi
 simp only [hD]
 rw [wJi _ _ C]
 have hlen:=wHj C
 have key:∀ (l pre:List wAK) (s:List wAW × List (Pt × Int)) (pts:List Pt),OpI r pre s pts->pre.length + l.length <= 216->(∀ x ∈ l,wDm r x)->∃ s' pts',wHJ (opF r) l s=some (.inl s')/\OpI r (pre ++ l) s' pts':=by
  intro l
  induction l with
  | nil=>intro pre s pts I _ _;exact ⟨s,pts,rfl,by rw [List.append_nil];exact I⟩
  | cons x l ih =>
   intro pre s pts I hl hx
   simp only [nA] at hl
   obtain ⟨s1,p1,e,I1⟩:=wMU C (by omega) (hx x (by simp)) I
   obtain ⟨s2,p2,e2,I2⟩:=ih (pre ++ [x]) s1 p1 I1 (by rw [nM,nW];omega) fun y hy=>hx y (by simp [hy])
   refine ⟨s2,p2,by rw [wHJ,e];exact e2,?_⟩
   rw [kC] at I2
   exact I2
 obtain ⟨⟨es,num⟩,pts,e,I⟩:=key (wHi r) [] ([],wFS ([]:List (Pt × Int)) (⟨-1,0⟩:wAL) 0) [zp] ⟨rfl,by simp,⟨by simp,by simp⟩,rfl,fun p hp=>.inl (nE.1 hp),(fun x hx=>by cases hx),rfl⟩ (by simpa using hlen) fun x hx=>wEd.1 hx
 rw [List.nil_append] at I
 have hz:zp ∈ pts:=I.zero ▸ wBK I.len.1
 refine ⟨⟨r,num,es⟩,pts,?_,C,rfl,I.num,I.nd,⟨I.len.1,by have:=I.len.2;omega⟩,I.zero,fun p=>⟨I.ok p,fun h=>?_⟩,I.edges⟩
 ·show (wHJ (opF r) (wHi r) _).bind _=_
  rw [e]
  rfl
 ·rcases skip r p h C with rfl | ⟨x,hx,rfl⟩
  ·exact hz
  ·exact (I.has x (wEd.2 hx)).2
end Go.Proofs.Ytlnfbjphfoipaaa
namespace Go.Proofs.Ytlnfbjphfoipaaa
open Go.KL Go.KL.Net
def wBt (r:wAE) (y:Pt->Int):Prop:=∀ x,wDm r x->y (wDG r x).2.1 <= y (wDG r x).1 + (wDG r x).2.2
section
variable {r:wAE} {y:Pt->Int}
theorem fp0 (F:wBt r y) {s:Int} (h0:0 <= s) (h1:s < r.Starts.length):y ⟨s,0⟩=y zp + gd r.Starts s.toNat:=by
 have a:y ⟨s,0⟩ <= y zp + gd r.Starts s.toNat:=F ⟨0,s,0,true⟩ (.inl ⟨rfl,h0,h1,rfl⟩)
 have b:y zp <= y ⟨s,0⟩ + -gd r.Starts s.toNat:=F ⟨0,s,0,false⟩ (.inl ⟨rfl,h0,h1,rfl⟩)
 omega
theorem fp1 (F:wBt r y) {s k:Int} (h0:0 <= s) (h1:s < r.Starts.length) (k0:0 <= k) (k1:k < r.Splits.length):y ⟨s,k⟩ + (gd r.Splits k.toNat).Lo <= y ⟨s,k + 1⟩/\y ⟨s,k + 1⟩ <= y ⟨s,k⟩ + (gd r.Splits k.toNat).Hi:=by
 have a:y ⟨s,k + 1⟩ <= y ⟨s,k⟩ + (gd r.Splits k.toNat).Hi:=F ⟨1,s,k,true⟩ (.inr (.inl ⟨rfl,h0,h1,k0,k1⟩))
 have b:y ⟨s,k⟩ <= y ⟨s,k + 1⟩ + -(gd r.Splits k.toNat).Lo:=F ⟨1,s,k,false⟩ (.inr (.inl ⟨rfl,h0,h1,k0,k1⟩))
 omega
theorem fp2 (F:wBt r y) {k:Int} (k0:0 <= k) (k1:k < r.Clocks.length):y ⟨-1,1 + k⟩ <= y zp - (gd r.Clocks k.toNat).Offset.Lo/\y zp <= y ⟨-1,1 + k⟩ + (gd r.Clocks k.toNat).Offset.Hi:=by
 have a:y ⟨-1,1 + k⟩ <= y zp + -(gd r.Clocks k.toNat).Offset.Lo:=F ⟨2,0,k,true⟩ (.inr (.inr (.inl ⟨rfl,rfl,k0,k1⟩)))
 have b:y zp <= y ⟨-1,1 + k⟩ + (gd r.Clocks k.toNat).Offset.Hi:=F ⟨2,0,k,false⟩ (.inr (.inr (.inl ⟨rfl,rfl,k0,k1⟩)))
 omega
theorem wIF (C:RC r) (F:wBt r y) {p:Pt} (hp:wFO r p):-3300000 <= y p - y zp/\y p - y zp <= 3300000:=by
 rcases hp with rfl | ⟨a,b,c,d⟩ | ⟨a,b,c⟩
 ·omega
 ·have key:∀ k:Nat,(k:Int) <= r.Splits.length->0 <= y ⟨p.skier,k⟩ - y zp/\y ⟨p.skier,k⟩ - y zp <= 360000 * ((k:Int) + 1):=by
   intro k
   induction k with
   | zero =>
    intro _
    have:=fp0 F a b
    have:=C.st _ (wCc a b)
    show 0 <= y ⟨p.skier,0⟩ - y zp/\y ⟨p.skier,0⟩ - y zp <= _
    omega
   | succ k ih =>
    intro hk
    have h:=ih (by omega)
    have f:=fp1 F a b (k:=(k:Int)) (by omega) (by omega)
    have g:=C.sp _ (wCc (l:=r.Splits) (i:=(k:Int)) (by omega) (by omega))
    have e:((k + 1:Nat):Int)=(k:Int) + 1:=by omega
    rw [e]
    omega
  have:=key p.mat.toNat (by omega)
  rw [nD c] at this
  have hm:=C.m
  have e:(⟨p.skier,p.mat⟩:Pt)=p:=rfl
  rw [e] at this
  omega
 ·have f:=fp2 F (k:=p.mat - 1) (by omega) (by omega)
  have g:=(C.ck _ (wCc (l:=r.Clocks) (i:=p.mat - 1) (by omega) (by omega))).1
  have e:(⟨-1,1 + (p.mat - 1)⟩:Pt)=p:=by rw [<- a,nl,nU]
  rw [e] at f
  omega
theorem to_zp {S:Pt->Prop} (hS:∀ x,wDm r x->S (wDG r x).1->S (wDG r x).2.1) {p:Pt} (hp:wFO r p) (h:S p):S zp:=by
 rcases hp with rfl | ⟨a,b,c,d⟩ | ⟨a,b,c⟩
 ·exact h
 ·have key:∀ k:Nat,(k:Int) <= r.Splits.length->S ⟨p.skier,k⟩->S zp:=by
   intro k
   induction k with
   | zero=>intro _ hk;exact hS ⟨0,p.skier,0,false⟩ (.inl ⟨rfl,a,b,rfl⟩) hk
   | succ k ih =>
    intro hk h
    refine ih (by omega) ?_
    have e:((k + 1:Nat):Int)=(k:Int) + 1:=by omega
    rw [e] at h
    exact hS ⟨1,p.skier,k,false⟩ (.inr (.inl ⟨rfl,a,b,by simp only;omega,by simp only;omega⟩)) h
  refine key p.mat.toNat (by omega) ?_
  rw [nD c];exact h
 ·have e:(⟨-1,1 + (p.mat - 1)⟩:Pt)=p:=by rw [<- a,nl,nU]
  refine hS ⟨2,0,p.mat - 1,false⟩ (.inr (.inr (.inl ⟨rfl,rfl,by simp only;omega,by simp only;omega⟩))) ?_
  show S ⟨-1,1 + (p.mat - 1)⟩
  rw [e];exact h
theorem of_zp {S:Pt->Prop} (hS:∀ x,wDm r x->S (wDG r x).1->S (wDG r x).2.1) (h:S zp) {p:Pt} (hp:wFO r p):S p:=by
 rcases hp with rfl | ⟨a,b,c,d⟩ | ⟨a,b,c⟩
 ·exact h
 ·have key:∀ k:Nat,(k:Int) <= r.Splits.length->S ⟨p.skier,k⟩:=by
   intro k
   induction k with
   | zero=>intro _;exact hS ⟨0,p.skier,0,true⟩ (.inl ⟨rfl,a,b,rfl⟩) h
   | succ k ih =>
    intro hk
    have e:((k + 1:Nat):Int)=(k:Int) + 1:=by omega
    rw [e]
    exact hS ⟨1,p.skier,k,true⟩ (.inr (.inl ⟨rfl,a,b,by simp only;omega,by simp only;omega⟩)) (ih (by omega))
  have:=key p.mat.toNat (by omega)
  rw [nD c] at this
  exact this
 ·have e:(⟨-1,1 + (p.mat - 1)⟩:Pt)=p:=by rw [<- a,nl,nU]
  have:=hS ⟨2,0,p.mat - 1,true⟩ (.inr (.inr (.inl ⟨rfl,rfl,by simp only;omega,by simp only;omega⟩))) h
  rw [<- e];exact this
def turn (x:wAK):wAK:=⟨x.Kind,x.Skier,x.Index,!x.Up⟩
theorem wLV {x:wAK} (h:wDm r x):wDm r (turn x)/\(wDG r (turn x)).1=(wDG r x).2.1/\(wDG r (turn x)).2.1=(wDG r x).1:=by
 refine ⟨h,?_⟩
 obtain ⟨k,s,i,u⟩:=x
 unfold wDG turn
 cases u <;> exact ⟨rfl,rfl⟩
structure IsDP (r:wAE) (a:Pt) (f:Pt->Int):Prop where
 ok:wBt r f
 zero:f a=0
 gr:∀ y,wBt r y->∀ p,wFO r p->y p - y a <= f p
theorem IsDP.one {a:Pt} {f g:Pt->Int} (F:IsDP r a f) (G:IsDP r a g) {p:Pt} (hp:wFO r p):f p=g p:=by
 have h1:=F.gr g G.ok p hp
 have h2:=G.gr f F.ok p hp
 have:=F.zero;have:=G.zero
 omega
theorem IsDP.near {a:Pt} {f:Pt->Int} (C:RC r) (F:IsDP r a f) (ha:wFO r a) {p:Pt} (hp:wFO r p):-6600000 <= f p/\f p <= 6600000:=by
 have h1:=wIF C F.ok ha
 have h2:=wIF C F.ok hp
 have:=F.zero
 omega
end
section
variable {r:wAE} {d:wAX} {pts:List Pt} (D:Desk r d pts)
include D
theorem Desk.pos_ok {p:Pt} (hp:wFO r p):pos pts p < pts.length/\gd pts (pos pts p)=p/\wBE d.number p 0=(pos pts p:Int):=by
 obtain ⟨h1,h2,h3,_⟩:=wGi D.nd ((D.all p).2 hp)
 exact ⟨h1,h2,by rw [D.num];exact h3⟩
theorem Desk.gd_ok {v:Nat} (hv:v < pts.length):wFO r (gd pts v)/\pos pts (gd pts v)=v:=⟨(D.all _).1 (wBK hv),(wIg D.nd hv).1⟩
theorem Desk.ed_is {x:wAK} (h:wDm r x) (p:Bool):ed p (mkE r pts x)=if p then ⟨pos pts (wDG r x).2.1,pos pts (wDG r x).1,(wDG r x).2.2⟩ else ⟨pos pts (wDG r x).1,pos pts (wDG r x).2.1,(wDG r x).2.2⟩:=by
 obtain ⟨o1,o2,_,_⟩:=wFa D.c h
 have h1:=(wGi D.nd ((D.all _).2 o1)).2.2.1
 have h2:=(wGi D.nd ((D.all _).2 o2)).2.2.1
 unfold ed mkE
 simp only [h1,h2,hJ]
theorem Desk.mem {p:Bool} {e:Ed}:e ∈ d.edges.map (ed p) ↔ ∃ x,wDm r x/\e=ed p (mkE r pts x):=by
 rw [D.edges,List.map_map]
 constructor
 ·intro h
  obtain ⟨x,hx,rfl⟩:=nQ.1 h
  exact ⟨x,wEd.1 hx,rfl⟩
 ·rintro ⟨x,hx,rfl⟩
  exact nQ.2 ⟨x,wEd.2 hx,rfl⟩
theorem Desk.edOK:∀ e ∈ d.edges,EdOK pts.length e:=by
 intro e he
 rw [D.edges] at he
 obtain ⟨x,hx,rfl⟩:=nQ.1 he
 have h:=wEd.1 hx
 obtain ⟨o1,o2,c1,c2⟩:=wFa D.c h
 obtain ⟨h1,_,h2,_⟩:=wGi D.nd ((D.all _).2 o1)
 obtain ⟨g1,_,g2,_⟩:=wGi D.nd ((D.all _).2 o2)
 unfold mkE
 rw [h2,g2]
 exact ⟨by simp only;omega,by simp only;omega,by simp only;omega,by simp only;omega,c1,c2⟩
theorem Desk.elen:d.edges.length <= 1000:=by
 have:=wHj D.c
 rw [D.edges,na]
 omega
theorem Desk.feas {y:Pt->Int} (F:wBt r y):wGF (d.edges.map (ed false)) fun v=>y (gd pts v):=by
 intro e he
 obtain ⟨x,hx,rfl⟩:=D.mem.1 he
 obtain ⟨o1,o2,_,_⟩:=wFa D.c hx
 rw [D.ed_is hx]
 simp only [nN,if_false]
 rw [(D.pos_ok o1).2.1,(D.pos_ok o2).2.1]
 exact F x hx
theorem Desk.back {z:Nat->Int} (F:wGF (d.edges.map (ed false)) z):wBt r fun p=>z (pos pts p):=by
 intro x hx
 have:=F _ (D.mem.2 ⟨x,hx,rfl⟩)
 rw [D.ed_is hx] at this
 simp only [nN,if_false] at this
 exact this
theorem Desk.backT {z:Nat->Int} (F:wGF (d.edges.map (ed true)) z):wBt r fun p=>-z (pos pts p):=by
 intro x hx
 have:=F _ (D.mem.2 ⟨x,hx,rfl⟩)
 rw [D.ed_is hx] at this
 simp only [if_true] at this
 simp only
 omega
theorem Desk.con (p:Bool):Con pts.length 6600000 (d.edges.map (ed p)):=by
 refine ⟨fun e he=>?_,fun z hz a b ha hb=>?_,fun S i hi hSi hS v hv=>?_⟩
 ·obtain ⟨x,hx,rfl⟩:=D.mem.1 he
  obtain ⟨o1,o2,_,_⟩:=wFa D.c hx
  have h1:=(D.pos_ok o1).1
  have h2:=(D.pos_ok o2).1
  rw [D.ed_is hx]
  split
  ·exact ⟨h2,h1⟩
  ·exact ⟨h1,h2⟩
 ·obtain ⟨pa,ea⟩:=D.gd_ok ha
  obtain ⟨pb,eb⟩:=D.gd_ok hb
  cases p with
  | false =>
   have h1:=wIF D.c (D.back hz) pa
   have h2:=wIF D.c (D.back hz) pb
   simp only [ea,eb] at h1 h2
   omega
  | true =>
   have h1:=wIF D.c (D.backT hz) pa
   have h2:=wIF D.c (D.backT hz) pb
   simp only [ea,eb] at h1 h2
   omega
 ·have hcl:∀ x,wDm r x->S (pos pts (wDG r x).1)->S (pos pts (wDG r x).2.1):=fun x hx h=>by
   cases p with
   | false =>
    have:=hS _ (D.mem.2 ⟨x,hx,rfl⟩)
    rw [D.ed_is hx] at this
    simp only [nN,if_false] at this
    exact this h
   | true =>
    obtain ⟨t1,t2,t3⟩:=wLV hx
    have:=hS _ (D.mem.2 ⟨_,t1,rfl⟩)
    rw [D.ed_is t1] at this
    simp only [if_true] at this
    rw [t2,t3] at this
    exact this h
  obtain ⟨pi,ei⟩:=D.gd_ok hi
  obtain ⟨pv,ev⟩:=D.gd_ok hv
  have:=of_zp (S:=fun q=>S (pos pts q)) hcl (to_zp (S:=fun q=>S (pos pts q)) hcl pi (by show S (pos pts (gd pts i));rw [ei];exact hSi)) pv
  have this:S (pos pts (gd pts v)):=this
  rwa [ev] at this
theorem Desk.cost (p:Bool):∀ e ∈ d.edges.map (ed p),e.c <= 400000:=by
 intro e he
 obtain ⟨x,hx,rfl⟩:=D.mem.1 he
 obtain ⟨_,_,_,c⟩:=wFa D.c hx
 rw [D.ed_is hx]
 split <;> exact c
theorem Desk.nlen:d.number.length=pts.length:=by rw [D.num,wHB]
theorem Desk.any:∃ f last ok,wAg d (-1) false=some (f,last,ok)/\f.far.length=pts.length/\f.by_.length=pts.length/\(ok=true ↔ ∃ y,wBt r y)/\(ok=true->wBt r fun p=>gd f.far (pos pts p))/\(ok=false->0 <= last/\last < pts.length):=by
 obtain ⟨f,last,ok,e,bl,fl,h1,h2⟩:=wHg D.nlen D.len.1 (by have:=D.len.2;omega) D.edOK D.elen (-1) false
 have hp:0 < pts.length:=D.len.1
 have t0:wGD (-1) 0=0:=by unfold wGD;rw [if_pos (.inl (by omega))]
 have feas:ok=true->wBt r fun p=>gd f.far (pos pts p):=fun h=>D.back ((h1 h).feas (D.con false) (D.cost false) hp t0)
 refine ⟨f,last,ok,e,fl,bl,⟨fun h=>⟨_,feas h⟩,fun ⟨y,hy⟩=>?_⟩,feas,fun h=>⟨(h2 h).1,(h2 h).2.1⟩⟩
 cases ok with
 | true=>rfl
 | false =>
  exfalso
  obtain ⟨δ,M⟩:=wJf (D.con false) (D.feas hy) hp t0 (fun v _=>(wKu (-1) v).1)
  exact (h2 rfl).2.2 δ M fun v hv=>by have:=M.hi (D.con false) hp t0 v hv;omega
theorem Desk.from_ (hy:∃ y,wBt r y) {a:Pt} (ha:wFO r a):∃ f last,wAg d (pos pts a:Int) false=some (f,last,true)/\f.far.length=pts.length/\IsDP r a fun p=>gd f.far (pos pts p):=by
 obtain ⟨f,last,ok,e,bl,fl,h1,h2⟩:=wHg D.nlen D.len.1 (by have:=D.len.2;omega) D.edOK D.elen (pos pts a:Int) false
 obtain ⟨hp,hg,_⟩:=D.pos_ok ha
 have t0:wGD (pos pts a:Int) (pos pts a)=0:=by unfold wGD;rw [if_pos (.inr rfl)]
 obtain ⟨y,hy⟩:=hy
 have hok:ok=true:=by
  cases ok with
  | true=>rfl
  | false =>
   exfalso
   obtain ⟨δ,M⟩:=wJf (D.con false) (D.feas hy) hp t0 (fun v _=>(wKu _ v).1)
   exact (h2 rfl).2.2 δ M fun v hv=>by have:=M.hi (D.con false) hp t0 v hv;omega
 subst hok
 have I:=(h1 rfl).isD (by omega) (D.con false) (D.cost false) hp
 refine ⟨f,last,e,fl,D.back I.ok,I.zero,fun z hz p hpt=>?_⟩
 have:=I.gr _ (D.feas hz) (pos pts p) (D.pos_ok hpt).1
 simp only [hg,(D.pos_ok hpt).2.1] at this
 exact this
end
end Go.Proofs.Ytlnfbjphfoipaaa
namespace Go.Proofs.Ytlnfbjphfoipaaa
open Go.KL Go.KL.Net
def inB (n lo hi:Int):Bool:=decide (lo <= n/\n <= hi)
theorem wIG (n lo hi:Int):wBB n lo hi=some (inB n lo hi):=by
 unfold wBB inB
 by_cases h:lo <= n
 ·rw [if_pos h];simp [h]
 ·rw [if_neg h];simp [h]
def wKN (s:wAF) (lo hi:Int):Bool:=decide (s.Lo <= s.Hi/\lo <= s.Lo/\s.Hi <= hi)
theorem wGj (s:wAF) (lo hi:Int):wCV s lo hi=some (wKN s lo hi):=by
 unfold wCV wKN
 by_cases h:s.Lo <= s.Hi
 ·by_cases h2:lo <= s.Lo
  ·rw [if_pos h,if_pos h2];simp [h,h2]
  ·rw [if_pos h,if_neg h2];simp [h2]
 ·rw [if_neg h];simp [h]
theorem wJl {l:List Int} {f:Int->Option Bool} {p:Int->Bool} (hf:∀ a ∈ l,f a=some (p a)) (hn:l.length <= 1000):wCK l f=some (l.all p):=by
 unfold wCK
 refine (wFL (R:=Bool) (p:=p) (z:=false) (K:=fun _=>some true) (fun a ha=>?_) (by omega)).trans ?_
 ·rw [hf a ha,hD];split <;> rfl
 ·split <;> simp_all
theorem wJC {l:List wAF} {f:wAF->Option Bool} {p:wAF->Bool} (hf:∀ a ∈ l,f a=some (p a)) (hn:l.length <= 1000):wBU l f=some (l.all p):=by
 unfold wBU
 refine (wFL (R:=Bool) (p:=p) (z:=false) (K:=fun _=>some true) (fun a ha=>?_) (by omega)).trans ?_
 ·rw [hf a ha,hD];split <;> rfl
 ·split <;> simp_all
theorem wIH {l:List wAG} {f:wAG->Option Bool} {p:wAG->Bool} (hf:∀ a ∈ l,f a=some (p a)) (hn:l.length <= 1000):wBF l f=some (l.all p):=by
 unfold wBF
 refine (wFL (R:=Bool) (p:=p) (z:=false) (K:=fun _=>some true) (fun a ha=>?_) (by omega)).trans ?_
 ·rw [hf a ha,hD];split <;> rfl
 ·split <;> simp_all
theorem wFM {l:List wAJ} {f:wAJ->Option Bool} {p:wAJ->Bool} (hf:∀ a ∈ l,f a=some (p a)) (hn:l.length <= 1000):wAn l f=some (l.all p):=by
 unfold wAn
 refine (wFL (R:=Bool) (p:=p) (z:=false) (K:=fun _=>some true) (fun a ha=>?_) (by omega)).trans ?_
 ·rw [hf a ha,hD];split <;> rfl
 ·split <;> simp_all
structure wFN (r:wAE):Prop where
 n:r.Starts.length <= 10
 m:r.Splits.length <= 9
 c:r.Clocks.length <= 6
 q:r.Readings.length <= 44
def stP (s:Int):Bool:=inB s 0 360000
def spP (s:wAF):Bool:=wKN s 0 360000
def ckP (c:wAG):Bool:=wKN c.Offset (-36000) 36000 && inB c.Error 0 600
def rtP (x:wAJ):Bool:=inB x.Time 0 360000
def ruP (r:wAE) (x:wAJ):Bool:=inB x.Skier 0 ((r.Starts.length:Int) - 1) && (inB x.Mat 0 r.Splits.length && inB x.Clock 0 ((r.Clocks.length:Int) - 1))
def code (r:wAE):Int :=
 if ¬ (1 <= r.Starts.length/\r.Starts.length <= 8) then 2 else if 7 < r.Splits.length then 2 else if 4 < r.Clocks.length then 2 else if 40 < r.Readings.length then 2
 else if r.Starts.all stP=true then (if r.Splits.all spP=true then (if r.Clocks.all ckP=true then (if r.Readings.all rtP=true then (if r.Readings.all (ruP r)=true then 0 else 1) else 3) else 3) else 3) else 3
theorem wJm {r:wAE} (h:code r=0):RC r:=by
 unfold code at h
 split at h
 ·omega
 ·split at h
  ·omega
  ·split at h
   ·omega
   ·split at h
    ·omega
    ·split at h
     ·split at h
      ·split at h
       ·split at h
        ·split at h
         ·rename_i a1 a2 a3 a4 h1 h2 h3 h4 h5
          rw [nS] at h1 h2 h3 h4 h5
          refine ⟨by omega,by omega,by omega,by omega,fun s hs=>?_,fun s hs=>?_,fun s hs=>?_,fun s hs=>?_,fun s hs=>?_⟩
          ·have:=h1 s hs
           simp only [stP,inB,decide_eq_true_eq] at this
           exact this
          ·have:=h2 s hs
           simp only [spP,wKN,decide_eq_true_eq] at this
           exact this
          ·have:=h3 s hs
           simp only [ckP,wKN,inB,nL,decide_eq_true_eq] at this
           exact this
          ·have:=h4 s hs
           simp only [rtP,inB,decide_eq_true_eq] at this
           exact this
          ·have:=h5 s hs
           simp only [ruP,inB,nL,decide_eq_true_eq] at this
           omega
         ·omega
        ·omega
       ·omega
      ·omega
     ·omega
theorem wJn {r:wAE} (S:wFN r) (s:wAP):wAf r s=some (inB s.Skier 0 ((r.Starts.length:Int) - 1) && inB s.Mat 0 r.Splits.length):=by
 have:=S.n
 unfold wAf
 rw [wAU (by omega) (by omega),wIG,hD,wIG,hD]
 cases inB s.Skier 0 ((r.Starts.length:Int) - 1)
 ·rw [if_neg (by simp)];rfl
 ·rw [if_pos rfl,Bool.true_and]
theorem wJD {r:wAE} (S:wFN r):wCO r=some (code r):=by
 have hn:=S.n;have hm:=S.m;have hc:=S.c;have hq:=S.q
 unfold wCO code
 rw [wIG,hD]
 by_cases c1:1 <= r.Starts.length/\r.Starts.length <= 8
 ·have e1:inB (r.Starts.length:Int) 1 8=true:=by unfold inB;rw [decide_eq_true_eq];omega
  rw [e1,if_pos rfl,if_neg (show ¬ ¬ (1 <= r.Starts.length/\r.Starts.length <= 8) from fun h=>h c1)]
  by_cases c2:7 < r.Splits.length
  ·rw [if_pos (show (7:Int) < (r.Splits.length:Int) by omega),if_pos c2]
  ·rw [if_neg (show ¬ (7:Int) < (r.Splits.length:Int) by omega),if_neg c2]
   by_cases c3:4 < r.Clocks.length
   ·rw [if_pos (show (4:Int) < (r.Clocks.length:Int) by omega),if_pos c3]
   ·rw [if_neg (show ¬ (4:Int) < (r.Clocks.length:Int) by omega),if_neg c3]
    by_cases c4:40 < r.Readings.length
    ·rw [if_pos (show (40:Int) < (r.Readings.length:Int) by omega),if_pos c4]
    ·rw [if_neg (show ¬ (40:Int) < (r.Readings.length:Int) by omega),if_neg c4]
     rw [wJl (p:=stP) (fun a _=>by unfold wCU;rw [wIG];rfl) (by omega),hD]
     rw [wJC (p:=spP) (fun a _=>by unfold wCW;rw [wGj];rfl) (by omega),hD]
     rw [wIH (p:=ckP) (fun a _=>by
      unfold wCX ckP
      rw [wGj,hD,wIG,hD]
      cases wKN a.Offset (-36000) 36000
      ·rw [if_neg (by simp)];rfl
      ·rw [if_pos rfl];rfl) (by omega),hD]
     rw [wFM (p:=rtP) (fun a _=>by unfold wCY;rw [wIG];rfl) (by omega),hD]
     rw [wFM (p:=ruP r) (fun a _=>by
      unfold wCZ ruP
      rw [wJn S,hD,wAU (by omega) (by omega),wIG,hD]
      simp only
      cases inB a.Skier 0 ((r.Starts.length:Int) - 1)
      ·rw [if_neg (by simp)];rfl
      ·cases inB a.Mat 0 (r.Splits.length:Int)
       ·rw [if_neg (by simp)];rfl
       ·simp) (by omega),hD]
     split
     ·split
      ·split
       ·split
        ·split <;> rfl
        ·rfl
       ·rfl
      ·rfl
     ·rfl
 ·have e1:inB (r.Starts.length:Int) 1 8=false:=by unfold inB;rw [decide_eq_false_iff_not];omega
  rw [e1,if_neg (by simp),if_pos c1]
end Go.Proofs.Ytlnfbjphfoipaaa
namespace Go.Proofs.Ytlnfbjphfoipaaa
open Go.KL Go.KL.Net
open Classical
def wFj (r:wAE) (s:wAP):Bool:=inB s.Skier 0 ((r.Starts.length:Int) - 1) && inB s.Mat 0 r.Splits.length
def pt (s:wAP):Pt:=⟨s.Skier,s.Mat⟩
theorem wHC {r:wAE} {s:wAP} (h:wFj r s=true):wFO r (pt s)/\0 <= s.Skier/\s.Skier < r.Starts.length/\0 <= s.Mat/\s.Mat <= r.Splits.length:=by
 simp only [wFj,inB,nL,decide_eq_true_eq] at h
 exact ⟨.inr (.inl ⟨h.1.1,by simp only [pt];omega,h.2.1,h.2.2⟩),h.1.1,by omega,h.2.1,h.2.2⟩
noncomputable def wGk (r:wAE) (l:List wAP):Int:=if code r=0 then (if l.all (wFj r)=true then (if ∃ y,wBt r y then 0 else 7) else 1) else code r
theorem err0 {r:wAE} {l:List wAP} (h:wGk r l=0):RC r/\code r=0/\l.all (wFj r)=true/\∃ y,wBt r y:=by
 unfold wGk at h
 split at h
 ·split at h
  ·split at h
   ·rename_i a b c
    exact ⟨wJm a,a,b,c⟩
   ·omega
  ·omega
 ·contradiction
theorem wIk {r:wAE} (S:wFN r):(code r ≠ 0/\wCA r=some (none,code r)) \/ (code r=0/\∃ d pts,wCA r=some (some d,0)/\Desk r d pts):=by
 unfold wCA
 rw [wJD S,hD]
 by_cases c:code r=0
 ·right
  obtain ⟨d,pts,e,D⟩:=wHk (wJm c)
  refine ⟨c,d,pts,?_,D⟩
  rw [if_pos c,e];rfl
 ·left
  exact ⟨c,if_neg c⟩
end Go.Proofs.Ytlnfbjphfoipaaa
namespace Go.Proofs.Ytlnfbjphfoipaaa
open Go.KL Go.KL.Net
open Classical
theorem wJE {l:List wAP} {f:wAP->Option Bool} {p:wAP->Bool} (hf:∀ a ∈ l,f a=some (p a)) (hn:l.length <= 1000):wAz l f=some (l.all p):=by
 unfold wAz
 refine (wFL (R:=Bool) (p:=p) (z:=false) (K:=fun _=>some true) (fun a ha=>?_) (by omega)).trans ?_
 ·rw [hf a ha,hD];split <;> rfl
 ·split <;> simp_all
section
variable {r:wAE} {d:wAX} {pts:List Pt} (D:Desk r d pts)
include D
theorem Desk.holds:∃ b,wAp d=some b/\(b=true ↔ ∃ y,wBt r y):=by
 obtain ⟨f,last,ok,e,_,_,h,_⟩:=D.any
 refine ⟨ok,?_,h⟩
 unfold wAp
 rw [e];rfl
end
theorem wIl {r:wAE} (S:wFN r) {l:List wAP} (hl:l.length <= 10):∃ o,wCP r l=some (o,wGk r l)/\(wGk r l=0->∃ d pts,o=some d/\Desk r d pts)/\(wGk r l ≠ 0->o=none):=by
 unfold wCP
 rcases wIk S with ⟨c,e⟩ | ⟨c,d,pts,e,D⟩
 ·have ee:wGk r l=code r:=by unfold wGk;rw [if_neg c]
  refine ⟨none,?_,fun h=>absurd (ee ▸ h) c,fun _=>rfl⟩
  rw [e,hD,ee]
  simp only
  rw [if_neg c]
 ·rw [e,hD]
  simp only
  rw [if_pos trivial,wJE (p:=wFj r) (fun s _=>wJn S s) (by omega),hD]
  by_cases c2:l.all (wFj r)=true
  ·rw [if_pos c2]
   obtain ⟨b,e3,h3⟩:=D.holds
   rw [e3,hD]
   by_cases c3:∃ y,wBt r y
   ·have ee:wGk r l=0:=by unfold wGk;rw [if_pos c,if_pos c2,if_pos c3]
    rw [if_pos (h3.2 c3),ee]
    exact ⟨_,rfl,fun _=>⟨d,pts,rfl,D⟩,fun h=>absurd rfl h⟩
   ·have ee:wGk r l=7:=by unfold wGk;rw [if_pos c,if_pos c2,if_neg c3]
    rw [if_neg (fun h=>c3 (h3.1 h)),ee]
    exact ⟨_,rfl,fun h=>by omega,fun _=>rfl⟩
  ·have ee:wGk r l=1:=by unfold wGk;rw [if_pos c,if_neg c2]
   rw [if_neg c2,ee]
   exact ⟨_,rfl,fun h=>by omega,fun _=>rfl⟩
end Go.Proofs.Ytlnfbjphfoipaaa
namespace Go.Proofs.Ytlnfbjphfoipaaa
open Go.KL Go.KL.Net
open Classical
theorem wGl {S:Type} {body:Nat->S->Option S} {n:Nat} {s0:S} (I:Nat->S->Prop) (hn:n <= 1000) (h0:I 0 s0) (h:∀ i s,i < n->I i s->∃ s',body i s=some s'/\I (i + 1) s'):∃ s,wBe 0 (n:Int) body s0=some s/\I n s:=by
 rw [wEF (by omega)]
 have:=wEc (body:=body) I n 0 s0 h0 fun i s _ h2 h3=>h i s (by omega) h3
 rwa [nV] at this
end Go.Proofs.Ytlnfbjphfoipaaa
namespace Go.Proofs.Ytlnfbjphfoipaaa
open Go.KL Go.KL.Net
open Classical
theorem wFb {r:wAE} {d:wAX} {pts:List Pt} (D:Desk r d pts) (hy:∃ y,wBt r y) {a b:Pt} (ha:wFO r a) (hb:wFO r b) {f g:Pt->Int} (hf:IsDP r a f) (hg:IsDP r b g):wAo d a b=some ⟨-g a,f b⟩:=by
 obtain ⟨f',l1,e1,n1,F'⟩:=D.from_ hy ha
 obtain ⟨g',l2,e2,n2,G'⟩:=D.from_ hy hb
 have f1:=F'.one hf hb
 have g1:=G'.one hg ha
 have gn:=hg.near D.c hb ha
 have pa:=D.pos_ok ha
 have pb:=D.pos_ok hb
 unfold wAo
 rw [pa.2.2,pb.2.2,e1,hD]
 simp only
 rw [hD,e2,hD]
 simp only
 rw [hD]
 simp only
 rw [wCy (by omega) (by omega),hD,wCy (by omega) (by omega),hD,hJ,hJ,f1,g1,wAU (by omega) (by omega)]
theorem wIm {r:wAE} (S:wFN r) (s:wAP):(wGk r [s] ≠ 0->wAZ r s=some (⟨0,0⟩,wGk r [s]))/\(wGk r [s]=0->∀ f g,IsDP r zp f->IsDP r (pt s) g->wAZ r s=some (⟨-g zp,f (pt s)⟩,0)):=by
 unfold wAZ
 obtain ⟨o,e,h0,h1⟩:=wIl S (l:=[s]) (by simp)
 rw [e,hD]
 simp only
 constructor
 ·intro c
  have ho:=h1 c
  subst ho
  simp only
  rw [if_neg c]
 ·intro c f g hf hg
  obtain ⟨d,pts,rfl,D⟩:=h0 c
  obtain ⟨C,_,hs,hy⟩:=err0 c
  simp only [nw,kA,Bool.and_true] at hs
  have hp:=(wHC (r:=r) (s:=s) hs).1
  simp only
  rw [if_pos c]
  unfold wBN wBn
  rw [hD,hD]
  show (wAo d zp (pt s)).bind _=_
  rw [wFb D hy (.inl rfl) hp hf hg]
  rfl
theorem wKw {r:wAE} (S:wFN r) (c:code r=0) (hy:∃ y,wBt r y) {a:Pt} (ha:wFO r a):∃ f,IsDP r a f:=by
 rcases wIk S with ⟨c0,_⟩ | ⟨_,d,pts,_,D⟩
 ·exact absurd c c0
 ·obtain ⟨f,l,_,_,F⟩:=D.from_ hy ha
  exact ⟨_,F⟩
end Go.Proofs.Ytlnfbjphfoipaaa
namespace Go.Proofs.Ytlnfbjphfoipaaa
open Go.KL Go.KL.Net
open Classical
structure F4 (r:wAE) (y:Pt->Int):Prop where
 a:∀ s:Nat,s < r.Starts.length->y ⟨(s:Int),0⟩=y zp + gd r.Starts s
 b:∀ s k:Nat,s < r.Starts.length->k < r.Splits.length->(gd r.Splits k).Lo <= y ⟨(s:Int),(k:Int) + 1⟩ - y ⟨(s:Int),(k:Int)⟩/\y ⟨(s:Int),(k:Int) + 1⟩ - y ⟨(s:Int),(k:Int)⟩ <= (gd r.Splits k).Hi
 c:∀ k:Nat,k < r.Clocks.length->y ⟨-1,1 + (k:Int)⟩ <= y zp - (gd r.Clocks k).Offset.Lo/\y zp <= y ⟨-1,1 + (k:Int)⟩ + (gd r.Clocks k).Offset.Hi
 d:∀ x ∈ r.Readings,y ⟨x.Skier,x.Mat⟩ <= y ⟨-1,1 + x.Clock⟩ + (x.Time + (gd r.Clocks x.Clock.toNat).Error)/\y ⟨-1,1 + x.Clock⟩ <= y ⟨x.Skier,x.Mat⟩ + ((gd r.Clocks x.Clock.toNat).Error - x.Time)
theorem wHl {r:wAE} {y:Pt->Int}:wBt r y ↔ F4 r y:=by
 constructor
 ·intro F
  refine ⟨fun s hs=>?_,fun s k hs hk=>?_,fun k hk=>?_,fun x hx=>?_⟩
  ·have h:=fp0 F (s:=(s:Int)) (by omega) (by omega)
   rwa [hJ] at h
  ·have h:=fp1 F (s:=(s:Int)) (k:=(k:Int)) (by omega) (by omega) (by omega) (by omega)
   rw [hJ] at h
   omega
  ·have h:=fp2 F (k:=(k:Int)) (by omega) (by omega)
   rwa [hJ] at h
  ·obtain ⟨k,hk,rfl⟩:=wGh hx
   have a:y ⟨(gd r.Readings k).Skier,(gd r.Readings k).Mat⟩ <= y ⟨-1,1 + (gd r.Readings k).Clock⟩ + ((gd r.Readings k).Time + (gd r.Clocks (gd r.Readings k).Clock.toNat).Error):=F ⟨3,0,(k:Int),true⟩ (.inr (.inr (.inr ⟨rfl,rfl,by simp only;omega,by simp only;omega⟩)))
   have b:y ⟨-1,1 + (gd r.Readings k).Clock⟩ <= y ⟨(gd r.Readings k).Skier,(gd r.Readings k).Mat⟩ + ((gd r.Clocks (gd r.Readings k).Clock.toNat).Error - (gd r.Readings k).Time):=F ⟨3,0,(k:Int),false⟩ (.inr (.inr (.inr ⟨rfl,rfl,by simp only;omega,by simp only;omega⟩)))
   exact ⟨a,b⟩
 ·rintro ⟨h1,h2,h3,h4⟩ x hx
  have key:y (wCv r x).2.1 <= y (wCv r x).1 + (wCv r x).2.2.1/\y (wCv r x).1 <= y (wCv r x).2.1 + (wCv r x).2.2.2:=by
   unfold wCv
   rcases hx with ⟨k,a,b,c⟩ | ⟨k,a,b,c,d⟩ | ⟨k,a,c,d⟩ | ⟨k,a,c,d⟩
   ·have h:=h1 x.Skier.toNat (by omega)
    rw [nD a] at h
    rw [if_pos k]
    simp only
    omega
   ·have h:=h2 x.Skier.toNat x.Index.toNat (by omega) (by omega)
    rw [nD a,nD c] at h
    rw [if_neg (by omega),if_pos k]
    simp only
    omega
   ·have h:=h3 x.Index.toNat (by omega)
    rw [nD c] at h
    rw [if_neg (by omega),if_neg (by omega),if_pos k]
    simp only
    omega
   ·have h:=h4 _ (wCc c d)
    rw [if_neg (by omega),if_neg (by omega),if_neg (by omega)]
    simp only
    omega
  unfold wDG
  split
  ·exact key.1
  ·exact key.2
end Go.Proofs.Ytlnfbjphfoipaaa
namespace Go.Proofs.Ytlnfbjphfoipaaa
open Go.KL Go.KL.Net
open Classical
structure Sm (r r':wAE):Prop where
 n:r'.Starts.length=r.Starts.length
 m:r'.Splits.length=r.Splits.length
 c:r'.Clocks.length=r.Clocks.length
theorem Sm.pt {r r':wAE} (h:Sm r r') {p:Pt}:wFO r' p ↔ wFO r p:=by
 unfold wFO
 rw [h.n,h.m,h.c]
theorem Sm.sp {r r':wAE} (h:Sm r r') (s:wAP):wFj r' s=wFj r s:=by
 unfold wFj
 rw [h.n,h.m]
theorem wFc {r r':wAE} (hm:Sm r r') (h:∀ y,wBt r' y->wBt r y) {a:Pt} {f f':Pt->Int} (hf:IsDP r a f) (hf':IsDP r' a f') {p:Pt} (hp:wFO r p):f' p <= f p:=by
 have:=hf.gr _ (h _ hf'.ok) p hp
 have:=hf'.zero
 omega
theorem wJo {r r':wAE} (hm:Sm r r') (h:∀ y,wBt r' y ↔ wBt r y) {a:Pt} {f:Pt->Int} (hf:IsDP r a f):IsDP r' a f :=
 ⟨(h f).2 hf.ok,hf.zero,fun y hy p hp=>hf.gr y ((h y).1 hy) p (hm.pt.1 hp)⟩
def wr (r:wAE) (l:List wAJ):wAE:=⟨r.Starts,r.Splits,r.Clocks,l⟩
theorem wII (r:wAE) (l:List wAJ):Sm r (wr r l):=⟨rfl,rfl,rfl⟩
theorem wKO {r:wAE} (C:RC r) {l:List wAJ} (hl:l.length <= 40) (h:∀ x ∈ l,x ∈ r.Readings):RC (wr r l) :=
 ⟨C.n,C.m,C.c,hl,C.st,C.sp,C.ck,fun x hx=>C.rt x (h x hx),fun x hx=>C.ru x (h x hx)⟩
theorem wJp {r:wAE} {l:List wAJ} {y:Pt->Int}:wBt (wr r l) y ↔ wBt (wr r []) y/\∀ x ∈ l,y ⟨x.Skier,x.Mat⟩ <= y ⟨-1,1 + x.Clock⟩ + (x.Time + (gd r.Clocks x.Clock.toNat).Error)/\y ⟨-1,1 + x.Clock⟩ <= y ⟨x.Skier,x.Mat⟩ + ((gd r.Clocks x.Clock.toNat).Error - x.Time):=by
 rw [wHl,wHl]
 exact ⟨fun h=>⟨⟨h.a,h.b,h.c,fun x hx=>by cases hx⟩,h.d⟩,fun h=>⟨h.1.a,h.1.b,h.1.c,h.2⟩⟩
theorem wGE {r:wAE} {l m:List wAJ} (h:∀ x ∈ l,x ∈ m) {y:Pt->Int} (F:wBt (wr r m) y):wBt (wr r l) y:=by
 rw [wJp] at F ⊢
 exact ⟨F.1,fun x hx=>F.2 x (h x hx)⟩
def wHD (q:Nat->Bool) (l:List wAJ) (k:Nat):List wAJ:=((nR k).filter fun i=>!q i).map fun i=>gd l i
theorem wIn (q:Nat->Bool) (l:List wAJ) (k:Nat):wHD q l (k + 1)=if q k=true then wHD q l k else wHD q l k ++ [gd l k]:=by
 unfold wHD
 rw [List.range_succ,kB,nm]
 by_cases h:q k=true
 ·rw [if_pos h];simp [h]
 ·rw [if_neg h];simp [h]
theorem wIJ (q:Nat->Bool) (l:List wAJ) (k:Nat):(wHD q l k).length <= k:=by
 unfold wHD
 rw [na]
 have:=nq (fun i=>!q i) (nR k)
 rwa [kE] at this
theorem wFo {q:Nat->Bool} {l:List wAJ} {x:wAJ}:x ∈ wHD q l l.length ↔ ∃ i,i < l.length/\q i=false/\x=gd l i:=by
 unfold wHD
 simp only [nQ,List.mem_filter,np,Bool.not_eq_true']
 constructor
 ·rintro ⟨i,⟨h1,h2⟩,rfl⟩;exact ⟨i,h1,h2,rfl⟩
 ·rintro ⟨i,h1,h2,rfl⟩;exact ⟨i,⟨h1,h2⟩,rfl⟩
theorem wJF {r:wAE} (C:RC r) {g:Int × wAJ->Option Bool} {q:Nat->Bool} (hg:∀ k,k < r.Readings.length->g ((k:Int),gd r.Readings k)=some (q k)):∃ d pts,wAt r g=some d/\Desk (wr r (wHD q r.Readings r.Readings.length)) d pts:=by
 have hq:=C.q
 unfold wAt
 rw [mkz,if_pos (by omega),hD]
 have ec:wJR (nJ (r.Readings.length:Int).toNat (⟨0,0,0,0⟩:wAJ)) 0 r.Readings=some r.Readings:=by
  unfold wJR
  rw [if_pos (by simp)]
  unfold cpy
  simp
 rw [ec,hD]
 obtain ⟨s,e,h1,h2,h3,h4⟩:=wGl (n:=r.Readings.length) (body:=fun (k34:Nat) ((l32,k33):List wAJ × Nat) =>
  (chk (↑k34:Int) l32.length).bind fun _ =>
  (g ((↑k34:Int),(gd l32 k34))).bind fun x68 =>
  if x68=true then
   some (l32,k33)
  else
   (chk (((k33):Nat):Int) l32.length).bind fun _ =>
   some ((hH l32 k33 (gd l32 k34)),(k33 + 1))) (s0:=(r.Readings,0))
  (fun k s=>s.1.length=r.Readings.length/\s.2=(wHD q r.Readings k).length/\s.1.take s.2=wHD q r.Readings k/\∀ j,k <= j->j < r.Readings.length->gd s.1 j=gd r.Readings j) (by omega)
  ⟨rfl,rfl,rfl,fun _ _ _=>rfl⟩ (by
   rintro k ⟨l,c⟩ hk ⟨a1,a2,a3,a4⟩
   simp only at a1 a2 a3 a4 ⊢
   have hkl:=wIJ q r.Readings k
   rw [wCy (by omega) (by omega),hD,a4 k (nY _) hk,hg k hk,hD]
   by_cases h:q k=true
   ·rw [if_pos h]
    exact ⟨_,rfl,a1,by rw [wIn,if_pos h];exact a2,by rw [wIn,if_pos h];exact a3,fun j h1 h2=>a4 j (by omega) h2⟩
   ·rw [if_neg h,wCy (by omega) (by omega),hD]
    refine ⟨_,rfl,by simp only [nX];exact a1,?_,?_,fun j h1 h2=>?_⟩
    ·simp only
     rw [wIn,if_neg h,nM,a2];rfl
    ·simp only
     have hc:c < (l.set c (gd r.Readings k)).length:=by rw [nX];omega
     rw [wIn,if_neg h,wGz hc,List.take_set_of_le (nY _),a3,wEn (by omega) (by omega),if_pos rfl]
    ·simp only
     rw [wEn (by omega) (by omega)]
     by_cases e:j=c
     ·omega
     ·rw [if_neg e]
      exact a4 j (by omega) h2)
 have hk2:=wIJ q r.Readings r.Readings.length
 rw [e,hD]
 simp only
 have ecut:Go.KL.cut s.1 0 ((s.2:Nat):Int)=some (wHD q r.Readings r.Readings.length):=by
  unfold Go.KL.cut
  rw [if_pos (by omega)]
  rw [<- h3]
  simp
 rw [ecut,hD]
 obtain ⟨d,pts,ed,D⟩:=wHk (wKO C (l:=wHD q r.Readings r.Readings.length) (by omega) (fun x hx=>by
  obtain ⟨i,hi,_,rfl⟩:=wFo.1 hx
  exact wBK hi))
 exact ⟨d,pts,by
  rw [show (⟨r.Starts,r.Splits,r.Clocks,wHD q r.Readings r.Readings.length⟩:wAE)=wr r (wHD q r.Readings r.Readings.length) from rfl,ed]
  rfl,D⟩
end Go.Proofs.Ytlnfbjphfoipaaa
namespace Go.Proofs.Ytlnfbjphfoipaaa
open Go.KL Go.KL.Net
open Classical
def yT (T:List (List Int)) (O:List Int) (p:Pt):Int:=if p.skier=-1 then (if p.mat=0 then 0 else -gd O (p.mat - 1).toNat) else gd (gd T p.skier.toNat) p.mat.toNat
theorem wIK (T:List (List Int)) (O:List Int):yT T O zp=0:=rfl
theorem wDn (T:List (List Int)) (O:List Int) {s k:Int} (h:0 <= s):yT T O ⟨s,k⟩=gd (gd T s.toNat) k.toNat:=if_neg (by simp only;omega)
theorem wEN (T:List (List Int)) (O:List Int) {k:Int} (h:0 <= k):yT T O ⟨-1,1 + k⟩=-gd O k.toNat:=by
 unfold yT
 rw [if_pos rfl,if_neg (by simp only;omega),show (1 + k - 1)=k by omega]
structure Lens (r:wAE) (T:List (List Int)) (O:List Int):Prop where
 t:T.length=r.Starts.length
 l:∀ k,k < r.Starts.length->(gd T k).length=r.Splits.length + 1
 o:O.length=r.Clocks.length
def wMV (r:wAE) (T:List (List Int)) (k:Nat):Bool:=decide (gd (gd T k) 0=gd r.Starts k) && wLS (fun j=>inB (gd (gd T k) (j + 1) - gd (gd T k) j) (gd r.Splits j).Lo (gd r.Splits j).Hi) r.Splits.length 0
def clkS (r:wAE) (O:List Int) (k:Nat):Bool:=inB (gd O k) (gd r.Clocks k).Offset.Lo (gd r.Clocks k).Offset.Hi
def redS (r:wAE) (T:List (List Int)) (O:List Int) (k:Nat):Bool :=
 inB ((gd r.Readings k).Time - gd (gd T (gd r.Readings k).Skier.toNat) (gd r.Readings k).Mat.toNat - gd O (gd r.Readings k).Clock.toNat) (-(gd r.Clocks (gd r.Readings k).Clock.toNat).Error) (gd r.Clocks (gd r.Readings k).Clock.toNat).Error
theorem wKP {r:wAE} (C:RC r) {T:List (List Int)} {O:List Int}:wBt r (yT T O) ↔ wLS (wMV r T) r.Starts.length 0=true/\wLS (clkS r O) r.Clocks.length 0=true/\wLS (redS r T O) r.Readings.length 0=true:=by
 simp only [wDu]
 constructor
 ·intro F
  refine ⟨fun k _ hk=>?_,fun k _ hk=>?_,fun k _ hk=>?_⟩
  ·have h0:=fp0 F (s:=(k:Int)) (by omega) (by omega)
   rw [wDn _ _ (by omega),wIK,hJ,Int.zero_add] at h0
   unfold wMV
   rw [nL]
   refine ⟨decide_eq_true h0,(wDu _ _ _).2 fun j _ hj=>?_⟩
   have h1:=fp1 F (s:=(k:Int)) (k:=(j:Int)) (by omega) (by omega) (by omega) (by omega)
   rw [wDn _ _ (by omega),wDn _ _ (by omega),hJ,hJ,show ((j:Int) + 1).toNat=j + 1 by omega] at h1
   unfold inB
   rw [decide_eq_true_eq]
   omega
  ·have h:=fp2 F (k:=(k:Int)) (by omega) (by omega)
   rw [wEN _ _ (by omega),wIK,hJ] at h
   unfold clkS inB
   rw [decide_eq_true_eq]
   omega
  ·have u:=C.ru _ (wBK (show k < r.Readings.length by omega))
   have a:yT T O ⟨(gd r.Readings k).Skier,(gd r.Readings k).Mat⟩ <= yT T O ⟨-1,1 + (gd r.Readings k).Clock⟩ + ((gd r.Readings k).Time + (gd r.Clocks (gd r.Readings k).Clock.toNat).Error):=F ⟨3,0,(k:Int),true⟩ (.inr (.inr (.inr ⟨rfl,rfl,by simp only;omega,by simp only;omega⟩)))
   have b:yT T O ⟨-1,1 + (gd r.Readings k).Clock⟩ <= yT T O ⟨(gd r.Readings k).Skier,(gd r.Readings k).Mat⟩ + ((gd r.Clocks (gd r.Readings k).Clock.toNat).Error - (gd r.Readings k).Time):=F ⟨3,0,(k:Int),false⟩ (.inr (.inr (.inr ⟨rfl,rfl,by simp only;omega,by simp only;omega⟩)))
   rw [wDn _ _ u.1,wEN _ _ u.2.2.2.2.1] at a b
   unfold redS inB
   rw [decide_eq_true_eq]
   omega
 ·rintro ⟨h1,h2,h3⟩ x hx
  have key:yT T O (wCv r x).2.1 <= yT T O (wCv r x).1 + (wCv r x).2.2.1/\yT T O (wCv r x).1 <= yT T O (wCv r x).2.1 + (wCv r x).2.2.2:=by
   unfold wCv
   rcases hx with ⟨k,a,b,c⟩ | ⟨k,a,b,c,d⟩ | ⟨k,a,c,d⟩ | ⟨k,a,c,d⟩
   ·have h:=h1 x.Skier.toNat (by omega) (by omega)
    unfold wMV at h
    rw [nL,decide_eq_true_eq] at h
    rw [if_pos k]
    simp only
    rw [wDn _ _ a,wIK,Int.toNat_zero,h.1]
    omega
   ·have h:=h1 x.Skier.toNat (by omega) (by omega)
    unfold wMV at h
    rw [nL] at h
    have g:=(wDu _ _ _).1 h.2 x.Index.toNat (by omega) (by omega)
    unfold inB at g
    rw [decide_eq_true_eq] at g
    rw [if_neg (by omega),if_pos k]
    simp only
    rw [wDn _ _ a,wDn _ _ a,show (x.Index + 1).toNat=x.Index.toNat + 1 by omega]
    omega
   ·have h:=h2 x.Index.toNat (by omega) (by omega)
    unfold clkS inB at h
    rw [decide_eq_true_eq] at h
    rw [if_neg (by omega),if_neg (by omega),if_pos k]
    simp only
    rw [wEN _ _ c,wIK]
    omega
   ·have h:=h3 x.Index.toNat (by omega) (by omega)
    unfold redS inB at h
    rw [decide_eq_true_eq] at h
    have u:=C.ru _ (wCc c d)
    rw [if_neg (by omega),if_neg (by omega),if_neg (by omega)]
    simp only
    rw [wDn _ _ u.1,wEN _ _ u.2.2.2.2.1]
    omega
  unfold wDG
  split
  ·exact key.1
  ·exact key.2
end Go.Proofs.Ytlnfbjphfoipaaa
namespace Go.Proofs.Ytlnfbjphfoipaaa
open Go.KL
theorem wJq {a b:Int} (h0:0 <= a) (hb:0 < b):∃ x,rem a b=some x/\0 <= x/\x < b:=by
 refine ⟨a.tmod b,if_neg (by omega),?_,?_⟩
 ·rw [nh h0];exact Int.emod_nonneg _ (by omega)
 ·rw [nh h0];exact Int.emod_lt_of_pos _ hb
theorem wIL (x:Int):0 <= wET x:=by unfold wET;omega
theorem wLW (x:Int):wET x < 4294967296:=by unfold wET;omega
theorem w64u (x:Int):w64 (wET x)=wET x:=by
 have:=wIL x
 have:=wLW x
 exact wAU (by omega) (by omega)
theorem wKQ (a:Int) {b:Int} (hb:b ≠ 0):∃ x,quo a b=some x:=⟨_,if_neg hb⟩
theorem wCE (d:wAI) (n:Int) (h0:0 <= d.next) (h1:d.next <= 1000000):∃ x d',wAM d n=some (x,d')/\0 <= d'.next/\d'.next <= d.next + 1/\0 <= x/\(x < n \/ (n <= 1/\x=0)):=by
 unfold wAM
 by_cases hn:n <= 1
 ·exact ⟨0,d,by rw [if_pos hn],h0,by omega,by omega,.inr ⟨hn,rfl⟩⟩
 rw [if_neg hn]
 by_cases hl:(d.bytes.length:Int)=0
 ·exact ⟨0,d,by rw [if_pos hl],h0,by omega,by omega,.inl (by omega)⟩
 rw [if_neg hl]
 obtain ⟨r,e1,r0,r1⟩:=wJq h0 (show (0:Int) < d.bytes.length by omega)
 obtain ⟨b,e2⟩:∃ b,idx d.bytes r=some b:=by
  unfold idx
  rw [if_pos r0,nj (by omega)]
  exact ⟨_,rfl⟩
 obtain ⟨q,e3⟩:=wKQ d.next (b:=d.bytes.length) hl
 obtain ⟨st,e4,_,_⟩:=wJq (wIL ((wET ((wET ((wET (d.state * 45)) + (wET b))) + (wET (77 * (wET q))))) + 1)) (b:=65519) (by decide)
 rw [e1,hD,e2,hD,e3,hD,e4,hD,wAU (x:=d.next + 1) (by omega) (by omega)]
 have fin:∀ z:Int,∃ x d',((rem (w64 (wET z)) n).bind fun x=>some (x,(⟨d.bytes,d.next + 1,st⟩:wAI)))=some (x,d')/\0 <= d'.next/\d'.next <= d.next + 1/\0 <= x/\(x < n \/ (n <= 1/\x=0)):=by
  intro z
  obtain ⟨x,e5,x0,x1⟩:=wJq (a:=w64 (wET z)) (b:=n) (by rw [w64u];exact wIL z) (by omega)
  exact ⟨x,_,by rw [e5];rfl,by show 0 <= d.next + 1;omega,by show d.next + 1 <= _;omega,x0,.inl x1⟩
 by_cases c1:wET q=0
 ·rw [if_pos c1]
  by_cases c2:n <= 256
  ·rw [if_pos c2];exact fin _
  ·rw [if_neg c2];exact fin _
 ·rw [if_neg c1];exact fin _
theorem wEu (d:wAI) (a b:Int) (h0:0 <= d.next) (h1:d.next <= 1000000) (ha:-1000000 <= a) (hab:a <= b) (hb:b <= 1000000):∃ x d',wAR d a b=some (x,d')/\0 <= d'.next/\d'.next <= d.next + 1/\a <= x/\x <= b:=by
 unfold wAR
 rw [wAU (x:=b - a) (by omega) (by omega),wAU (x:=b - a + 1) (by omega) (by omega)]
 obtain ⟨x,d',e,n0,n1,x0,x1⟩:=wCE d (b - a + 1) h0 h1
 refine ⟨a + x,d',?_,n0,n1,by omega,by omega⟩
 rw [e,hD]
 simp only
 rw [wAU (by omega) (by omega)]
end Go.Proofs.Ytlnfbjphfoipaaa
namespace Go.Proofs.Ytlnfbjphfoipaaa
open Go.KL Go.KL.Net
open Classical
theorem wIM {r:wAE} (C:RC r):code r=0:=by
 unfold code
 rw [if_neg (fun h=>h C.n),if_neg (by have:=C.m;omega),if_neg (by have:=C.c;omega),if_neg (by have:=C.q;omega),if_pos (nS.2 fun s hs=>by
  have:=C.st s hs
  unfold stP inB
  rw [decide_eq_true_eq];omega),if_pos (nS.2 fun s hs=>by
  have:=C.sp s hs
  unfold spP wKN
  rw [decide_eq_true_eq];omega),if_pos (nS.2 fun s hs=>by
  have:=C.ck s hs
  unfold ckP wKN inB
  rw [nL,decide_eq_true_eq,decide_eq_true_eq];omega),if_pos (nS.2 fun s hs=>by
  have:=C.rt s hs
  unfold rtP inB
  rw [decide_eq_true_eq];omega),if_pos (nS.2 fun s hs=>by
  have:=C.ru s hs
  unfold ruP inB
  rw [nL,nL,decide_eq_true_eq,decide_eq_true_eq,decide_eq_true_eq];omega)]
theorem wDe {S:Type} {body:Nat->S->Option S} {n:Nat} {s0:S} (I:Nat->S->Prop) (hn:n <= 1000) (h0:I 0 s0) (h:∀ i s,i < n->I i s->∃ s',body i s=some s'/\I (i + 1) s'):∃ s,wBe 0 (n:Int) body s0=some s/\I n s:=by
 rw [wEF (by omega)]
 have:=wEc (body:=body) I n 0 s0 h0 fun i s _ h2 h3=>h i s (by omega) h3
 rwa [nV] at this
theorem wHE {α:Type} {l:List α} {a:α} {P:α->Prop} (h:∀ x ∈ l,P x) (ha:P a):∀ x ∈ l ++ [a],P x:=fun x hx=>by
 rcases nH.1 hx with h1 | h1
 ·exact h x h1
 ·rw [nE.1 h1];exact ha
def m1B:Nat->List Int × Int × Int × List Int->Option (List Int × Int × Int × List Int):=fun k62 (l53,x56,x57,l58) =>
  (wAM (⟨l53,x56,x57⟩:wAI) 4).bind fun (x142,x143) =>
  (wAM x143 3).bind fun (x156,x157) =>
  (app 8 l58 [w64 ((w64 (300 * x142)) + x156)]).bind fun x175 =>
  some (x157.bytes,x157.next,x157.state,x175)
def m2B:Nat->List Int × Int × Int × List wAF->Option (List Int × Int × Int × List wAF):=fun k274 (l265,x268,x269,l270) =>
  (wAR (⟨l265,x268,x269⟩:wAI) 3 9).bind fun (x305,x306) =>
  (wAM x306 30).bind fun (x353,x354) =>
  (app 16 l270 [(⟨w64 (100 * x305),w64 ((w64 (100 * x305)) + (w64 (10 * x353)))⟩:wAF)]).bind fun x372 =>
  some (x354.bytes,x354.next,x354.state,x372)
def m3I (y282:List wAF):Nat->List Int × Int × Int × Int × List Int->Option (List Int × Int × Int × Int × List Int):=fun k541 (l532,x535,x536,x537,l538) =>
      (chk (↑k541:Int) y282.length).bind fun _ =>
      (wAR (⟨l532,x535,x536⟩:wAI) ((gd y282 k541).Lo) ((gd y282 k541).Hi)).bind fun (x589,x590) =>
      (app 8 l538 [w64 (x537 + x589)]).bind fun x609 =>
      some (x590.bytes,x590.next,x590.state,w64 (x537 + x589),x609)
def m3B (y70:List Int) (y282:List wAF):Nat->List Int × Int × Int × List (List Int)->Option (List Int × Int × Int × List (List Int)):=fun k460 (l450,x453,x454,l455) =>
  (chk (↑k460:Int) y70.length).bind fun _ =>
  (wBe 0 (↑y282.length:Int) (m3I y282) (l450,x453,x454,(gd y70 k460),[(gd y70 k460)])).bind fun (y546,y547,y548,y549,y550) =>
  (app 24 l455 [y550]).bind fun x672 =>
  some (y546,y547,y548,x672)
def m4B:Nat->List Int × Int × Int × List wAG × List Int->Option (List Int × Int × Int × List wAG × List Int):=fun k792 (l779,x782,x783,l784,l788) =>
  (wAR (⟨l779,x782,x783⟩:wAI) (-60) 20).bind fun (x826,x827) =>
  (wAM x827 50).bind fun (x840,x841) =>
  (wAM x841 6).bind fun (x854,x855) =>
  (app 24 l784 [(⟨(⟨x826,w64 (x826 + x840)⟩:wAF),x854⟩:wAG)]).bind fun x880 =>
  (wAR x855 x826 (w64 (x826 + x840))).bind fun (x888,x889) =>
  (app 8 l788 [x888]).bind fun x908 =>
  some (x889.bytes,x889.next,x889.state,x880,x908)
def m5B (y70:List Int) (y282:List wAF) (y468:List (List Int)) (y800:List wAG) (y801:List Int):Nat->List Int × Int × Int × List wAJ->Option (List Int × Int × Int × List wAJ):=fun k1736 (l1727,x1730,x1731,l1732) =>
  ((wAM (⟨l1727,x1730,x1731⟩:wAI) (↑y70.length:Int)).bind fun (x1833,x1834) =>
  (wAM x1834 (w64 ((↑y282.length:Int) + 1))).bind fun (x1847,x1848) =>
  (wAM x1848 (↑y800.length:Int)).bind fun (x1861,x1862) =>
  some (x1862.bytes,x1862.next,x1862.state,x1833,x1847,x1861)).bind fun (l1767,x1770,x1771,x1774,x1775,x1776) =>
  (chk x1776 y800.length).bind fun _ =>
  (idx y468 x1774).bind fun x2140 =>
  (idx x2140 x1775).bind fun x2156 =>
  (chk x1776 y801.length).bind fun _ =>
  (wAR (⟨l1767,x1770,x1771⟩:wAI) (w64 (-((gd y800 x1776.toNat).Error))) ((gd y800 x1776.toNat).Error)).bind fun (x2171,x2172) =>
  if (w64 (-((gd y800 x1776.toNat).Error))) <= (w64 ((w64 ((max 0 (w64 ((w64 (x2156 + (gd y801 x1776.toNat))) + x2171))) - x2156)) - (gd y801 x1776.toNat))) then
   if (w64 ((w64 ((max 0 (w64 ((w64 (x2156 + (gd y801 x1776.toNat))) + x2171))) - x2156)) - (gd y801 x1776.toNat))) <= ((gd y800 x1776.toNat).Error) then
    (app 32 l1732 [(⟨x1774,x1775,x1776,max 0 (w64 ((w64 (x2156 + (gd y801 x1776.toNat))) + x2171))⟩:wAJ)]).bind fun x2225 =>
    some (x2172.bytes,x2172.next,x2172.state,x2225)
   else
    some (x2172.bytes,x2172.next,x2172.state,l1732)
  else
   some (x2172.bytes,x2172.next,x2172.state,l1732)
theorem wIN (p0:wAI) (p1 p2 p3:Int):wBl p0 p1 p2 p3=(wAR p0 1 p1).bind fun (x10,x11) =>
 (wBe 0 x10 m1B (x11.bytes,x11.next,x11.state,[])).bind fun (y67,y68,y69,y70) =>
 (wAM (⟨y67,y68,y69⟩:wAI) p2).bind fun (x223,x224) =>
 (wBe 0 x223 m2B (x224.bytes,x224.next,x224.state,[])).bind fun (y279,y280,y281,y282) =>
 (wBe 0 (↑y70.length:Int) (m3B y70 y282) (y279,y280,y281,[])).bind fun (y465,y466,y467,y468) =>
 (wAR (⟨y465,y466,y467⟩:wAI) 1 3).bind fun (x726,x727) =>
 (wBe 0 x726 m4B (x727.bytes,x727.next,x727.state,[],[])).bind fun (y797,y798,y799,y800,y801) =>
 (wAM (⟨y797,y798,y799⟩:wAI) (w64 (p3 + 1))).bind fun (x1667,x1668) =>
 (wBe 0 x1667 (m5B y70 y282 y468 y800 y801) (x1668.bytes,x1668.next,x1668.state,[])).bind fun (y1741,y1742,y1743,y1744) =>
 some ((⟨y70,y282,y800,y1744⟩:wAE),y468,y801,(⟨y1741,y1742,y1743⟩:wAI)):=rfl
def M1 (n:Int) (k:Nat) (s:List Int × Int × Int × List Int):Prop:=0 <= s.2.1/\s.2.1 <= n + 2 * (k:Int)/\s.2.2.2.length=k/\∀ x ∈ s.2.2.2,0 <= x/\x <= 902
theorem wLX {n:Int} (n0:0 <= n) (n1:n <= 1000) {k:Nat} (hk:k < 10) {s:List Int × Int × Int × List Int} (I:M1 n k s):∃ s',m1B k s=some s'/\M1 n (k + 1) s':=by
 obtain ⟨b,nx,st,l⟩:=s
 obtain ⟨i0,i1,hl,he⟩:=I
 simp only at i0 i1 hl he
 unfold m1B
 simp only
 obtain ⟨x,d1,e1,p0,p1,x0,x1⟩:=wCE ⟨b,nx,st⟩ 4 i0 (by simp only;omega)
 obtain ⟨y,d2,e2,q0,q1,y0,y1⟩:=wCE d1 3 p0 (by simp only at p1;omega)
 simp only at p1
 rw [e1,hD]
 simp only
 rw [e2,hD]
 simp only
 rw [wAU (x:=300 * x) (by omega) (by omega),wAU (by omega) (by omega),wDt (by simp only [nA,nB];omega),hD]
 exact ⟨_,rfl,q0,by simp only;omega,by simp [hl],wHE he (by omega)⟩
def M2 (n:Int) (k:Nat) (s:List Int × Int × Int × List wAF):Prop:=0 <= s.2.1/\s.2.1 <= n + 2 * (k:Int)/\s.2.2.2.length=k/\∀ x ∈ s.2.2.2,300 <= x.Lo/\x.Lo <= x.Hi/\x.Hi <= 1190
theorem wLY {n:Int} (n0:0 <= n) (n1:n <= 1000) {k:Nat} (hk:k < 10) {s:List Int × Int × Int × List wAF} (I:M2 n k s):∃ s',m2B k s=some s'/\M2 n (k + 1) s':=by
 obtain ⟨b,nx,st,l⟩:=s
 obtain ⟨i0,i1,hl,he⟩:=I
 simp only at i0 i1 hl he
 unfold m2B
 simp only
 obtain ⟨x,d1,e1,p0,p1,x0,x1⟩:=wEu ⟨b,nx,st⟩ 3 9 i0 (by simp only;omega) (by omega) (by omega) (by omega)
 simp only at p1
 obtain ⟨y,d2,e2,q0,q1,y0,y1⟩:=wCE d1 30 p0 (by omega)
 rw [e1,hD]
 simp only
 rw [e2,hD]
 simp only
 rw [wAU (x:=100 * x) (by omega) (by omega),wAU (x:=10 * y) (by omega) (by omega),wAU (by omega) (by omega),wDt (by simp only [nA,nB];omega),hD]
 exact ⟨_,rfl,q0,by simp only;omega,by simp [hl],wHE he (by simp only;omega)⟩
structure RowI (sp:List wAF) (s0:Int) (j:Nat) (l:List Int):Prop where
 len:l.length=j + 1
 z:gd l 0=s0
 d:∀ i,i < j->(gd sp i).Lo <= gd l (i + 1) - gd l i/\gd l (i + 1) - gd l i <= (gd sp i).Hi
 b:∀ i,i < j + 1->0 <= gd l i/\gd l i <= 902 + 1190 * (i:Int)
def M3 (sp:List wAF) (s0 n:Int) (k:Nat) (s:List Int × Int × Int × Int × List Int):Prop:=0 <= s.2.1/\s.2.1 <= n + (k:Int)/\s.2.2.2.1=gd s.2.2.2.2 k/\RowI sp s0 k s.2.2.2.2
theorem wLZ {sp:List wAF} (hsp:∀ x ∈ sp,300 <= x.Lo/\x.Lo <= x.Hi/\x.Hi <= 1190) {s0 n:Int} (n0:0 <= n) (n1:n <= 1000) {k:Nat} (hk:k < sp.length) (hk2:k < 10) {s:List Int × Int × Int × Int × List Int} (I:M3 sp s0 n k s):∃ s',m3I sp k s=some s'/\M3 sp s0 n (k + 1) s':=by
 obtain ⟨b,nx,st,t,l⟩:=s
 obtain ⟨i0,i1,ht,R⟩:=I
 simp only at i0 i1 ht R
 have hs:=hsp _ (wBK hk)
 have hb:=R.b k (by omega)
 have hl:=R.len
 unfold m3I
 simp only
 obtain ⟨x,d1,e1,p0,p1,x0,x1⟩:=wEu ⟨b,nx,st⟩ (gd sp k).Lo (gd sp k).Hi i0 (by simp only;omega) (by omega) (by omega) (by omega)
 simp only at p1
 rw [wCy (by omega) (by omega),hD,e1,hD]
 simp only
 rw [wAU (x:=t + x) (by omega) (by omega),wDt (by simp only [nA,nB];omega),hD]
 have gk:gd (l ++ [t + x]) (k + 1)=t + x:=by rw [<- hl,wFm]
 refine ⟨_,rfl,p0,by simp only;omega,gk.symm,by simp [hl],?_,fun i hi=>?_,fun i hi=>?_⟩
 ·simp only
  rw [wDT (by omega)];exact R.z
 ·simp only
  by_cases c:i=k
  ·rw [c,gk,wDT (by omega)]
   omega
  ·rw [wDT (by omega),wDT (by omega)]
   exact R.d i (by omega)
 ·simp only
  by_cases c:i=k + 1
  ·rw [c,gk];omega
  ·rw [wDT (by omega)]
   exact R.b i (by omega)
def M3o (st:List Int) (sp:List wAF) (n:Int) (k:Nat) (s:List Int × Int × Int × List (List Int)):Prop:=0 <= s.2.1/\s.2.1 <= n + 10 * (k:Int)/\s.2.2.2.length=k/\∀ i,i < k->RowI sp (gd st i) sp.length (gd s.2.2.2 i)
theorem wKR {st:List Int} (hst:∀ x ∈ st,0 <= x/\x <= 902) {sp:List wAF} (hl:sp.length <= 9) (hsp:∀ x ∈ sp,300 <= x.Lo/\x.Lo <= x.Hi/\x.Hi <= 1190) {n:Int} (n0:0 <= n) (n1:n <= 800) {k:Nat} (hk:k < st.length) (hk2:k < 10) {s:List Int × Int × Int × List (List Int)} (I:M3o st sp n k s):∃ s',m3B st sp k s=some s'/\M3o st sp n (k + 1) s':=by
 obtain ⟨b,nx,se,l⟩:=s
 obtain ⟨i0,i1,hll,he⟩:=I
 simp only at i0 i1 hll he
 have hs:=hst _ (wBK hk)
 unfold m3B
 simp only
 obtain ⟨⟨b',nx',st',t',l'⟩,e,J0,J1,_,J⟩:=wDe (n:=sp.length) (body:=m3I sp) (s0:=(b,nx,se,gd st k,[gd st k])) (M3 sp (gd st k) nx) (by omega) ⟨i0,by simp only;omega,rfl,rfl,rfl,(fun i hi=>by omega),fun i hi=>by
  obtain rfl:i=0:=by omega
  show 0 <= gd st k/\gd st k <= _
  omega⟩ fun i s hi I=>wLZ hsp i0 (by omega) hi (by omega) I
 simp only at J0 J1 J
 rw [wCy (by omega) (by omega),hD,e,hD]
 simp only
 rw [wDt (by simp only [nA,nB];omega),hD]
 refine ⟨_,rfl,J0,by simp only;omega,by simp [hll],fun i hi=>?_⟩
 simp only
 by_cases c:i=k
 ·rw [c,show gd (l ++ [l']) k=l' by rw [<- hll,wFm]]
  exact J
 ·rw [wDT (by omega)]
  exact he i (by omega)
def ClkI (c:wAG) (o:Int):Prop:=-60 <= c.Offset.Lo/\c.Offset.Lo <= c.Offset.Hi/\c.Offset.Hi <= 70/\0 <= c.Error/\c.Error <= 5/\c.Offset.Lo <= o/\o <= c.Offset.Hi
def M4 (n:Int) (k:Nat) (s:List Int × Int × Int × List wAG × List Int):Prop:=0 <= s.2.1/\s.2.1 <= n + 4 * (k:Int)/\s.2.2.2.1.length=k/\s.2.2.2.2.length=k/\∀ i,i < k->ClkI (gd s.2.2.2.1 i) (gd s.2.2.2.2 i)
theorem wLa {n:Int} (n0:0 <= n) (n1:n <= 1000) {k:Nat} (hk:k < 10) {s:List Int × Int × Int × List wAG × List Int} (I:M4 n k s):∃ s',m4B k s=some s'/\M4 n (k + 1) s':=by
 obtain ⟨b,nx,st,l,o⟩:=s
 obtain ⟨i0,i1,hl,ho,he⟩:=I
 simp only at i0 i1 hl ho he
 unfold m4B
 simp only
 obtain ⟨a,d1,e1,p0,p1,a0,a1⟩:=wEu ⟨b,nx,st⟩ (-60) 20 i0 (by simp only;omega) (by omega) (by omega) (by omega)
 simp only at p1
 obtain ⟨y,d2,e2,q0,q1,y0,y1⟩:=wCE d1 50 p0 (by omega)
 obtain ⟨z,d3,e3,r0,r1,z0,z1⟩:=wCE d2 6 q0 (by omega)
 obtain ⟨v,d4,e4,s0,s1,v0,v1⟩:=wEu d3 a (a + y) r0 (by omega) (by omega) (by omega) (by omega)
 rw [e1,hD]
 simp only
 rw [e2,hD]
 simp only
 rw [e3,hD]
 simp only
 rw [wAU (x:=a + y) (by omega) (by omega),wDt (by simp only [nA,nB];omega),hD,e4,hD]
 simp only
 rw [wDt (by simp only [nA,nB];omega),hD]
 refine ⟨_,rfl,s0,by simp only;omega,by simp [hl],by simp [ho],fun i hi=>?_⟩
 simp only
 by_cases c:i=k
 ·have h1:gd (l ++ [(⟨⟨a,a + y⟩,z⟩:wAG)]) i=⟨⟨a,a + y⟩,z⟩:=by rw [c,<- hl,wFm]
  have h2:gd (o ++ [v]) i=v:=by rw [c,<- ho,wFm]
  rw [h1,h2]
  unfold ClkI
  simp only
  omega
 ·rw [wDT (by omega),wDT (by omega)]
  exact he i (by omega)
def RdI (n m c:Nat) (T:List (List Int)) (C:List wAG) (O:List Int) (x:wAJ):Prop :=
 (0 <= x.Skier/\x.Skier < n/\0 <= x.Mat/\x.Mat <= m/\0 <= x.Clock/\x.Clock < c)/\0 <= x.Time/\x.Time <= 100000/\-(gd C x.Clock.toNat).Error <= x.Time - gd (gd T x.Skier.toNat) x.Mat.toNat - gd O x.Clock.toNat/\x.Time - gd (gd T x.Skier.toNat) x.Mat.toNat - gd O x.Clock.toNat <= (gd C x.Clock.toNat).Error
def M5 (st:List Int) (sp:List wAF) (T:List (List Int)) (C:List wAG) (O:List Int) (n:Int) (k:Nat) (s:List Int × Int × Int × List wAJ):Prop:=0 <= s.2.1/\s.2.1 <= n + 4 * (k:Int)/\s.2.2.2.length <= k/\∀ x ∈ s.2.2.2,RdI st.length sp.length C.length T C O x
theorem wLb {st:List Int} {sp:List wAF} {T:List (List Int)} {C:List wAG} {O:List Int} (h1:1 <= st.length) (h2:st.length <= 10) (h3:sp.length <= 9) (hT:T.length=st.length) (hR:∀ i,i < st.length->RowI sp (gd st i) sp.length (gd T i)) (c1:1 <= C.length) (c2:C.length <= 10) (hO:O.length=C.length) (hC:∀ i,i < C.length->ClkI (gd C i) (gd O i)) {n:Int} (n0:0 <= n) (n1:n <= 1000) {k:Nat} (hk:k < 50) {s:List Int × Int × Int × List wAJ} (I:M5 st sp T C O n k s):∃ s',m5B st sp T C O k s=some s'/\M5 st sp T C O n (k + 1) s':=by
 obtain ⟨b,nx,se,l⟩:=s
 obtain ⟨i0,i1,hl,he⟩:=I
 simp only at i0 i1 hl he
 unfold m5B
 simp only
 obtain ⟨x,d1,e1,p0,p1,x0,x1⟩:=wCE ⟨b,nx,se⟩ (st.length:Int) i0 (by simp only;omega)
 simp only at p1
 obtain ⟨y,d2,e2,q0,q1,y0,y1⟩:=wCE d1 ((sp.length:Int) + 1) p0 (by omega)
 obtain ⟨z,d3,e3,r0,r1,z0,z1⟩:=wCE d2 (C.length:Int) q0 (by omega)
 have hx:x.toNat < st.length:=by omega
 have hz:z.toNat < C.length:=by omega
 obtain ⟨K1,K2,K3,K4,K5,K6,K7⟩:=hC z.toNat hz
 have R:=hR x.toNat hx
 have hb:=R.b y.toNat (by omega)
 have hlen:=R.len
 obtain ⟨v,d4,e4,s0,s1,v0,v1⟩:=wEu d3 (-(gd C z.toNat).Error) (gd C z.toNat).Error r0 (by omega) (by omega) (by omega) (by omega)
 rw [e1,hD]
 simp only
 rw [wAU (x:=(sp.length:Int) + 1) (by omega) (by omega),e2,hD]
 simp only
 rw [e3,hD,hD]
 simp only
 rw [wCy (by omega) (by omega),hD,wEA x0 (by omega),hD,wEA y0 (by omega),hD,wCy (by omega) (by omega),hD,wAU (x:=-(gd C z.toNat).Error) (by omega) (by omega),show (⟨d3.bytes,d3.next,d3.state⟩:wAI)=d3 from rfl,e4,hD]
 simp only
 rw [wAU (x:=gd (gd T x.toNat) y.toNat + gd O z.toNat) (by omega) (by omega),wAU (x:=gd (gd T x.toNat) y.toNat + gd O z.toNat + v) (by omega) (by omega),wAU (x:=max 0 (gd (gd T x.toNat) y.toNat + gd O z.toNat + v) - gd (gd T x.toNat) y.toNat) (by omega) (by omega),wAU (x:=_ - gd O z.toNat) (by omega) (by omega)]
 by_cases g1:-(gd C z.toNat).Error <= max 0 (gd (gd T x.toNat) y.toNat + gd O z.toNat + v) - gd (gd T x.toNat) y.toNat - gd O z.toNat
 ·rw [if_pos g1]
  by_cases g2:max 0 (gd (gd T x.toNat) y.toNat + gd O z.toNat + v) - gd (gd T x.toNat) y.toNat - gd O z.toNat <= (gd C z.toNat).Error
  ·rw [if_pos g2,wDt (by simp only [nA,nB];omega),hD]
   refine ⟨_,rfl,s0,by simp only;omega,by simp;omega,wHE he ⟨?_,?_,?_,g1,g2⟩⟩
   ·simp only;omega
   ·simp only;omega
   ·simp only;omega
  ·rw [if_neg g2]
   exact ⟨_,rfl,s0,by simp only;omega,by simp only;omega,he⟩
 ·rw [if_neg g1]
  exact ⟨_,rfl,s0,by simp only;omega,by simp only;omega,he⟩
theorem wKS {d:wAI} (h0:d.next=0) {u w q:Int} (u1:1 <= u) (u2:u <= 8) (w1:1 <= w) (w2:w <= 8) (q0:0 <= q) (q1:q <= 40):∃ r T O d',wBl d u w q=some (r,T,O,d')/\RC r/\Lens r T O/\wBt r (yT T O)/\(∀ x ∈ r.Starts,x <= 902)/\(∀ x ∈ r.Clocks,-60 <= x.Offset.Lo/\x.Offset.Hi <= 70)/\(∀ x ∈ r.Readings,x.Time <= 100000)/\(∀ x ∈ r.Splits,300 <= x.Lo/\x.Hi <= 1190)/\1 <= r.Clocks.length/\(∀ x ∈ r.Clocks,x.Error <= 5)/\(r.Readings.length:Int) <= q:=by
 rw [wIN]
 obtain ⟨x,d1,e1,m0,m1,x0,x1⟩:=wEu d 1 u (by omega) (by omega) (by omega) (by omega) (by omega)
 obtain ⟨n,rfl⟩:∃ n:Nat,x=n:=⟨x.toNat,by omega⟩
 obtain ⟨⟨b2,nx2,st2,S⟩,e2,a0,a1,hS,eS⟩:=wDe (n:=n) (body:=m1B) (s0:=(d1.bytes,d1.next,d1.state,[])) (M1 d1.next) (by omega) ⟨m0,by simp only;omega,rfl,by simp⟩ fun i s hi I=>wLX m0 (by omega) (by omega) I
 simp only at a0 a1 hS eS
 obtain ⟨y,d3,e3,b0,b1,y0,y1⟩:=wCE ⟨b2,nx2,st2⟩ w a0 (by simp only;omega)
 simp only at b1
 obtain ⟨m,rfl⟩:∃ n:Nat,y=n:=⟨y.toNat,by omega⟩
 obtain ⟨⟨b4,nx4,st4,P⟩,e4,c0,c1,hP,eP⟩:=wDe (n:=m) (body:=m2B) (s0:=(d3.bytes,d3.next,d3.state,[])) (M2 d3.next) (by omega) ⟨b0,by simp only;omega,rfl,by simp⟩ fun i s hi I=>wLY b0 (by omega) (by omega) I
 simp only at c0 c1 hP eP
 obtain ⟨⟨b5,nx5,st5,T⟩,e5,f0,f1,hT,eT⟩:=wDe (n:=S.length) (body:=m3B S P) (s0:=(b4,nx4,st4,[])) (M3o S P nx4) (by omega) ⟨c0,by simp only;omega,rfl,fun i hi=>by omega⟩ fun i s hi I=>wKR eS (by omega) eP c0 (by omega) hi (by omega) I
 simp only at f0 f1 hT eT
 obtain ⟨z,d6,e6,g0,g1,z0,z1⟩:=wEu ⟨b5,nx5,st5⟩ 1 3 f0 (by simp only;omega) (by omega) (by omega) (by omega)
 simp only at g1
 obtain ⟨c,rfl⟩:∃ n:Nat,z=n:=⟨z.toNat,by omega⟩
 obtain ⟨⟨b7,nx7,st7,C,O⟩,e7,k0,k1,hC,hO,eC⟩:=wDe (n:=c) (body:=m4B) (s0:=(d6.bytes,d6.next,d6.state,[],[])) (M4 d6.next) (by omega) ⟨g0,by simp only;omega,rfl,rfl,fun i hi=>by omega⟩ fun i s hi I=>wLa g0 (by omega) (by omega) I
 simp only at k0 k1 hC hO eC
 obtain ⟨v,d8,e8,l0,l1,v0,v1⟩:=wCE ⟨b7,nx7,st7⟩ (q + 1) k0 (by simp only;omega)
 simp only at l1
 obtain ⟨h,rfl⟩:∃ n:Nat,v=n:=⟨v.toNat,by omega⟩
 have hTl:T.length=S.length:=by omega
 obtain ⟨⟨b9,nx9,st9,R⟩,e9,_,_,hR,eR⟩:=wDe (n:=h) (body:=m5B S P T C O) (s0:=(d8.bytes,d8.next,d8.state,[])) (M5 S P T C O d8.next) (by omega) ⟨l0,by simp only;omega,nY _,by simp⟩ fun i s hi I=>wLb (by omega) (by omega) (by omega) hTl (fun i hi=>eT i (by omega)) (by omega) (by omega) (by omega) (fun i hi=>eC i (by omega)) l0 (by omega) (by omega) I
 simp only at hR eR
 rw [e1,hD]
 simp only
 rw [e2,hD]
 simp only
 rw [e3,hD]
 simp only
 rw [e4,hD]
 simp only
 rw [e5,hD]
 simp only
 rw [e6,hD]
 simp only
 rw [e7,hD]
 simp only
 rw [wAU (x:=q + 1) (by omega) (by omega),e8,hD]
 simp only
 rw [e9,hD]
 have hck:∀ x ∈ C,∃ o,ClkI x o:=fun x hx=>by
  obtain ⟨i,hi,rfl⟩:=wGh hx
  exact ⟨_,eC i (by omega)⟩
 have RR:RC ⟨S,P,C,R⟩:=⟨⟨by simp only;omega,by simp only;omega⟩,by simp only;omega,by simp only;omega,by simp only;omega,(fun s hs=>by have:=eS s hs;omega),(fun s hs=>by have:=eP s hs;omega),(fun s hs=>by
  obtain ⟨o,h1,h2,h3,h4,h5,h6,h7⟩:=hck s hs
  exact ⟨⟨h2,by omega,by omega⟩,h4,by omega⟩),(fun x hx=>by have:=eR x hx;exact ⟨this.2.1,by have:=this.2.2.1;omega⟩),fun x hx=>(eR x hx).1⟩
 refine ⟨⟨S,P,C,R⟩,T,O,_,rfl,RR,⟨hTl,fun k hk=>(eT k hk).len,by simp only;omega⟩,(wKP RR).2 ⟨?_,?_,?_⟩,fun x hx=>(eS x hx).2,fun x hx=>?_,fun x hx=>(eR x hx).2.2.1,fun x hx=>⟨(eP x hx).1,(eP x hx).2.2⟩,by simp only;omega,fun x hx=>by
  obtain ⟨o,_,_,_,_,h5,_⟩:=hck x hx
  exact h5,by simp only;omega⟩
 ·rw [wDu]
  intro i _ hi
  have hi:i < S.length:=by simp only at hi;omega
  have Q:=eT i hi
  unfold wMV
  rw [nL,decide_eq_true_eq,wDu]
  refine ⟨Q.z,fun j _ hj=>?_⟩
  unfold inB
  rw [decide_eq_true_eq]
  exact Q.d j (by simp only at hj;omega)
 ·rw [wDu]
  intro i _ hi
  have Q:=eC i (by simp only at hi;omega)
  unfold clkS inB
  rw [decide_eq_true_eq]
  exact ⟨Q.2.2.2.2.2.1,Q.2.2.2.2.2.2⟩
 ·rw [wDu]
  intro i _ hi
  have Q:=eR _ (wBK (l:=R) (k:=i) (by simp only at hi;omega))
  unfold redS inB
  rw [decide_eq_true_eq]
  exact ⟨Q.2.2.2.1,Q.2.2.2.2⟩
 ·obtain ⟨o,h1,h2,h3,_⟩:=hck x hx
  exact ⟨h1,h3⟩
end Go.Proofs.Ytlnfbjphfoipaaa
namespace Go.Proofs.Ytlnfbjphfoipaaa
open Go.KL
theorem wIO {l:List Int} (b:Int) (hn:l.length <= 1000):wAq l b=some (decide (b ∈ l)):=by
 have key:∀ (m k:Nat),k + m=l.length->∃ q,jn (forN (B:=Int) (fun k2 _ =>
   (idx l (↑k2:Int)).bind fun x22 =>
   if b=x22 then
    esc (some (↑k2:Int))
   else
    some (.inl ())) m k ()) (fun _=>some (-1))=some q/\(0 <= q ↔ b ∈ l.drop k):=by
  intro m
  induction m with
  | zero=>intro k hk;exact ⟨-1,rfl,by rw [List.drop_eq_nil_of_le (by omega)];simp⟩
  | succ m ih =>
   intro k hk
   have hlt:k < l.length:=by omega
   rw [forN,wLP hlt,wGy hlt,hD]
   by_cases e:b=gd l k
   ·rw [if_pos e]
    exact ⟨(k:Int),rfl,by simp [e]⟩
   ·rw [if_neg e]
    obtain ⟨q,h1,h2⟩:=ih (k + 1) (by omega)
    exact ⟨q,h1,by rw [h2];simp [e]⟩
 unfold wAq wBr
 obtain ⟨q,h1,h2⟩:=key l.length 0 (by omega)
 rw [wEE (by omega),h1,hD]
 rw [List.drop_zero] at h2
 simp [h2]
end Go.Proofs.Ytlnfbjphfoipaaa
namespace Go.Proofs.Ytlnfbjphfoipaaa
open Go.KL Go.KL.Net
open Classical
def Wc (c d:wAG):Prop:=(c.Offset.Lo - 8 <= d.Offset.Lo/\d.Offset.Lo <= c.Offset.Lo)/\(c.Offset.Hi <= d.Offset.Hi/\d.Offset.Hi <= c.Offset.Hi + 8)/\c.Error <= d.Error/\d.Error <= c.Error + 8
def Ws (c d:wAF):Prop:=(c.Lo - 8 <= d.Lo/\d.Lo <= c.Lo)/\c.Hi <= d.Hi/\d.Hi <= c.Hi + 8
theorem Wc.refl (c:wAG):Wc c c:=⟨⟨by omega,by omega⟩,⟨by omega,by omega⟩,by omega,by omega⟩
theorem Ws.refl (c:wAF):Ws c c:=⟨⟨by omega,by omega⟩,by omega,by omega⟩
theorem wLc {r:wAE} (C:RC r) (hs:∀ x ∈ r.Splits,300 <= x.Lo/\x.Hi <= 1190) (hc:∀ x ∈ r.Clocks,-60 <= x.Offset.Lo/\x.Offset.Hi <= 70) (he:∀ x ∈ r.Clocks,x.Error <= 500) {P:List wAF} {K:List wAG} (hP:P.length=r.Splits.length) (hK:K.length=r.Clocks.length) (wP:∀ j,j < P.length->Ws (gd r.Splits j) (gd P j)) (wK:∀ j,j < K.length->Wc (gd r.Clocks j) (gd K j)):RC ⟨r.Starts,P,K,r.Readings⟩/\∀ y,wBt r y->wBt ⟨r.Starts,P,K,r.Readings⟩ y:=by
 constructor
 ·refine ⟨C.n,by simp only;rw [hP];exact C.m,by simp only;rw [hK];exact C.c,C.q,C.st,fun x hx=>?_,fun x hx=>?_,C.rt,fun x hx=>?_⟩
  ·obtain ⟨k,hk,rfl⟩:=wGh hx
   simp only at hk
   have a:=wP k hk
   have b:=hs _ (wBK (show k < r.Splits.length by omega))
   have c:=C.sp _ (wBK (show k < r.Splits.length by omega))
   obtain ⟨⟨a1,a2⟩,a3,a4⟩:=a
   simp only
   exact ⟨by omega,by omega,by omega⟩
  ·obtain ⟨k,hk,rfl⟩:=wGh hx
   simp only at hk
   obtain ⟨⟨a1,a2⟩,⟨a3,a4⟩,a5,a6⟩:=wK k hk
   have b:=hc _ (wBK (show k < r.Clocks.length by omega))
   have c:=C.ck _ (wBK (show k < r.Clocks.length by omega))
   have e:=he _ (wBK (show k < r.Clocks.length by omega))
   simp only
   exact ⟨⟨by omega,by omega,by omega⟩,by omega,by omega⟩
  ·simp only
   rw [hP,hK]
   exact C.ru x hx
 ·intro y F
  rw [wHl] at F ⊢
  refine ⟨F.a,fun s k hs' hk=>?_,fun k hk=>?_,fun x hx=>?_⟩
  ·simp only at hk ⊢
   have:=F.b s k hs' (by omega)
   obtain ⟨⟨a1,a2⟩,a3,a4⟩:=wP k hk
   omega
  ·simp only at hk ⊢
   have:=F.c k (by omega)
   obtain ⟨⟨a1,a2⟩,⟨a3,a4⟩,a5,a6⟩:=wK k hk
   omega
  ·have u:=C.ru x hx
   have:=F.d x hx
   obtain ⟨⟨a1,a2⟩,⟨a3,a4⟩,a5,a6⟩:=wK x.Clock.toNat (by omega)
   simp only
   omega
def wFp (f:Nat->Int):Nat->Int
 | 0=>0
 | k + 1=>wFp f k + f k
def yB (r:wAE) (f:Nat->Int) (p:Pt):Int:=if p.skier=-1 then (if p.mat=0 then 0 else -(gd r.Clocks (p.mat - 1).toNat).Offset.Lo) else gd r.Starts p.skier.toNat + wFp f p.mat.toNat
theorem wHm {r:wAE} (C:RC r) {f:Nat->Int} (hf:∀ k,k < r.Splits.length->(gd r.Splits k).Lo <= f k/\f k <= (gd r.Splits k).Hi):wBt (wr r []) (yB r f):=by
 rw [wHl]
 have ys:∀ (s:Nat) (k:Nat),yB r f ⟨(s:Int),(k:Int)⟩=gd r.Starts s + wFp f k:=fun s k=>by
  unfold yB
  rw [if_neg (by simp only;omega)]
  simp only [hJ]
 have yz:yB r f zp=0:=rfl
 have yc:∀ k:Nat,yB r f ⟨-1,1 + (k:Int)⟩=-(gd r.Clocks k).Offset.Lo:=fun k=>by
  unfold yB
  rw [if_pos rfl,if_neg (by simp only;omega),show ((1:Int) + (k:Int) - 1).toNat=k by omega]
 refine ⟨fun s hs=>?_,fun s k hs hk=>?_,fun k hk=>?_,fun x hx=>by cases hx⟩
 ·have:=ys s 0
  rw [yz]
  rw [show ((0:Nat):Int)=0 from rfl] at this
  rw [this]
  simp only [wr,wFp]
  omega
 ·have:=hf k hk
  have h1:=ys s (k + 1)
  rw [show ((k + 1:Nat):Int)=(k:Int) + 1 by omega] at h1
  rw [h1,ys s k,wFp]
  simp only [wr]
  omega
 ·have c:=C.ck _ (wBK hk)
  rw [yc,yz]
  simp only [wr] at c ⊢
  omega
theorem wHF {r:wAE} {y:Pt->Int} (F:wBt (wr r []) y) {s:Nat} (hs:s < r.Starts.length):∀ k:Nat,k <= r.Splits.length->y zp + gd r.Starts s + wFp (fun j=>(gd r.Splits j).Lo) k <= y ⟨(s:Int),(k:Int)⟩/\y ⟨(s:Int),(k:Int)⟩ <= y zp + gd r.Starts s + wFp (fun j=>(gd r.Splits j).Hi) k
 | 0,_=>by
  have:=(wHl.1 F).a s hs
  simp only [wr] at this
  rw [show ((0:Nat):Int)=0 from rfl,this]
  simp only [wFp]
  omega
 | k + 1,h=>by
  have a:=wHF F hs k (by omega)
  have b:=(wHl.1 F).b s k hs (by simp only [wr];omega)
  simp only [wr] at b
  rw [show ((k + 1:Nat):Int)=(k:Int) + 1 by omega]
  simp only [wFp]
  omega
theorem wLd {r:wAE} (C:RC r) {s m:Nat} (hs:s < r.Starts.length) (hm:m <= r.Splits.length) {f g:Pt->Int} (hf:IsDP (wr r []) zp f) (hg:IsDP (wr r []) ⟨(s:Int),(m:Int)⟩ g):-g zp=gd r.Starts s + wFp (fun j=>(gd r.Splits j).Lo) m/\f ⟨(s:Int),(m:Int)⟩=gd r.Starts s + wFp (fun j=>(gd r.Splits j).Hi) m:=by
 have sp:∀ k,k < r.Splits.length->(gd r.Splits k).Lo <= (gd r.Splits k).Hi:=fun k hk=>(C.sp _ (wBK hk)).1
 have F1:=wHm C (f:=fun j=>(gd r.Splits j).Lo) fun k hk=>⟨nn _,sp k hk⟩
 have F2:=wHm C (f:=fun j=>(gd r.Splits j).Hi) fun k hk=>⟨sp k hk,nn _⟩
 have op:wFO (wr r []) ⟨(s:Int),(m:Int)⟩:=.inr (.inl ⟨by simp only;omega,by simp only [wr];omega,by simp only;omega,by simp only [wr];omega⟩)
 have ys:∀ f:Nat->Int,yB r f ⟨(s:Int),(m:Int)⟩=gd r.Starts s + wFp f m:=fun f=>by
  unfold yB
  rw [if_neg (by simp only;omega)]
  simp only [hJ]
 have yz:∀ f:Nat->Int,yB r f zp=0:=fun f=>rfl
 have a1:=hf.gr _ F2 _ op
 have a2:=(wHF hf.ok hs m hm).2
 have a3:=hf.zero
 have b1:=hg.gr _ F1 zp (.inl rfl)
 have b2:=(wHF hg.ok hs m hm).1
 have b3:=hg.zero
 rw [ys,yz] at a1 b1
 omega
def lsR (r:wAE) (k:Nat):wAE:=wr r (wHD (fun i=>decide (k=i)) r.Readings r.Readings.length)
theorem wIo {r:wAE} {k:Nat} {y:Pt->Int} (F:wBt r y):wBt (lsR r k) y:=by
 have F:wBt (wr r r.Readings) y:=F
 exact wGE (fun x hx=>by
  obtain ⟨i,hi,_,rfl⟩:=wFo.1 hx
  exact wBK hi) F
theorem wKx {r:wAE} {k:Nat} (hk:k < r.Readings.length) (y:Pt->Int):wBt (wr r (r.Readings.take k ++ r.Readings.drop (k + 1))) y ↔ wBt (lsR r k) y:=by
 have key:∀ x,x ∈ r.Readings.take k ++ r.Readings.drop (k + 1) ↔ x ∈ wHD (fun i=>decide (k=i)) r.Readings r.Readings.length:=fun x=>by
  rw [wFo,nH,List.mem_take_iff_getElem,List.mem_drop_iff_getElem]
  constructor
  ·rintro (⟨i,hi,rfl⟩ | ⟨i,hi,rfl⟩)
   ·exact ⟨i,by omega,decide_eq_false (by omega),(wHA (by omega)).symm⟩
   ·exact ⟨k + 1 + i,by omega,decide_eq_false (by omega),(wHA (by omega)).symm⟩
  ·rintro ⟨i,hi,h,rfl⟩
   have h:=of_decide_eq_false h
   rcases Nat.lt_or_ge i k with c | c
   ·exact .inl ⟨i,by omega,(wHA hi).symm⟩
   ·exact .inr ⟨i - (k + 1),by omega,by rw [wHA hi];congr 1;omega⟩
 exact ⟨fun F=>wGE (fun x hx=>(key x).2 hx) F,fun F=>wGE (fun x hx=>(key x).1 hx) F⟩
theorem most2 (a b:Int):wDi [a,b]=some (max a b):=by
 unfold wDi wCF
 rw [if_neg (by simp),show idx [a,b] 0=some a from rfl,hD]
 unfold wBe
 rw [if_pos (by simp),show ((([a,b]:List Int).length:Int) - 1).toNat=1 from rfl]
 simp only [forN',show idx [a,b] (1 + ((0:Nat):Int))=some b from rfl,hD]
def mtL (c:Nat->Bool) (k:Nat):List Int:=((nR k).filter c).map fun (j:Nat)=>(j:Int)
theorem mtL_s (c:Nat->Bool) (k:Nat):mtL c (k + 1)=if c k=true then mtL c k ++ [(k:Int)] else mtL c k:=by
 unfold mtL
 rw [List.range_succ,kB,nm]
 by_cases h:c k=true
 ·rw [if_pos h];simp [h]
 ·rw [if_neg h];simp [h]
theorem wJr (c:Nat->Bool) (k:Nat):(mtL c k).length <= k:=by
 unfold mtL
 rw [na]
 have:=nq c (nR k)
 rwa [kE] at this
theorem wLe {c:Nat->Bool} {n k:Nat} (hk:k < n):(k:Int) ∈ mtL c n ↔ c k=true:=by
 unfold mtL
 simp only [nQ,List.mem_filter,np]
 constructor
 ·rintro ⟨j,⟨_,h⟩,e⟩
  have:j=k:=by omega
  exact this ▸ h
 ·exact fun h=>⟨k,⟨hk,h⟩,rfl⟩
theorem wJs {r:wAE} (S:wFN r) {s:wAP} (c:wGk r [s]=0) {f g:Pt->Int} (hf:IsDP r zp f) (hg:IsDP r (pt s) g) {F G:Nat->Pt->Int} (hF:∀ k,k < r.Readings.length->IsDP (lsR r k) zp (F k)) (hG:∀ k,k < r.Readings.length->IsDP (lsR r k) (pt s) (G k)):wCk r s=some (mtL (fun k=>decide (0 < max (-g zp - -G k zp) (F k (pt s) - f (pt s)))) r.Readings.length,0):=by
 have hq:=S.q
 unfold wCk
 obtain ⟨o,e,h0,_⟩:=wIl S (l:=[s]) (by simp)
 obtain ⟨d,pts,rfl,D⟩:=h0 c
 obtain ⟨C,_,hs,hy⟩:=err0 c
 simp only [nw,kA,Bool.and_true] at hs
 have hp:=(wHC (r:=r) (s:=s) hs).1
 have nf:=hf.near C (.inl rfl) hp
 have ng:=hg.near C hp (p:=zp) (.inl rfl)
 rw [e,hD]
 simp only
 rw [if_pos c]
 have ez:wBN=some zp:=rfl
 have ea:wBn s=some (pt s):=rfl
 rw [ez,ea,hD,hD,wFb D hy (.inl rfl) hp hf hg,hD,hD]
 simp only
 rw [wHe (S:=List Int) (n:=r.Readings.length) (fun k=>mtL (fun k=>decide (0 < max (-g zp - -G k zp) (F k (pt s) - f (pt s)))) k) (s0:=[]) rfl (by omega) fun k hk=>?_]
 ·rfl
 ·obtain ⟨d2,pts2,e2,D2⟩:=wJF C (g:=fun x=>wBZ x.1 x.2 (k:Int)) (q:=fun i=>decide (k=i)) (fun i hi=>by
   have hd:decide ((i:Int)=(k:Int))=decide (k=i):=decide_eq_decide.2 ⟨fun h=>by omega,fun h=>by omega⟩
   exact congrArg some hd)
  have sm:=wII r (wHD (fun i=>decide (k=i)) r.Readings r.Readings.length)
  have hp2:=(sm.pt (p:=pt s)).2 hp
  have eb2:=wFb D2 (hy.elim fun y F=>⟨y,wIo F⟩) (.inl rfl) hp2 (hF k hk) (hG k hk)
  have nF:=(hF k hk).near D2.c (.inl rfl) hp2
  have nG:=(hG k hk).near D2.c hp2 (p:=zp) (.inl rfl)
  have ml:=wJr (fun k=>decide (0 < max (-g zp - -G k zp) (F k (pt s) - f (pt s)))) k
  rw [e2,hD,hD,hD,eb2,hD,hD]
  simp only
  rw [wAU (by omega) (by omega),wAU (by omega) (by omega),most2,hD,mtL_s]
  by_cases h:0 < max (-g zp - -G k zp) (F k (pt s) - f (pt s))
  ·rw [if_pos h,if_pos (decide_eq_true h),wDt (by simp only [nA,nB];omega),hD]
  ·rw [if_neg h,if_neg (by simpa using h)]
end Go.Proofs.Ytlnfbjphfoipaaa
namespace Go.Proofs.Ytlnfbjphfoipaaa
open Go.KL Go.KL.Net
theorem wKT {r:wAE} (S:wFN r):wAk r=some r:=by
 have hn:=S.n;have hm:=S.m;have hc:=S.c;have hq:=S.q
 unfold wAk wBq wBM wBC wAy
 rw [wDt (by simp only [nB];omega),hD,hD,wDt (by simp only [nB];omega),hD,hD,wDt (by simp only [nB];omega),hD,hD,wDt (by simp only [nB];omega)]
 rfl
end Go.Proofs.Ytlnfbjphfoipaaa
namespace Go.Proofs.Ytlnfbjphfoipaaa
set_option maxRecDepth 100000 in
theorem aw06:wBf=some true:=by decide +kernel
end Go.Proofs.Ytlnfbjphfoipaaa
namespace Go.Proofs.Ytlnfbjphfoipaaa
open Go.KL Go.KL.Net
open Classical
theorem ind4 {β:Type} {body:Nat->β->Option β} {n:Nat} {s0:β} (I:Nat->β->Prop) {R:β->Prop} (hn:n <= 1000) (h0:I 0 s0) (h:∀ i s,i < n->I i s->∃ s',body i s=some s'/\I (i + 1) s') (hR:∀ s,I n s->R s):∃ s,wBe 0 (n:Int) body s0=some s/\R s:=by
 obtain ⟨s,e,hs⟩:=wGl I hn h0 h
 exact ⟨s,e,hR s hs⟩
theorem wideK {l:List wAG} (hl:l.length <= 10) (hb:∀ j,j < l.length->(-1000 <= (gd l j).Offset.Lo/\(gd l j).Offset.Lo <= 1000)/\(-1000 <= (gd l j).Offset.Hi/\(gd l j).Offset.Hi <= 1000)/\0 <= (gd l j).Error/\(gd l j).Error <= 1000) {b:List Int} {n st:Int} (n0:0 <= n) (n1:n <= 1000):∃ s,wBe 0 (↑l.length:Int) (fun (k1091:Nat) ((l1085,x1088,x1089,l1090):List Int × Int × Int × List wAG) =>
      (chk (↑k1091:Int) l1090.length).bind fun _ =>
      (wAM (⟨l1085,x1088,x1089⟩:wAI) 9).bind fun (x1151,x1152) =>
      (wAM x1152 9).bind fun (x1215,x1216) =>
      (wAM x1216 9).bind fun (x1229,x1230) =>
      some (x1230.bytes,x1230.next,x1230.state,(hH (hH l1090 k1091 (⟨((gd l1090 k1091).Offset),w64 (((gd l1090 k1091).Error) + x1151)⟩:wAG)) k1091 (⟨(⟨w64 ((((gd (hH l1090 k1091 (⟨((gd l1090 k1091).Offset),w64 (((gd l1090 k1091).Error) + x1151)⟩:wAG)) k1091).Offset).Lo) - x1215),w64 ((((gd (hH l1090 k1091 (⟨((gd l1090 k1091).Offset),w64 (((gd l1090 k1091).Error) + x1151)⟩:wAG)) k1091).Offset).Hi) + x1229)⟩:wAF),(gd (hH l1090 k1091 (⟨((gd l1090 k1091).Offset),w64 (((gd l1090 k1091).Error) + x1151)⟩:wAG)) k1091).Error⟩:wAG)))) (b,n,st,l)=some s/\s.2.2.2.length=l.length/\(∀ j,j < l.length->Wc (gd l j) (gd s.2.2.2 j))/\0 <= s.2.1/\s.2.1 <= n + 30:=by
  refine ind4 (I:=fun (k:Nat) (s:List Int × Int × Int × List wAG)=>s.2.2.2.length=l.length/\(0 <= s.2.1/\s.2.1 <= n + 3 * (k:Int))/\(∀ j,j < l.length->Wc (gd l j) (gd s.2.2.2 j))/\∀ j,k <= j->j < l.length->gd s.2.2.2 j=gd l j) (by omega) ⟨rfl,⟨n0,by simp only;omega⟩,fun j _=>Wc.refl _,fun _ _ _=>rfl⟩ (by
      rintro k ⟨c,x,st,m⟩ hk ⟨a1,⟨a2,a3⟩,a4,a5⟩
      simp only at a1 a2 a3 a4 a5 ⊢
      obtain ⟨x1,d1,e1,p0,p1,u0,u1⟩:=wCE ⟨c,x,st⟩ 9 a2 (by simp only;omega)
      simp only at p1
      obtain ⟨x2,d2,e2,q0,q1,v0,v1⟩:=wCE d1 9 p0 (by omega)
      obtain ⟨x3,d3,e3,r0,r1,w0,w1⟩:=wCE d2 9 q0 (by omega)
      have hb:=hb k hk
      have g:=a5 k (nY _) hk
      rw [wCy (by omega) (by omega),hD,e1,hD]
      simp only
      rw [e2,hD]
      simp only
      rw [e3,hD]
      simp only
      rw [wEn (by omega) (by omega),if_pos rfl,g,List.set_set]
      simp only
      rw [wAU (by omega) (by omega),wAU (by omega) (by omega),wAU (by omega) (by omega)]
      refine ⟨_,rfl,by simp only [nX];exact a1,⟨r0,by simp only;omega⟩,fun j hj=>?_,fun j h1 h2=>?_⟩
      · simp only
        rw [wEn (by omega) (by omega)]
        by_cases cj:j=k
        · rw [if_pos cj,cj]
          exact ⟨⟨by simp only;omega,by simp only;omega⟩,⟨by simp only;omega,by simp only;omega⟩,by simp only;omega,by simp only;omega⟩
        · rw [if_neg cj];exact a4 j hj
      · simp only
        rw [wEn (by omega) (by omega),if_neg (by omega)]
        exact a5 j (by omega) h2)
    (fun s ⟨h1,h2,h3,_⟩=>⟨h1,h3,h2.1,by omega⟩)
theorem wideP {l:List wAF} (hl:l.length <= 10) (hb:∀ j,j < l.length->(-1000000 <= (gd l j).Lo/\(gd l j).Lo <= 1000000)/\(-1000000 <= (gd l j).Hi/\(gd l j).Hi <= 1000000)) {b:List Int} {n st:Int} (n0:0 <= n) (n1:n <= 2000):∃ s,wBe 0 (↑l.length:Int) (fun (k1305:Nat) ((l1299,x1302,x1303,l1304):List Int × Int × Int × List wAF) =>
      (chk (↑k1305:Int) l1304.length).bind fun _ =>
      (wAM (⟨l1299,x1302,x1303⟩:wAI) 9).bind fun (x1371,x1372) =>
      (chk (↑k1305:Int) (hH l1304 k1305 (⟨w64 (((gd l1304 k1305).Lo) - x1371),(gd l1304 k1305).Hi⟩:wAF)).length).bind fun _ =>
      (wAM x1372 9).bind fun (x1422,x1423) =>
      some (x1423.bytes,x1423.next,x1423.state,(hH (hH l1304 k1305 (⟨w64 (((gd l1304 k1305).Lo) - x1371),(gd l1304 k1305).Hi⟩:wAF)) k1305 (⟨(gd (hH l1304 k1305 (⟨w64 (((gd l1304 k1305).Lo) - x1371),(gd l1304 k1305).Hi⟩:wAF)) k1305).Lo,w64 (((gd (hH l1304 k1305 (⟨w64 (((gd l1304 k1305).Lo) - x1371),(gd l1304 k1305).Hi⟩:wAF)) k1305).Hi) + x1422)⟩:wAF)))) (b,n,st,l)=some s/\s.2.2.2.length=l.length/\∀ j,j < l.length->Ws (gd l j) (gd s.2.2.2 j):=by
  refine ind4 (I:=fun (k:Nat) (s:List Int × Int × Int × List wAF)=>s.2.2.2.length=l.length/\(0 <= s.2.1/\s.2.1 <= n + 3 * (k:Int))/\(∀ j,j < l.length->Ws (gd l j) (gd s.2.2.2 j))/\∀ j,k <= j->j < l.length->gd s.2.2.2 j=gd l j) (by omega) ⟨rfl,⟨n0,by simp only;omega⟩,fun j _=>Ws.refl _,fun _ _ _=>rfl⟩ (by
      rintro k ⟨c,x,st,m⟩ hk ⟨a1,⟨a2,a3⟩,a4,a5⟩
      simp only at a1 a2 a3 a4 a5 ⊢
      obtain ⟨x1,d1,e1,p0,p1,u0,u1⟩:=wCE ⟨c,x,st⟩ 9 a2 (by simp only;omega)
      simp only at p1
      obtain ⟨x2,d2,e2,q0,q1,v0,v1⟩:=wCE d1 9 p0 (by omega)
      have hb:=hb k hk
      have g:=a5 k (nY _) hk
      rw [wCy (by omega) (by omega),hD,e1,hD]
      simp only
      rw [wCy (by omega) (by rw [nX];omega),hD,e2,hD]
      simp only
      rw [wEn (by omega) (by omega),if_pos rfl,g,List.set_set]
      simp only
      rw [wAU (by omega) (by omega),wAU (by omega) (by omega)]
      refine ⟨_,rfl,by simp only [nX];exact a1,⟨q0,by simp only;omega⟩,fun j hj=>?_,fun j h1 h2=>?_⟩
      · simp only
        rw [wEn (by omega) (by omega)]
        by_cases cj:j=k
        · rw [if_pos cj,cj]
          exact ⟨⟨by simp only;omega,by simp only;omega⟩,by simp only;omega,by simp only;omega⟩
        · rw [if_neg cj];exact a4 j hj
      · simp only
        rw [wEn (by omega) (by omega),if_neg (by omega)]
        exact a5 j (by omega) h2)
    (fun s ⟨h1,_,h3,_⟩=>⟨h1,h3⟩)
theorem wKU {r:wAE} (C:RC r) (d:wAI) (h0:0 <= d.next) (h1:d.next <= 1000):∃ s d',wBT d r=some (s,d')/\wFj r s=true/\0 <= d'.next/\d'.next <= d.next + 2:=by
 have hn:=C.n;have hm:=C.m
 obtain ⟨x,d5,e8,z0,z1,u0,u1⟩:=wCE d (r.Starts.length:Int) h0 (by omega)
 obtain ⟨m,d6,e9,w0,w1,v0,v1⟩:=wCE d5 ((r.Splits.length:Int) + 1) z0 (by omega)
 refine ⟨⟨x,m⟩,d6,?_,?_,w0,by omega⟩
 ·unfold wBT
  rw [e8,hD]
  simp only
  rw [wAU (by omega) (by omega),e9,hD]
  rfl
 ·simp only [wFj,inB,nL,decide_eq_true_eq]
  omega
theorem shM {r:wAE} (C:RC r):wFN r:=by
 have hn:=C.n;have hm:=C.m;have hc:=C.c;have hq:=C.q
 exact ⟨by omega,by omega,by omega,by omega⟩
theorem wHn {r:wAE} (C:RC r) (hy:∃ y,wBt r y) {s:wAP} (hs:wFj r s=true):∃ f g,IsDP r zp f/\IsDP r (pt s) g/\wAZ r s=some (⟨-g zp,f (pt s)⟩,0):=by
 have c:=wIM C
 obtain ⟨f,hf⟩:=wKw (shM C) c hy (a:=zp) (.inl rfl)
 obtain ⟨g,hg⟩:=wKw (shM C) c hy (wHC hs).1
 exact ⟨f,g,hf,hg,(wIm (shM C) s).2 (by unfold wGk;rw [if_pos c,if_pos (by simp [hs]),if_pos hy]) f g hf hg⟩
theorem wMW {α β:Type} {c:Prop} [Decidable c] {x:Option α} {v:α} {F:α->Option β} {z:β} (Good:α->Prop) (h1:c->∃ w,x=some w/\Good w) (h2:¬ c->Good v) (h3:∀ w,Good w->F w=some z):(if c then x.bind F else F v)=some z:=by
 by_cases h:c
 ·obtain ⟨w,e,hw⟩:=h1 h
  rw [if_pos h,e,hD,h3 w hw]
 ·rw [if_neg h,h3 v (h2 h)]
theorem wKV (p0 p1:List Int):wBi p0 p1=some true:=by
 unfold wBi
 obtain ⟨r,T,O,d',e1,C,L,Fe,b1,b2,b3,b4,b5,b6,b7⟩:=wKS (d:=⟨p0,0,17⟩) rfl (u:=5) (w:=5) (q:=8) (by omega) (by omega) (by omega) (by omega) (by omega) (by omega)
 have hn:=C.n;have hm:=C.m;have hc:=C.c;have hq:=C.q
 have S:=shM C
 have c0:=wIM C
 have hy:∃ y,wBt r y:=⟨_,Fe⟩
 have lt:=L.t;have lo:=L.o
 obtain ⟨s,d1,s1,sb,m0,m1⟩:=wKU C ⟨p1,0,17⟩ (by simp only;omega) (by simp only;omega)
 simp only at m1
 obtain ⟨os,s0,s2,s3,s4⟩:=wHC sb
 obtain ⟨x,d2,e2,n0,n1,u0,u1⟩:=wCE d1 (r.Starts.length:Int) m0 (by omega)
 obtain ⟨m,d3,e3,q0,q1,v0,v1⟩:=wCE d2 ((r.Splits.length:Int) + 1) n0 (by omega)
 obtain ⟨k,d4,e4,t0,t1,w0,w1⟩:=wCE d3 (r.Clocks.length:Int) q0 (by omega)
 have x1:x < r.Starts.length:=by omega
 have m1':m <= r.Splits.length:=by omega
 have k1:k < r.Clocks.length:=by omega
 have near:∀ p,wFO r p->-3300000 <= yT T O p/\yT T O p <= 3300000:=fun p hp=>by
  have:=wIF C Fe hp
  rw [wIK] at this
  omega
 have nT:=near ⟨x,m⟩ (.inr (.inl ⟨u0,x1,v0,m1'⟩))
 rw [wDn _ _ u0] at nT
 have nO:=near ⟨-1,1 + k⟩ (.inr (.inr ⟨rfl,by simp only;omega,by simp only;omega⟩))
 rw [wEN _ _ w0] at nO
 have upT:gd (gd T x.toNat) m.toNat <= 20000:=by
  have F:wBt (wr r []) (yT T O):=wGE (l:=[]) (m:=r.Readings) (fun x hx=>by cases hx) Fe
  have h:=(wHF F (s:=x.toNat) (by omega) m.toNat (by omega)).2
  rw [wIK,wDn _ _ (by omega),hJ,hJ] at h
  have hs:=b1 _ (wBK (show x.toNat < r.Starts.length by omega))
  have hsum:∀ j:Nat,j <= r.Splits.length->wFp (fun j=>(gd r.Splits j).Hi) j <= 1190 * (j:Int):=by
   intro j
   induction j with
   | zero=>intro _;simp [wFp]
   | succ j ih =>
    intro hj
    have:=ih (by omega)
    have:=(b4 _ (wBK (show j < r.Splits.length by omega))).2
    simp only [wFp]
    omega
  have:=hsum m.toNat (by omega)
  omega
 have upO:gd O k.toNat <= 70:=by
  have:=(wHl.1 Fe).c k.toNat (by omega)
  rw [wIK,wEN _ _ (by omega),hJ] at this
  have:=(b2 _ (wBK (show k.toNat < r.Clocks.length by omega))).2
  omega
 rw [show wCJ p0=some (⟨p0,0,17⟩:wAI) from rfl,hD,e1,hD]
 simp only
 rw [show wCJ p1=some (⟨p1,0,17⟩:wAI) from rfl,hD,s1,hD]
 simp only
 rw [wKT S,hD,hD,hD,hD]
 simp only
 rw [e2,hD]
 simp only
 rw [wAU (x:=(r.Splits.length:Int) + 1) (by omega) (by omega),e3,hD]
 simp only
 rw [e4,hD,hD]
 simp only
 rw [wEA u0 (by omega),hD,wEA v0 (by rw [L.l _ (by omega)];omega),hD,wCy w0 (by omega),hD,wAU (x:=gd (gd T x.toNat) m.toNat + gd O k.toNat) (by omega) (by omega)]
 refine wMW (fun Lr=>RC (wr r Lr)/\(∀ y,wBt (wr r Lr) y->wBt r y)/\∃ y,wBt (wr r Lr) y) (fun h=>?_) (fun _=>⟨C,fun _ h=>h,hy⟩) ?_
 ·rw [wDt (by simp only [nA,nB];omega)]
  have CL:RC (wr r (r.Readings ++ [⟨x,m,k,gd (gd T x.toNat) m.toNat + gd O k.toNat⟩])):=⟨C.n,C.m,C.c,by simp only [wr,nM,nA,nB];omega,C.st,C.sp,C.ck,fun z hz=>by
   simp only [wr,nH,nE] at hz
   rcases hz with hz | rfl
   ·exact C.rt z hz
   ·exact ⟨h,by simp only;omega⟩,fun z hz=>by
   simp only [wr,nH,nE] at hz
   rcases hz with hz | rfl
   ·exact C.ru z hz
   ·exact ⟨u0,x1,v0,m1',w0,k1⟩⟩
  refine ⟨_,rfl,CL,fun y F=>wGE (m:=r.Readings ++ [⟨x,m,k,gd (gd T x.toNat) m.toNat + gd O k.toNat⟩]) (fun z hz=>nH.2 (.inl hz)) F,yT T O,?_⟩
  rw [wJp]
  refine ⟨wGE (l:=[]) (m:=r.Readings) (fun x hx=>by cases hx) Fe,fun z hz=>?_⟩
  rw [nH,nE] at hz
  rcases hz with hz | rfl
  ·exact (wHl.1 Fe).d z hz
  ·have ce:=(C.ck _ (wBK (show k.toNat < r.Clocks.length by omega))).2.1
   simp only
   rw [wDn _ _ u0,wEN _ _ w0]
   omega
 rintro Lr ⟨CL,hL,hyL⟩
 obtain ⟨⟨bK,nK,stK,K⟩,eK,K1,K2,K3,K4⟩:=wideK (l:=r.Clocks) (by omega) (fun j hj=>by
  have:=C.ck _ (wBK hj);have:=b2 _ (wBK hj);have:=b6 _ (wBK hj)
  omega) (b:=d4.bytes) (n:=d4.next) (st:=d4.state) t0 (by omega)
 simp only at K1 K2 K3 K4
 obtain ⟨⟨bP,nP,stP,P⟩,eP,P1,P2⟩:=wideP (l:=r.Splits) (by omega) (fun j hj=>by
  have:=C.sp _ (wBK hj)
  omega) (b:=bK) (n:=nK) (st:=stK) K3 (by omega)
 simp only at P1 P2
 have W:=wLc C b4 b2 (fun z hz=>by have:=b6 z hz;omega) P1 K1 (fun j hj=>P2 j (by omega)) (fun j hj=>K2 j (by omega))
 have smW:Sm (⟨r.Starts,P,K,r.Readings⟩:wAE) r:=⟨rfl,P1.symm,K1.symm⟩
 have CB:RC (wr r []):=wKO C (by simp) (fun x hx=>by cases hx)
 obtain ⟨f,g,hf,hg,eR⟩:=wHn C hy sb
 obtain ⟨fL,gL,hfL,hgL,eL⟩:=wHn CL hyL (by rw [(wII r Lr).sp];exact sb)
 obtain ⟨fW,gW,hfW,hgW,eW⟩:=wHn W.1 ⟨_,W.2 _ Fe⟩ (s:=s) (by rw [<- smW.sp];exact sb)
 obtain ⟨fB,gB,hfB,hgB,eB⟩:=wHn CB ⟨_,wGE (l:=[]) (m:=r.Readings) (fun x hx=>by cases hx) Fe⟩ (s:=s) (by rw [(wII r []).sp];exact sb)
 have eL:wAZ (⟨r.Starts,r.Splits,r.Clocks,Lr⟩:wAE) s=some (⟨-gL zp,fL (pt s)⟩,0):=eL
 have eB:wAZ (⟨r.Starts,r.Splits,r.Clocks,[]⟩:wAE) s=some (⟨-gB zp,fB (pt s)⟩,0):=eB
 have oz:wFO r zp:=.inl rfl
 have l1:=wFc (wII r Lr) hL hf hfL os
 have l2:=wFc (wII r Lr) hL hg hgL oz
 have l3:=wFc smW W.2 hfW hf (smW.pt.1 os)
 have l4:=wFc smW W.2 hgW hg (p:=zp) (.inl rfl)
 have nf:=hf.near C oz os
 have ng:=hg.near C os oz
 have ps:pt s=⟨((s.Skier.toNat:Nat):Int),((s.Mat.toNat:Nat):Int)⟩:=by
  unfold pt
  rw [nD s0,nD s3]
 have bare:=wLd C (s:=s.Skier.toNat) (m:=s.Mat.toNat) (by omega) (by omega) hfB (by rw [<- ps];exact hgB)
 rw [<- ps] at bare
 have st0:=C.st _ (wCc s0 s2)
 have sumB:∀ (U:Nat->Int),(∀ j,j < r.Splits.length->0 <= U j/\U j <= 360000)->∀ j:Nat,j <= r.Splits.length->0 <= wFp U j/\wFp U j <= 360000 * (j:Int):=by
  intro U hU j
  induction j with
  | zero=>intro _;simp [wFp]
  | succ j ih =>
   intro hj
   have:=ih (by omega)
   have:=hU j (by omega)
   simp only [wFp]
   omega
 have sL:=sumB (fun j=>(gd r.Splits j).Lo) fun j hj=>by
  have:=C.sp _ (wBK hj)
  exact ⟨this.2.1,by omega⟩
 have sH:=sumB (fun j=>(gd r.Splits j).Hi) fun j hj=>by
  have:=C.sp _ (wBK hj)
  exact ⟨by omega,this.2.2⟩
 have ex:∀ k:Nat,∃ F G:Pt->Int,k < r.Readings.length->IsDP (lsR r k) zp F/\IsDP (lsR r k) (pt s) G:=fun k=>by
  by_cases hk:k < r.Readings.length
  ·have hyk:∃ y,wBt (lsR r k) y:=⟨_,wIo Fe⟩
   have Ck:RC (lsR r k):=wKO C (by have:=wIJ (fun i=>decide (k=i)) r.Readings r.Readings.length;omega) (fun x hx=>by
    obtain ⟨i,hi,_,rfl⟩:=wFo.1 hx
    exact wBK hi)
   obtain ⟨F,G,h1,h2,_⟩:=wHn Ck hyk (s:=s) (by
    have:=(wII r (wHD (fun i=>decide (k=i)) r.Readings r.Readings.length)).sp s
    unfold lsR
    rw [this];exact sb)
   exact ⟨F,G,fun _=>⟨h1,h2⟩⟩
  ·exact ⟨fun _=>0,fun _=>0,fun h=>absurd h hk⟩
 obtain ⟨F,hF⟩:∃ F:Nat->Pt->Int,∀ k,∃ G:Pt->Int,k < r.Readings.length->IsDP (lsR r k) zp (F k)/\IsDP (lsR r k) (pt s) G:=⟨fun k=>kG (ex k),fun k=>nr (ex k)⟩
 obtain ⟨G,hG⟩:∃ G:Nat->Pt->Int,∀ k,k < r.Readings.length->IsDP (lsR r k) zp (F k)/\IsDP (lsR r k) (pt s) (G k):=⟨fun k=>kG (hF k),fun k=>nr (hF k)⟩
 have eM:=wJs S (s:=s) (by unfold wGk;rw [if_pos c0,if_pos (by simp [sb]),if_pos hy]) hf hg (fun k hk=>(hG k hk).1) (fun k hk=>(hG k hk).2)
 rw [eK,hD]
 simp only
 rw [eP,hD]
 simp only
 rw [eR,hD]
 simp only
 rw [eL,hD]
 simp only
 rw [eW,hD]
 simp only
 rw [eB,hD]
 simp only
 rw [if_pos trivial,if_pos trivial,if_pos trivial,if_pos trivial,if_neg (by omega),if_neg (by omega),if_neg (by omega),if_neg (by omega),wEA s0 s2,hD]
 have ecut:Go.KL.cut r.Splits 0 s.Mat=some (r.Splits.take s.Mat.toNat):=by
  unfold Go.KL.cut
  rw [if_pos (by omega)]
  simp
 have tl:(r.Splits.take s.Mat.toNat).length=s.Mat.toNat:=by rw [nI];omega
 rw [ecut,hD,tl,wHe (S:=Int × Int) (n:=s.Mat.toNat) (fun j=>(gd r.Starts s.Skier.toNat + wFp (fun j=>(gd r.Splits j).Lo) j,gd r.Starts s.Skier.toNat + wFp (fun j=>(gd r.Splits j).Hi) j)) (s0:=(gd r.Starts s.Skier.toNat,gd r.Starts s.Skier.toNat)) (by simp [wFp]) (by omega) (fun j hj=>by
  have a1:=sL (j + 1) (by omega);have a2:=sH (j + 1) (by omega)
  have gt:gd (r.Splits.take s.Mat.toNat) j=gd r.Splits j:=by
   rw [wHA (show j < (r.Splits.take s.Mat.toNat).length by omega),wHA (show j < r.Splits.length by omega),List.getElem_take]
  simp only [wFp] at a1 a2
  simp only
  rw [wGy (by omega),hD,gt,wAU (by omega) (by omega),wAU (by omega) (by omega)]
  simp only [wFp,Int.add_assoc]),hD]
 simp only
 rw [if_pos (by rw [bare.1,bare.2]),eM,hD]
 simp only
 rw [if_pos trivial,wJg (by omega) fun q hq=>?_,wHu,aw06]
 ·rfl
 ·have sm:=wII r (r.Readings.take q ++ r.Readings.drop (q + 1))
  have Cq:RC (wr r (r.Readings.take q ++ r.Readings.drop (q + 1))):=wKO C (by rw [nM,nI,nZ];omega) (fun x hx=>by
   rcases nH.1 hx with h | h
   ·exact nu h
   ·exact nt h)
  have smq:Sm (lsR r q) (wr r (r.Readings.take q ++ r.Readings.drop (q + 1))):=⟨rfl,rfl,rfl⟩
  have dF:=wJo smq (wKx hq) (hG q hq).1
  have dG:=wJo smq (wKx hq) (hG q hq).2
  have cq:=wIM Cq
  have eQ:wAZ (⟨r.Starts,r.Splits,r.Clocks,r.Readings.take q ++ r.Readings.drop (q + 1)⟩:wAE) s=some (⟨-G q zp,F q (pt s)⟩,0):=(wIm (shM Cq) s).2 (by
   unfold wGk
   rw [if_pos cq,if_pos (by rw [nw,kA,sm.sp,sb];rfl),if_pos ⟨_,dF.ok⟩]) _ _ dF dG
  have smr:Sm (lsR r q) r:=⟨rfl,rfl,rfl⟩
  have k1:=wFc smr (fun y=>wIo) (hG q hq).1 hf (p:=pt s) (smr.pt.1 os)
  have k2:=wFc smr (fun y=>wIo) (hG q hq).2 hg (p:=zp) (.inl rfl)
  have ml:=wJr (fun k=>decide (0 < max (-g zp - -G k zp) (F k (pt s) - f (pt s)))) r.Readings.length
  rw [hD]
  unfold wAe delO
  rw [if_pos (by omega),hD,hJ,show ((q + 1:Nat):Int).toNat=q + 1 from by omega,eQ,hD]
  simp only
  rw [if_pos trivial,if_neg (by omega),if_neg (by omega),wIO _ (by omega),hD,if_pos]
  rw [beq_iff_eq]
  refine decide_eq_decide.2 ?_
  rw [wLe hq,decide_eq_true_eq]
  have key:(⟨-G q zp,F q (pt s)⟩:wAF)=⟨-g zp,f (pt s)⟩ ↔ G q zp=g zp/\F q (pt s)=f (pt s):=by
   rw [wAF.mk.injEq]
   omega
  rw [key]
  omega
end Go.Proofs.Ytlnfbjphfoipaaa
