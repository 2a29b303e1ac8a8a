import Derived.Test.YtadbejldcmkokaaGreatA0
import Derived.Lib.AppendZerosOnto
set_option linter.all false
open Bool renaming and_eq_true->nA,false_eq_true->nY,eq_false_iff->na,rec->kB,not_eq_true'->kJ,eq_iff_iff->kX
open Nat renaming eq_of_beq_eq_true->nB,beq->nD,le_refl->nN,ble->nO,blt_eq->nP,blt->nQ,lt_of_lt_of_le->ni,rec->nr,lt_or_ge->nt,mul_le_mul_right->nv,ble_eq->ny,lt_or_eq_of_le->kE,le_trans->kO,zero_add->kQ,strongRecOn->kW,min_eq_left->ka,add_mul->kq
open List renaming getElem?_eq_getElem->nE,flatMap->nG,range->nH,getElem?_eq_some_iff->nI,replicate->nJ,mem_of_getElem?->nK,set->nL,contains_iff_mem->nM,append_assoc->nS,zipWith->nT,perm_append_comm->nV,flatMap_cons->nW,getElem?_append_left->nX,rec->nZ,all_eq_true->nc,mem_cons->nh,flatMap_def->nm,getElem?_eq_none->np,flatMap_append->nz,mem_range->kA,getElem?_append_right->kG,getD_eq_getElem?_getD->kH,pairwise_iff_getElem->kK,any_eq_true->kP,getElem?_cons_zero->kS,mem_append->kV,append_nil->kY,length_nil->kZ,mem_append_right->kc,mem_cons_of_mem->ke,mem_append_left->kf,getElem?_of_mem->kg,length_zipWith->kh,map_congr_left->ki,replicate_succ->kj,mem_cons_self->kl,size_toArray->ko
open Option renaming rec->nR,getD_none->kr,getD_some->ku
open Array renaming replicate->nU,getD_eq_getD_getElem?->nb,ext'->nw,range->kD,getElem?_replicate->kM,toList_map->kR,toList_range->km
open Int renaming ofNat_eq_natCast->ng,toNat_natCast->nl,negSucc_eq->kC,eq_ofNat_of_zero_le->kU
open Option.some renaming injEq->nj,inj->nu
open List.Perm renaming append_left->nq,trans->kv,refl->kx
open Go.Value renaming slice->kb,int->ky
namespace Go.Proofs.YtadbejldcmkokaaGreat
open Go.KL
noncomputable section
structure wAE where
 bytes:List Int
 next:Int
 state:Int
deriving DecidableEq,Inhabited,Repr
structure wAI where
 Lo:Int
 Hi:Int
deriving DecidableEq,Inhabited,Repr
structure wAK where
 Offset:wAI
 Error:Int
deriving DecidableEq,Inhabited,Repr
structure wAY where
 Skier:Int
 Mat:Int
 Clock:Int
 Time:Int
deriving DecidableEq,Inhabited,Repr
structure wAF where
 Starts:List Int
 Splits:List wAI
 Clocks:List wAK
 Readings:List wAY
deriving DecidableEq,Inhabited,Repr
structure wAk where
 Skier:Int
 Mat:Int
deriving DecidableEq,Inhabited,Repr
structure wAJ where
 skier:Int
 mat:Int
deriving DecidableEq,Inhabited,Repr
structure wAN where
 Kind:Int
 Skier:Int
 Index:Int
 Up:Bool
deriving DecidableEq,Inhabited,Repr
structure wAm where
 step:wAN
 from_:Int
 to_:Int
 count:Int
deriving DecidableEq,Inhabited,Repr
structure wAx where
 Race:wAF
 number:List (wAJ × Int)
 edges:List wAm
structure wDr where
 far:List Int
 by_:List Int
deriving DecidableEq,Inhabited,Repr
structure wAQ where
 Bib:Int
 Time:Int
deriving DecidableEq,Inhabited,Repr
structure wAD where
 Number:Int
 Kind:Int
 Minute:Int
 Bib:Int
 Much:Int
 About:Int
deriving DecidableEq,Inhabited,Repr
structure wAU where
 Deadline:Int
 Skiers:List wAQ
 Decisions:List wAD
deriving DecidableEq,Inhabited,Repr
structure wBJ where
 Record:wAU
 at_:List (Int × wAD)
 about:List (Int × Unit)
structure wAA where
 Bib:Int
 Place:Int
 Total:Int
deriving DecidableEq,Inhabited,Repr
structure wBq where
 Skiers:Int
 Races:Int
 Best:Int
 Points:List Int
 Done:List (List Int)
deriving DecidableEq,Inhabited,Repr
structure wCM where
 Cup:wBq
deriving DecidableEq,Inhabited,Repr
structure wHa where
 total:Int
 places:Arr Int 61
def wEC (p0:List Int):Option (wAE) :=
 some (⟨p0,0,17⟩:wAE)
def wAR (p0:wAE) (p1:Int):Option (Int × wAE) :=
 if p1 <= 1 then
 some (0,p0)
 else
 if (↑p0.bytes.length:Int)=0 then
 some (0,p0)
 else
 (rem p0.next (↑p0.bytes.length:Int)).bind fun x10 =>
 (idx p0.bytes x10).bind fun x13 =>
 (quo p0.next (↑p0.bytes.length:Int)).bind fun x20 =>
 (rem (wFv ((wFv ((wFv ((wFv (p0.state * 45)) + (wFv x13))) + (wFv (77 * (wFv x20))))) + 1)) 65519).bind fun x32 =>
 if (wFv x20)=0 then
 if p1 <= 256 then
 (rem (w64 (wFv x13)) p1).bind fun x42 =>
 some (x42,(⟨p0.bytes,w64 (p0.next + 1),x32⟩:wAE))
 else
 (rem (w64 (wFv ((wFv (x32 * 256)) + (wFv x13)))) p1).bind fun x46 =>
 some (x46,(⟨p0.bytes,w64 (p0.next + 1),x32⟩:wAE))
 else
 (rem (w64 (wFv ((wFv (x32 * 256)) + (wFv x13)))) p1).bind fun x50 =>
 some (x50,(⟨p0.bytes,w64 (p0.next + 1),x32⟩:wAE))
def wAS (p0:wAE) (p1:Int) (p2:Int):Option (Int × wAE) :=
 (wAR p0 (w64 ((w64 (p2 - p1)) + 1))).bind fun (x2,x3) =>
 some (w64 (p1 + x2),x3)
def wCG (p0:wAE) (p1:Int) (p2:Int) (p3:Int):Option (wAF × (List (List Int)) × (List Int) × wAE) :=
 (wAS p0 1 p1).bind fun (x10,x11) =>
 (wBp 0 x10 (fun k62 (l53,x56,x57,l58) =>
 (wAR (⟨l53,x56,x57⟩:wAE) 4).bind fun (x142,x143) =>
 (wAR x143 3).bind fun (x156,x157) =>
 (app 8 l58 [w64 ((w64 (300 * x142)) + x156)]).bind fun x175 =>
 some (x157.bytes,x157.next,x157.state,x175)) (x11.bytes,x11.next,x11.state,[])).bind fun (y67,y68,y69,y70) =>
 (wAR (⟨y67,y68,y69⟩:wAE) p2).bind fun (x223,x224) =>
 (wBp 0 x223 (fun k274 (l265,x268,x269,l270) =>
 (wAS (⟨l265,x268,x269⟩:wAE) 3 9).bind fun (x305,x306) =>
 (wAR x306 30).bind fun (x353,x354) =>
 (app 16 l270 [(⟨w64 (100 * x305),w64 ((w64 (100 * x305)) + (w64 (10 * x353)))⟩:wAI)]).bind fun x372 =>
 some (x354.bytes,x354.next,x354.state,x372)) (x224.bytes,x224.next,x224.state,[])).bind fun (y279,y280,y281,y282) =>
 (wBp 0 (↑y70.length:Int) (fun k460 (l450,x453,x454,l455) =>
 (chk (↑k460:Int) y70.length).bind fun _ =>
 (wBp 0 (↑y282.length:Int) (fun k541 (l532,x535,x536,x537,l538) =>
 (chk (↑k541:Int) y282.length).bind fun _ =>
 (wAS (⟨l532,x535,x536⟩:wAE) ((gd y282 k541).Lo) ((gd y282 k541).Hi)).bind fun (x589,x590) =>
 (app 8 l538 [w64 (x537 + x589)]).bind fun x609 =>
 some (x590.bytes,x590.next,x590.state,w64 (x537 + x589),x609)) (l450,x453,x454,(gd y70 k460),[(gd y70 k460)])).bind fun (y546,y547,y548,y549,y550) =>
 (app 24 l455 [y550]).bind fun x672 =>
 some (y546,y547,y548,x672)) (y279,y280,y281,[])).bind fun (y465,y466,y467,y468) =>
 (wAS (⟨y465,y466,y467⟩:wAE) 1 3).bind fun (x726,x727) =>
 (wBp 0 x726 (fun k792 (l779,x782,x783,l784,l788) =>
 (wAS (⟨l779,x782,x783⟩:wAE) (-60) 20).bind fun (x826,x827) =>
 (wAR x827 50).bind fun (x840,x841) =>
 (wAR x841 6).bind fun (x854,x855) =>
 (app 24 l784 [(⟨(⟨x826,w64 (x826 + x840)⟩:wAI),x854⟩:wAK)]).bind fun x957 =>
 (wAS x855 x826 (w64 (x826 + x840))).bind fun (x965,x966) =>
 (app 8 l788 [x965]).bind fun x985 =>
 some (x966.bytes,x966.next,x966.state,x957,x985)) (x727.bytes,x727.next,x727.state,[],[])).bind fun (y797,y798,y799,y800,y801) =>
 (wAR (⟨y797,y798,y799⟩:wAE) (w64 (p3 + 1))).bind fun (x1744,x1745) =>
 (wBp 0 x1744 (fun k1813 (l1804,x1807,x1808,l1809) =>
 ((wAR (⟨l1804,x1807,x1808⟩:wAE) (↑y70.length:Int)).bind fun (x1910,x1911) =>
 (wAR x1911 (w64 ((↑y282.length:Int) + 1))).bind fun (x1924,x1925) =>
 (wAR x1925 (↑y800.length:Int)).bind fun (x1938,x1939) =>
 some (x1939.bytes,x1939.next,x1939.state,x1910,x1924,x1938)).bind fun (l1844,x1847,x1848,x1851,x1852,x1853) =>
 (chk x1853 y800.length).bind fun _ =>
 (idx y468 x1851).bind fun x2216 =>
 (idx x2216 x1852).bind fun x2232 =>
 (chk x1853 y801.length).bind fun _ =>
 (wAS (⟨l1844,x1847,x1848⟩:wAE) (w64 (-((gd y800 x1853.toNat).Error))) ((gd y800 x1853.toNat).Error)).bind fun (x2247,x2248) =>
 if (w64 (-((gd y800 x1853.toNat).Error))) <= (w64 ((w64 ((max 0 (w64 ((w64 (x2232 + (gd y801 x1853.toNat))) + x2247))) - x2232)) - (gd y801 x1853.toNat))) then
 if (w64 ((w64 ((max 0 (w64 ((w64 (x2232 + (gd y801 x1853.toNat))) + x2247))) - x2232)) - (gd y801 x1853.toNat))) <= ((gd y800 x1853.toNat).Error) then
 (app 32 l1809 [(⟨x1851,x1852,x1853,max 0 (w64 ((w64 (x2232 + (gd y801 x1853.toNat))) + x2247))⟩:wAY)]).bind fun x2301 =>
 some (x2248.bytes,x2248.next,x2248.state,x2301)
 else
 some (x2248.bytes,x2248.next,x2248.state,l1809)
 else
 some (x2248.bytes,x2248.next,x2248.state,l1809)) (x1745.bytes,x1745.next,x1745.state,[])).bind fun (y1818,y1819,y1820,y1821) =>
 some ((⟨y70,y282,y800,y1821⟩:wAF),y468,y801,(⟨y1818,y1819,y1820⟩:wAE))
def wDI (p0:Int) (p1:Int) (p2:Int):Option (Bool) :=
 if p1 <= p0 then
 some (decide (p0 <= p2))
 else
 some false
def wCa (p0:List Int) (p1:(Int->Option Bool)):Option (Bool) :=
 jn (wGR 0 (↑p0.length:Int) (fun k2 _ =>
 (idx p0 (↑k2:Int)).bind fun x22 =>
 (p1 x22).bind fun x30 =>
 if x30=true then
 some (.inl ())
 else
 esc (some false)) ()) fun _ =>
 some true
def wCw (p0:Int):Option (Bool) :=
 (wDI p0 0 360000).bind fun x1 =>
 some x1
def wBk (p0:List wAI) (p1:(wAI->Option Bool)):Option (Bool) :=
 jn (wGR 0 (↑p0.length:Int) (fun k2 _ =>
 (idx p0 (↑k2:Int)).bind fun x22 =>
 (p1 x22).bind fun x37 =>
 if x37=true then
 some (.inl ())
 else
 esc (some false)) ()) fun _ =>
 some true
def wCx (p0:wAI) (p1:Int) (p2:Int):Option (Bool) :=
 if p0.Lo <= p0.Hi then
 if p1 <= p0.Lo then
 some (decide (p0.Hi <= p2))
 else
 some false
 else
 some false
def wCy (p0:wAI):Option (Bool) :=
 (wCx p0 0 360000).bind fun x5 =>
 some x5
def wBe (p0:List wAK) (p1:(wAK->Option Bool)):Option (Bool) :=
 jn (wGR 0 (↑p0.length:Int) (fun k2 _ =>
 (idx p0 (↑k2:Int)).bind fun x22 =>
 (p1 x22).bind fun x37 =>
 if x37=true then
 some (.inl ())
 else
 esc (some false)) ()) fun _ =>
 some true
def wCz (p0:wAK):Option (Bool) :=
 (wCx p0.Offset (-36000) 36000).bind fun x5 =>
 if x5=true then
 (wDI p0.Error 0 600).bind fun x17 =>
 some x17
 else
 some false
def wBC (p0:List wAY) (p1:(wAY->Option Bool)):Option (Bool) :=
 jn (wGR 0 (↑p0.length:Int) (fun k2 _ =>
 (idx p0 (↑k2:Int)).bind fun x22 =>
 (p1 x22).bind fun x37 =>
 if x37=true then
 some (.inl ())
 else
 esc (some false)) ()) fun _ =>
 some true
def wDA (p0:wAY):Option (Bool) :=
 (wDI p0.Time 0 360000).bind fun x5 =>
 some x5
def wBE (p0:wAF) (p1:wAk):Option (Bool) :=
 (wDI p1.Skier 0 (w64 ((↑p0.Starts.length:Int) - 1))).bind fun x9 =>
 if x9=true then
 (wDI p1.Mat 0 (↑p0.Splits.length:Int)).bind fun x21 =>
 some x21
 else
 some false
def wDB (p0:wAY) (p1:wAF):Option (Bool) :=
 (wBE p1 (⟨p0.Skier,p0.Mat⟩:wAk)).bind fun x5 =>
 if x5=true then
 (wDI p0.Clock 0 (w64 ((↑p1.Clocks.length:Int) - 1))).bind fun x18 =>
 some x18
 else
 some false
def wEm (p0:wAF):Option (Int) :=
 (wDI (↑p0.Starts.length:Int) 1 8).bind fun x10 =>
 if x10=true then
 if 7 < (↑p0.Splits.length:Int) then
 some 2
 else
 if 4 < (↑p0.Clocks.length:Int) then
 some 2
 else
 if 40 < (↑p0.Readings.length:Int) then
 some 2
 else
 (wCa p0.Starts wCw).bind fun x35 =>
 if x35=true then
 (wBk p0.Splits wCy).bind fun x52 =>
 if x52=true then
 (wBe p0.Clocks wCz).bind fun x70 =>
 if x70=true then
 (wBC p0.Readings wDA).bind fun x92 =>
 if x92=true then
 (wBC p0.Readings (fun x=>wDB x p0)).bind fun x116 =>
 if x116=true then
 some 0
 else
 some 1
 else
 some 3
 else
 some 3
 else
 some 3
 else
 some 3
 else
 some 2
def wDk :Option (wAJ) :=
 some (⟨-1,0⟩:wAJ)
def wCH {S E:Type} (f:S->wAN->Option (S ⊕ E)) (s0:S) (p1:wAF):Option (S ⊕ E) :=
 jn (wGR 0 4 (fun k12 s10 =>
  (idx ([1,(↑p1.Splits.length:Int),(↑p1.Clocks.length:Int),(↑p1.Readings.length:Int)]:List Int) (↑k12:Int)).bind fun x33 =>
  (if (↑k12:Int)=2 then
   some (true,s10)
  else
   some (decide ((↑k12:Int)=3),s10)).bind fun (b37,s38) =>
  if b37=true then
   jn (wGR 0 1 (fun k78 s76 =>
    jn (wGR 0 x33 (fun k113 s111 =>
     (f s111 (⟨(↑k12:Int),(↑k78:Int),(↑k113:Int),true⟩:wAN)).bind fun yr141 =>
     match yr141 with
     | .inl s151 =>
      (f s151 (⟨(↑k12:Int),(↑k78:Int),(↑k113:Int),false⟩:wAN)).bind fun yr154 =>
      match yr154 with
      | .inl s164 =>
       some (.inl s164)
      | .inr s164 =>
       esc (esc (esc (some (.inr s164))))
     | .inr s151 =>
      esc (esc (esc (some (.inr s151))))) s76) fun y195 =>
    some (.inl y195)) s38) fun y219 =>
   some (.inl y219)
  else
   jn (wGR 0 (↑p1.Starts.length:Int) (fun k247 s245 =>
    jn (wGR 0 x33 (fun k282 s280 =>
     (f s280 (⟨(↑k12:Int),(↑k247:Int),(↑k282:Int),true⟩:wAN)).bind fun yr310 =>
     match yr310 with
     | .inl s320 =>
      (f s320 (⟨(↑k12:Int),(↑k247:Int),(↑k282:Int),false⟩:wAN)).bind fun yr323 =>
      match yr323 with
      | .inl s333 =>
       some (.inl s333)
      | .inr s333 =>
       esc (esc (esc (some (.inr s333))))
     | .inr s320 =>
      esc (esc (esc (some (.inr s320))))) s245) fun y364 =>
    some (.inl y364)) s38) fun y388 =>
   some (.inl y388)) s0) fun y409 =>
 some (.inl y409)
def wDR (p0:wAF):Option (Unit) :=
 some ()
def wEb (p0:wAF) (p1:wAN):Option (wAJ × wAJ) :=
 ((wDk).bind fun x22 =>
 some (x22.skier,x22.mat)).bind fun (x17,x18) =>
 some ((⟨x17,x18⟩:wAJ),(⟨p1.Skier,0⟩:wAJ))
def wEc (p0:wAF) (p1:wAN):Option (Int × Int) :=
 (idx p0.Starts p1.Skier).bind fun x11 =>
 some (x11,w64 (-x11))
def wEd (p0:wAF) (p1:wAN):Option (wAJ × wAJ) :=
 (some ()).bind fun _ =>
 some ((⟨p1.Skier,p1.Index⟩:wAJ),(⟨p1.Skier,w64 (p1.Index + 1)⟩:wAJ))
def wEe (p0:wAF) (p1:wAN):Option (Int × Int) :=
 (idx p0.Splits p1.Index).bind fun x11 =>
 some (x11.Hi,w64 (-x11.Lo))
def wDf (p0:Int):Option (wAJ) :=
 some (⟨-1,w64 (1 + p0)⟩:wAJ)
def wEf (p0:wAF) (p1:wAN):Option (wAJ × wAJ) :=
 (wDk).bind fun x19 =>
 (wDf p1.Index).bind fun x29 =>
 some (x19,x29)
def wEg (p0:wAF) (p1:wAN):Option (Int × Int) :=
 (idx p0.Clocks p1.Index).bind fun x11 =>
 some (w64 (-x11.Offset.Lo),x11.Offset.Hi)
def wED (p0:wAF) (p1:wAN):Option (wAJ × wAJ) :=
 (idx p0.Readings p1.Index).bind fun x17 =>
 ((wDf x17.Clock).bind fun x36 =>
 some (x36.skier,x36.mat)).bind fun (x31,x32) =>
 some ((⟨x31,x32⟩:wAJ),(⟨x17.Skier,x17.Mat⟩:wAJ))
def wEE (p0:wAF) (p1:wAN):Option (Int × Int) :=
 (idx p0.Readings p1.Index).bind fun x9 =>
 (idx p0.Clocks x9.Clock).bind fun x25 =>
 some (w64 (x9.Time + x25.Error),w64 (x25.Error - x9.Time))
def wCm :Option (Unit) :=
 some ()
def wCD (p0:wAF) (p1:wAN):Option (wAJ × wAJ × Int) :=
 if p1.Kind=0 then
 ((wCm).bind fun _ =>
 some ()).bind fun _ =>
 (wEb p0 p1).bind fun (x92,x93) =>
 (wEc p0 p1).bind fun (x113,x114) =>
 if p1.Up=true then
 (some ()).bind fun _ =>
 some (x92,x93,x113)
 else
 some (x93,x92,x114)
 else
 if p1.Kind=1 then
 ((wCm).bind fun _ =>
 some ()).bind fun _ =>
 (wEd p0 p1).bind fun (x251,x252) =>
 (wEe p0 p1).bind fun (x272,x273) =>
 if p1.Up=true then
 (some ()).bind fun _ =>
 some (x251,x252,x272)
 else
 some (x252,x251,x273)
 else
 if p1.Kind=2 then
 ((wCm).bind fun _ =>
 some ()).bind fun _ =>
 (wEf p0 p1).bind fun (x410,x411) =>
 (wEg p0 p1).bind fun (x431,x432) =>
 if p1.Up=true then
 (some ()).bind fun _ =>
 some (x410,x411,x431)
 else
 some (x411,x410,x432)
 else
 if p1.Kind=3 then
 ((wCm).bind fun _ =>
 some ()).bind fun _ =>
 (wED p0 p1).bind fun (x569,x570) =>
 (wEE p0 p1).bind fun (x590,x591) =>
 if p1.Up=true then
 (some ()).bind fun _ =>
 some (x569,x570,x590)
 else
 some (x570,x569,x591)
 else
 (wCm).bind fun _ =>
 none
def wEF (p0:wAF):Option (wAx) :=
 ((wDk).bind fun x22 =>
 some (mput ([]:List (wAJ × Int)) x22 0)).bind fun l13 =>
 (wDR p0).bind fun _ =>
 (wCH (S:=(List wAm) × (List (wAJ × Int))) (E:=Empty) (fun (l1269,l1273) x1294 =>
  (wCD p0 x1294).bind fun (x1330,x1331,x1332) =>
  (wBp 0 2 (fun k1370 l1367 =>
   (idx ([x1330,x1331]:List wAJ) (↑k1370:Int)).bind fun x1396 =>
   if (wJi l1367 x1396)=true then
    some l1367
   else
    some (mput l1367 x1396 (↑(l1367.length):Int))) l1273).bind fun y1375 =>
  (app 56 l1269 [(⟨x1294,(wBU y1375 x1330 0),(wBU y1375 x1331 0),x1332⟩:wAm)]).bind fun x1451 =>
  some (.inl (x1451,y1375))) ([],l13) p0).bind fun rr1284 =>
 match rr1284 with
 | .inl (y1808,y1809) =>
  some (⟨p0,y1809,y1808⟩:wAx)
 | .inr e1814 =>
  e1814.elim
def wDs (p0:wAF):Option ((Option wAx) × Int) :=
 (wEm p0).bind fun x5 =>
 if x5=0 then
 (wEF p0).bind fun x21 =>
 some ((some x21),0)
 else
 some (none,x5)
def wBV (p0:List wAk) (p1:(wAk->Option Bool)):Option (Bool) :=
 jn (wGR 0 (↑p0.length:Int) (fun k2 _ =>
 (idx p0 (↑k2:Int)).bind fun x22 =>
 (p1 x22).bind fun x37 =>
 if x37=true then
 some (.inl ())
 else
 esc (some false)) ()) fun _ =>
 some true
def wEG (p0 p1:Int):Option (Int × Int):=if 0 <= p0/\p0 < 18446744073709551616/\0 <= p1/\p1 < 18446744073709551616 then some (p0 * p1 / 18446744073709551616,p0 * p1 % 18446744073709551616) else none
def wBW (p0:List Int) (p1:Int):Option ((List Int)) :=
 if p1 < 0 then
 none
 else
 (wEG (wQW (↑p0.length:Int)) (wQW p1)).bind fun (x4,x5) =>
 (if 0 < x4 then
 some true
 else
 some (decide (9223372036854775807 < x5))).bind fun b15 =>
 if b15=true then
 none
 else
 (mkz 8 (w64 x5) (0:Int)).bind fun x35 =>
 (wNx x35 0 p0).bind fun x45 =>
 iter (fun (l58,x59) =>
 if x59 < (↑l58.length:Int) then
 (cut l58 x59 (↑(l58.length):Int)).bind fun x77 =>
 (cut l58 0 x59).bind fun x86 =>
 (wNx l58 x59 x86).bind fun x95 =>
 some (.inl (x95,w64 (x59 + (↑(min x86.length (x77.length)):Int))))
 else
 esc (some l58)) big (x45,(↑(min p0.length (x35.length)):Int))
def wBN (p0:wAx) (p1:Int) (p2:Bool):Option (wDr × Int × Bool) :=
 ((wBW [1125899906842624] (↑(p0.number.length):Int)).bind fun x28 =>
 (wBW [-1] (↑(p0.number.length):Int)).bind fun x51 =>
 some (x28,x51)).bind fun (l9,l12) =>
 (wBp 0 (↑l9.length:Int) (fun k449 l448 =>
 if p1 < 0 then
 (chk (↑k449:Int) l448.length).bind fun _ =>
 some (nL l448 k449 0)
 else
 if (↑k449:Int)=p1 then
 (chk (↑k449:Int) l448.length).bind fun _ =>
 some (nL l448 k449 0)
 else
 some l448) l9).bind fun y454 =>
 jn (wGR 0 (w64 ((↑(p0.number.length):Int) + 1)) (fun k531 (l528,l529,x530) =>
 (wBp 0 (↑p0.edges.length:Int) (fun k570 (l567,l568,x569) =>
 ((idx p0.edges (↑k570:Int)).bind fun x607 =>
 if p2=true then
 (chk x607.to_ l567.length).bind fun _ =>
 if (gd l567 x607.to_.toNat) < 1125899906842624 then
 (chk x607.from_ l567.length).bind fun _ =>
 if (w64 ((gd l567 x607.to_.toNat) + x607.count)) < (gd l567 x607.from_.toNat) then
 ((chk x607.from_ l568.length).bind fun _ =>
 some ()).bind fun _ =>
 some ((nL l567 x607.from_.toNat (w64 ((gd l567 x607.to_.toNat) + x607.count))),(nL l568 x607.from_.toNat (↑k570:Int)),x607.from_)
 else
 some (l567,l568,x569)
 else
 some (l567,l568,x569)
 else
 (chk x607.from_ l567.length).bind fun _ =>
 if (gd l567 x607.from_.toNat) < 1125899906842624 then
 (chk x607.to_ l567.length).bind fun _ =>
 if (w64 ((gd l567 x607.from_.toNat) + x607.count)) < (gd l567 x607.to_.toNat) then
 ((chk x607.to_ l568.length).bind fun _ =>
 some ()).bind fun _ =>
 some ((nL l567 x607.to_.toNat (w64 ((gd l567 x607.from_.toNat) + x607.count))),(nL l568 x607.to_.toNat (↑k570:Int)),x607.to_)
 else
 some (l567,l568,x569)
 else
 some (l567,l568,x569)).bind fun (l601,l602,x603) =>
 some (l601,l602,x603)) (l528,l529,-1)).bind fun (y575,y576,y577) =>
 if y577 < 0 then
 esc (some ((⟨y575,y576⟩:wDr),0,true))
 else
 some (.inl (y575,y576,y577))) (y454,l12,-1)) fun (y916,y917,y918) =>
 some ((⟨y916,y917⟩:wDr),y918,false)
def wCb (p0:wAx):Option (Bool) :=
 (wBN p0 (-1) false).bind fun (x3,x4,x5) =>
 some x5
def wEn (p0:wAF) (p1:List wAk):Option ((Option wAx) × Int) :=
 (wDs p0).bind fun (x5,x6) =>
 match x5 with
 | none =>
  if x6=0 then
   (wBV p1 (fun x=>wBE p0 x)).bind fun x40 =>
   if x40=true then
    none
   else
    some (none,1)
  else
   some (none,x6)
 | some x30 =>
  if x6=0 then
   (wBV p1 (fun x=>wBE p0 x)).bind fun x71 =>
   if x71=true then
    (wCb x30).bind fun x96 =>
    if x96=true then
     some ((some x30),0)
    else
     some (none,7)
   else
    some (none,1)
  else
   some (none,x6)
def wDS (p0:wAF) (p1:Int):Option ((Option wAx) × Int) :=
 (wEn p0 [(⟨0,p1⟩:wAk)]).bind fun (x19,x20) =>
 match x19 with
 | none =>
  some (none,x20)
 | some x44 =>
  some ((some x44),x20)
def wBh (p0:wAx) (p1:Int):Option ((Arr Int 64)) :=
 (wBp 0 (↑p0.Race.Starts.length:Int) (fun k19 a18 =>
 (wBN p0 (wBU p0.number (⟨(↑k19:Int),p1⟩:wAJ) 0) false).bind fun (x47,x48,x49) =>
 (wBp 0 (↑p0.Race.Starts.length:Int) (fun k79 a78 =>
 (chk (wBU p0.number (⟨(↑k79:Int),p1⟩:wAJ) 0) x47.far.length).bind fun _ =>
 (chk (↑k19:Int) 8).bind fun _ =>
 (chk (↑k79:Int) 8).bind fun _ =>
 some (a78.set (k19 * 8 + k79) (gd x47.far (wBU p0.number (⟨(↑k79:Int),p1⟩:wAJ) 0).toNat))) a18).bind fun y84 =>
 some y84) (Arr.fill 64 0)).bind fun y24 =>
 some y24
def wCp (p0:wAF) (p1:Int):Option ((List wAI) × Int) :=
 (wDS p0 p1).bind fun (x5,x6) =>
 match x5 with
 | none =>
  if x6=0 then
   none
  else
   some ([],x6)
 | some x30 =>
  if x6=0 then
   (wBh x30 p1).bind fun x48 =>
   (wBp 0 (↑p0.Starts.length:Int) (fun k83 l79 =>
    (wBp 0 (↑p0.Starts.length:Int) (fun k124 (x122,x123) =>
     (chk (↑k83:Int) 8).bind fun _ =>
     (chk (↑k124:Int) 8).bind fun _ =>
     if (x48.get (k83 * 8 + k124)) < 0 then
      if 0 < (x48.get (k124 * 8 + k83)) then
       some (w64 (x122 + 1),w64 (x123 + 1))
      else
       some (w64 (x122 + 1),x123)
     else
      if 0 < (x48.get (k124 * 8 + k83)) then
       some (x122,w64 (x123 + 1))
      else
       some (x122,x123)) (1,1)).bind fun (y129,y130) =>
    (app 16 l79 [(⟨y129,y130⟩:wAI)]).bind fun x207 =>
    some x207) []).bind fun y88 =>
   some (y88,0)
  else
   some ([],x6)
def wDJ (p0:wAF) (p1:Int):Option ((List (List Int)) × Int) :=
 (wDS p0 p1).bind fun (x5,x6) =>
 match x5 with
 | none =>
  if x6=0 then
   none
  else
   some ([],x6)
 | some x30 =>
  if x6=0 then
   (wBh x30 p1).bind fun x51 =>
   (mkz 24 (↑p0.Starts.length:Int) ([]:List Int)).bind fun x69 =>
   (wBp 0 (↑x69.length:Int) (fun k91 l89 =>
    (wBp 0 (↑l89.length:Int) (fun k122 l120 =>
     (chk (↑k91:Int) 8).bind fun _ =>
     (chk (↑k122:Int) 8).bind fun _ =>
     if (x51.get (k91 * 8 + k122)) < 0 then
      (chk (↑k91:Int) l120.length).bind fun _ =>
      (app 8 (gd l120 k91) [(↑k122:Int)]).bind fun x167 =>
      some (nL l120 k91 x167)
     else
      some l120) l89).bind fun y127 =>
    some y127) x69).bind fun y96 =>
   some (y96,0)
  else
   some ([],x6)
def wAw (p0:Int) (p1:Int) (p2:Int):Option (Bool) :=
 if p1 <= p0 then
 some (decide (p0 <= p2))
 else
 some false
def wBD (p0:wAQ) (p1:(wAQ->Option Bool)):Option (Bool) :=
 (p1 p0).bind fun x5 =>
 some (!x5)
def wAl (p0:List wAQ) (p1:(wAQ->Option Bool)):Option (Int) :=
 jn (wGR 0 (↑p0.length:Int) (fun k2 _ =>
 (idx p0 (↑k2:Int)).bind fun x22 =>
 (p1 x22).bind fun x30 =>
 if x30=true then
 esc (some (↑k2:Int))
 else
 some (.inl ())) ()) fun _ =>
 some (-1)
def wAs (p0:List wAQ) (p1:(wAQ->Option Bool)):Option (Bool) :=
 (wAl p0 p1).bind fun x1 =>
 some (decide (0 <= x1))
def wBr (p0:List wAQ) (p1:(wAQ->Option Bool)):Option (Bool) :=
 (wAs p0 (fun x=>wBD x p1)).bind fun x13 =>
 some (!x13)
def wDC (p0:wAQ):Option (Bool) :=
 (wAw p0.Bib 1 999).bind fun x5 =>
 if x5=true then
 (wAw p0.Time (-1) 360000).bind fun x17 =>
 some x17
 else
 some false
def wAu (p0:wAD) (p1:(wAD->Option Bool)):Option (Bool) :=
 (p1 p0).bind fun x5 =>
 some (!x5)
def wAf (p0:List wAD) (p1:(wAD->Option Bool)):Option (Int) :=
 jn (wGR 0 (↑p0.length:Int) (fun k2 _ =>
 (idx p0 (↑k2:Int)).bind fun x22 =>
 (p1 x22).bind fun x30 =>
 if x30=true then
 esc (some (↑k2:Int))
 else
 some (.inl ())) ()) fun _ =>
 some (-1)
def wAi (p0:List wAD) (p1:(wAD->Option Bool)):Option (Bool) :=
 (wAf p0 p1).bind fun x1 =>
 some (decide (0 <= x1))
def wAy (p0:List wAD) (p1:(wAD->Option Bool)):Option (Bool) :=
 (wAi p0 (fun x=>wAu x p1)).bind fun x13 =>
 some (!x13)
def wBH (p0:Int):Option (Bool) :=
 some (decide (p0 <= 4))
def wBK (p0:wAD):Option (Bool) :=
 (if p0.Kind=3 then
 some true
 else
 (wBH p0.Kind).bind fun x13 =>
 if x13=true then
 some false
 else
 some (decide (¬ (p0.Kind=6)))).bind fun b5 =>
 if b5=true then
 (wAw p0.Number 1 9999).bind fun x38 =>
 if x38=true then
 (wAw p0.Kind 0 9).bind fun x50 =>
 if x50=true then
 (wAw p0.Minute 0 10000).bind fun x62 =>
 if x62=true then
 (wAw p0.Much 0 0).bind fun x74 =>
 some x74
 else
 some false
 else
 some false
 else
 some false
 else
 (wAw p0.Number 1 9999).bind fun x88 =>
 if x88=true then
 (wAw p0.Kind 0 9).bind fun x100 =>
 if x100=true then
 (wAw p0.Minute 0 10000).bind fun x112 =>
 if x112=true then
 (wAw p0.Much 0 36000).bind fun x124 =>
 some x124
 else
 some false
 else
 some false
 else
 some false
def wBu (p0:wAU):Option ((List Int)) :=
 (wBp 0 (↑p0.Skiers.length:Int) (fun k22 l18 =>
 (idx p0.Skiers (↑k22:Int)).bind fun x45 =>
 (app 8 l18 [x45.Bib]).bind fun x65 =>
 some x65) []).bind fun y27 =>
 some y27
def wDt (p0:List Int):Option (Bool) :=
 jn (wGR 0 (↑p0.length:Int) (fun k20 l17 =>
 (idx p0 (↑k20:Int)).bind fun x41 =>
 if (wBU l17 x41 false)=true then
 esc (some true)
 else
 some (.inl (mput l17 x41 true))) ([]:List (Int × Bool))) fun y68 =>
 some false
def wBs (p0:wAU):Option ((List Int)) :=
 (wBp 0 (↑p0.Decisions.length:Int) (fun k22 l18 =>
 (idx p0.Decisions (↑k22:Int)).bind fun x45 =>
 (app 8 l18 [x45.Number]).bind fun x65 =>
 some x65) []).bind fun y27 =>
 some y27
def wCI (p0:List Int) (p1:Int):Option (Int) :=
 jn (wGR 0 (↑p0.length:Int) (fun k2 _ =>
 (idx p0 (↑k2:Int)).bind fun x22 =>
 if p1=x22 then
 esc (some (↑k2:Int))
 else
 some (.inl ())) ()) fun _ =>
 some (-1)
def wBF (p0:List Int) (p1:Int):Option (Bool) :=
 (wCI p0 p1).bind fun x1 =>
 some (decide (0 <= x1))
def wDD (p0:wAD) (p1:wAU):Option (Bool) :=
 (wBH p0.Kind).bind fun x5 =>
 if x5=true then
 (wBu p1).bind fun x22 =>
 (wBF x22 p0.Bib).bind fun x40 =>
 some x40
 else
 some (decide (p0.Bib=0))
def wDE (p0:wAD):Option (Bool) :=
 (wBH p0.Kind).bind fun x5 =>
 if x5=true then
 some (decide (p0.About=0))
 else
 (wAw p0.About 1 (w64 (p0.Number - 1))).bind fun x18 =>
 some x18
def wEo (p0:wAU):Option (Int) :=
 (wAw (↑p0.Skiers.length:Int) 1 30).bind fun x10 =>
 if x10=true then
 if 40 < (↑p0.Decisions.length:Int) then
 some 2
 else
 (wAw p0.Deadline 0 10000).bind fun x26 =>
 if x26=true then
 (wBr p0.Skiers wDC).bind fun x43 =>
 if x43=true then
 (wAy p0.Decisions wBK).bind fun x61 =>
 if x61=true then
 (wBu p0).bind fun x77 =>
 (wDt x77).bind fun x95 =>
 if x95=true then
 some 5
 else
 (wBs p0).bind fun x117 =>
 (wDt x117).bind fun x135 =>
 if x135=true then
 some 5
 else
 (wAy p0.Decisions (fun x=>wDD x p0)).bind fun x161 =>
 if x161=true then
 (wAy p0.Decisions wDE).bind fun x176 =>
 if x176=true then
 some 0
 else
 some 4
 else
 some 1
 else
 some 3
 else
 some 3
 else
 some 3
 else
 some 2
noncomputable def wBT (p0:List wAQ) (p1:((wAQ × wAQ)->Option Int)):Option (List wAQ):=wLg p1 p0
def wDK (p0:Int):Option (Bool) :=
 some (decide (¬ (p0=p0)))
def wBX (p0:Int) (p1:Int):Option (Int) :=
 (wDK p0).bind fun x1 =>
 (wDK p1).bind fun x11 =>
 if x1=true then
 if x11=true then
 some 0
 else
 some (-1)
 else
 if x11=true then
 some 1
 else
 if p0 < p1 then
 some (-1)
 else
 if p1 < p0 then
 some 1
 else
 some 0
def wCc (p0:wAQ) (p1:wAQ):Option (Int) :=
 (wBX p0.Bib p1.Bib).bind fun x9 =>
 some x9
noncomputable def wAz (p0:List wAD) (p1:((wAD × wAD)->Option Int)):Option (List wAD):=wLg p1 p0
def wCd (p0:wAD) (p1:wAD):Option (Int) :=
 (wBX p0.Number p1.Number).bind fun x9 =>
 some x9
def wEH (p0:wAU):Option (wAU × Int) :=
 (wEo p0).bind fun x9 =>
 if x9=0 then
 ((mkz 16 (↑p0.Skiers.length:Int) (⟨0,0⟩:wAQ)).bind fun x32 =>
 (mkz 48 (↑p0.Decisions.length:Int) (⟨0,0,0,0,0,0⟩:wAD)).bind fun x40 =>
 some (x32,x40)).bind fun (l23,l26) =>
 (wNx l23 0 p0.Skiers).bind fun x283 =>
 (wNx l26 0 p0.Decisions).bind fun x293 =>
 (wBT x283 (fun x=>wCc x.1 x.2)).bind fun x302 =>
 (wAz x293 (fun x=>wCd x.1 x.2)).bind fun x316 =>
 some ((⟨p0.Deadline,x302,x316⟩:wAU),0)
 else
 some ((⟨0,[],[]⟩:wAU),x9)
def wAd {S E:Type} (f:S->(Int × wAD)->Option (S ⊕ E)) (s0:S) (p1:List wAD):Option (S ⊕ E) :=
 iter (fun (x11,s12) =>
  if 0 <= x11 then
   (idx p1 x11).bind fun x31 =>
   (f s12 (x11,x31)).bind fun yr39 =>
   match yr39 with
   | .inl s49 =>
    some (.inl (w64 (x11 - 1),s49))
   | .inr s49 =>
    esc (some (.inr s49))
  else
   esc (some (.inl s12))) big (w64 ((↑p1.length:Int) - 1),s0)
def wAn (p0:List wAD):Option (Unit) :=
 some ()
def wEp (p0:wAU):Option ((Option wBJ) × Int) :=
 (wEH p0).bind fun (x5,x6) =>
 if x6=0 then
  (wAn x5.Decisions).bind fun _ =>
  (wAd (S:=(List (Int × wAD))) (E:=Empty) (fun l121 x134 =>
   if 0 < x134.2.About then
    none
   else
    some (.inl (mput l121 x134.2.Number x134.2))) ([]:List (Int × wAD)) x5.Decisions).bind fun wKE =>
  match wKE with
  | .inl y186 =>
   some ((some (⟨x5,y186,([]:List (Int × Unit))⟩:wBJ)),0)
  | .inr e189 =>
   e189.elim
 else
  some (none,x6)
def wDi (p0:wBJ) (p1:List Int):Option ((List (Int × Bool))) :=
 some ([]:List (Int × Bool))
def wEI (p0:Int) (p1:List Int):Option (Int) :=
 (wBp 0 (↑p1.length:Int) (fun k7 x6 =>
 (idx p1 (↑k7:Int)).bind fun x28 =>
 some (max x6 x28)) p0).bind fun y12 =>
 some y12
def wCE (p0:wBJ) (p1:wAQ) (p2:(wBJ × List Int × List (Int × Bool))):Option (Int × Bool) :=
 (wBp 0 (↑p0.Record.Decisions.length:Int) (fun k13 _ =>
 (idx p0.Record.Decisions (↑k13:Int)).bind fun x36 =>
 none) ()).bind fun _ =>
 if p1.Time=(-1) then
 some (0,true)
 else
 (wEI 0 [p1.Time]).bind fun x78 =>
 some (x78,false)
def wAg (p0:List wAA) (p1:Int) (p2:Int) (p3:((wAA × wAA)->Option Int)):Option ((List wAA)) :=
 iter (fun (l8,x9) =>
 if x9 < p2 then
 iter (fun (l34,x35) =>
 if p1 < x35 then
 (chk x35 l34.length).bind fun _ =>
 (chk (w64 (x35 - 1)) l34.length).bind fun _ =>
 (p3 ((gd l34 x35.toNat),(gd l34 (w64 (x35 - 1)).toNat))).bind fun x65 =>
 if x65 < 0 then
 (chk (w64 (x35 - 1)) (nL l34 x35.toNat (gd l34 (w64 (x35 - 1)).toNat)).length).bind fun _ =>
 some (.inl ((nL (nL l34 x35.toNat (gd l34 (w64 (x35 - 1)).toNat)) (w64 (x35 - 1)).toNat (gd l34 x35.toNat)),w64 (x35 - 1)))
 else
 esc (some (.inl (l34,w64 (x9 + 1))))
 else
 esc (some (.inl (l34,w64 (x9 + 1))))) big (l8,x9)
 else
 esc (some l8)) big (p0,w64 (p1 + 1))
def wBR (p0:List wAA) (p1:Int) (p2:((wAA × wAA)->Option Int)):Option ((List wAA)) :=
 (iter (fun (l16,x17,x18) =>
 if x18 <= p1 then
 (wAg l16 x17 x18 p2).bind fun x39 =>
 some (.inl (x39,x18,w64 (x18 + 20)))
 else
 esc (some (l16,x17))) big (p0,(0:Int),(20:Int))).bind fun (l2,x3) =>
 (wAg l2 x3 p1 p2).bind fun x71 =>
 iter (fun _ =>
 if 20 < p1 then
 (iter (fun _ =>
 if 40 <= p1 then
 none
 else
 esc (some ())) big ()).bind fun _ =>
 none
 else
 esc (some x71)) big ()
def wAb (p0:List wAA) (p1:((wAA × wAA)->Option Int)):Option ((List wAA)) :=
 (wBR p0 (↑p0.length:Int) p1).bind fun x2 =>
 some x2
def wBI (p0:wAA) (p1:wAA):Option (Int) :=
 (wBX p0.Total p1.Total).bind fun x9 =>
 some x9
def wDG (p0:wBJ) (p1:(wBJ × List Int × List (Int × Bool))):Option ((List wAA)) :=
 (wBp 0 (↑p0.Record.Skiers.length:Int) (fun k38 (l30,l34) =>
 (idx p0.Record.Skiers (↑k38:Int)).bind fun x67 =>
 (wCE p0 x67 (p1.1,p1.2.1,p1.2.2)).bind fun (x98,x99) =>
 if x99=true then
 (app 24 l34 [(⟨x67.Bib,-1,0⟩:wAA)]).bind fun x117 =>
 some (l30,x117)
 else
 (app 24 l30 [(⟨x67.Bib,0,x98⟩:wAA)]).bind fun x137 =>
 some (x137,l34)) ([],[])).bind fun (y43,y44) =>
 (wAb y43 (fun x=>wBI x.1 x.2)).bind fun x176 =>
 (wBp 0 (↑x176.length:Int) (fun k194 l193 =>
 (chk (↑k194:Int) l193.length).bind fun _ =>
 if 0 < (↑k194:Int) then
 (chk (↑k194:Int) (nL l193 k194 (⟨(gd l193 k194).Bib,(↑(k194 + 1):Int),(gd l193 k194).Total⟩:wAA)).length).bind fun _ =>
 (chk (w64 ((↑k194:Int) - 1)) (nL l193 k194 (⟨(gd l193 k194).Bib,(↑(k194 + 1):Int),(gd l193 k194).Total⟩:wAA)).length).bind fun _ =>
 if ((gd (nL l193 k194 (⟨(gd l193 k194).Bib,(↑(k194 + 1):Int),(gd l193 k194).Total⟩:wAA)) k194).Total)=((gd (nL l193 k194 (⟨(gd l193 k194).Bib,(↑(k194 + 1):Int),(gd l193 k194).Total⟩:wAA)) (w64 ((↑k194:Int) - 1)).toNat).Total) then
 some (nL (nL l193 k194 (⟨(gd l193 k194).Bib,(↑(k194 + 1):Int),(gd l193 k194).Total⟩:wAA)) k194 (⟨(gd (nL l193 k194 (⟨(gd l193 k194).Bib,(↑(k194 + 1):Int),(gd l193 k194).Total⟩:wAA)) k194).Bib,(gd (nL l193 k194 (⟨(gd l193 k194).Bib,(↑(k194 + 1):Int),(gd l193 k194).Total⟩:wAA)) (w64 ((↑k194:Int) - 1)).toNat).Place,(gd (nL l193 k194 (⟨(gd l193 k194).Bib,(↑(k194 + 1):Int),(gd l193 k194).Total⟩:wAA)) k194).Total⟩:wAA))
 else
 some (nL l193 k194 (⟨(gd l193 k194).Bib,(↑(k194 + 1):Int),(gd l193 k194).Total⟩:wAA))
 else
 some (nL l193 k194 (⟨(gd l193 k194).Bib,(↑(k194 + 1):Int),(gd l193 k194).Total⟩:wAA))) x176).bind fun y199 =>
 (app 24 y199 y44).bind fun x259 =>
 some x259
def wCq (p0:wAU):Option ((List wAA) × Int) :=
 (wEp p0).bind fun (x5,x6) =>
 match x5 with
 | none =>
  if x6=0 then
   none
  else
   some ([],x6)
 | some x27 =>
  if x6=0 then
   (wDi x27 []).bind fun x74 =>
   (wDG x27 (x27,[],x74)).bind fun x106 =>
   some (x106,0)
  else
   some ([],x6)
def wBf (p0:wAA) (p1:wAQ):Option (Bool) :=
 some (decide (p0.Bib=p1.Bib))
def wAo (p0:List wAA) (p1:(wAA->Option Bool)):Option (Int) :=
 jn (wGR 0 (↑p0.length:Int) (fun k2 _ =>
 (idx p0 (↑k2:Int)).bind fun x22 =>
 (p1 x22).bind fun x30 =>
 if x30=true then
 esc (some (↑k2:Int))
 else
 some (.inl ())) ()) fun _ =>
 some (-1)
def wBm (p0:wAU) (p1:List wAA):Option ((List Int) × Bool) :=
 jn (wGR 0 (↑p0.Skiers.length:Int) (fun k22 l18 =>
 (idx p0.Skiers (↑k22:Int)).bind fun x45 =>
 (wAo p1 (fun x=>wBf x x45)).bind fun x68 =>
 if x68 < 0 then
 esc (some ([],false))
 else
 if (↑p1.length:Int) <= x68 then
 esc (some ([],false))
 else
 (idx p1 x68).bind fun x94 =>
 (app 8 l18 [max 0 x94.Place]).bind fun x107 =>
 some (.inl x107)) []) fun y122 =>
 some (y122,true)
def wCB (p0:Int) (p1:Int) (p2:Int):Option (Bool) :=
 if p1 <= p0 then
 some (decide (p0 <= p2))
 else
 some false
def wDT (p0:List Int) (p1:wBq):Option (Bool) :=
 some (decide ((↑p0.length:Int)=p1.Skiers))
def wCe (p0:List Int) (p1:((List Int)->Option Bool)):Option (Bool) :=
 (p1 p0).bind fun x1 =>
 some (!x1)
def wBa (p0:List (List Int)) (p1:((List Int)->Option Bool)):Option (Int) :=
 jn (wGR 0 (↑p0.length:Int) (fun k2 _ =>
 (idx p0 (↑k2:Int)).bind fun x22 =>
 (p1 x22).bind fun x35 =>
 if x35=true then
 esc (some (↑k2:Int))
 else
 some (.inl ())) ()) fun _ =>
 some (-1)
def wAv (p0:List (List Int)) (p1:((List Int)->Option Bool)):Option (Bool) :=
 (wBa p0 p1).bind fun x1 =>
 some (decide (0 <= x1))
def wDU (p0:List (List Int)) (p1:((List Int)->Option Bool)):Option (Bool) :=
 (wAv p0 (fun x=>wCe x p1)).bind fun x13 =>
 some (!x13)
def wBd (p0:Int) (p1:(Int->Option Bool)):Option (Bool) :=
 (p1 p0).bind fun x1 =>
 some (!x1)
def wAh (p0:List Int) (p1:(Int->Option Bool)):Option (Int) :=
 jn (wGR 0 (↑p0.length:Int) (fun k2 _ =>
 (idx p0 (↑k2:Int)).bind fun x22 =>
 (p1 x22).bind fun x30 =>
 if x30=true then
 esc (some (↑k2:Int))
 else
 some (.inl ())) ()) fun _ =>
 some (-1)
def wBO (p0:List Int) (p1:(Int->Option Bool)):Option (Bool) :=
 (wAh p0 p1).bind fun x1 =>
 some (decide (0 <= x1))
def wCN (p0:List Int) (p1:(Int->Option Bool)):Option (Bool) :=
 (wBO p0 (fun x=>wBd x p1)).bind fun x13 =>
 some (!x13)
def wDV (p0:Int):Option (Bool) :=
 (wCB p0 0 1000).bind fun x1 =>
 some x1
def wCf (p0:Int):Option (Bool) :=
 (wCB p0 0 60).bind fun x1 =>
 some x1
def wDW (p0:List Int):Option (Bool) :=
 (wCN p0 wCf).bind fun x2 =>
 some x2
def wBx (p0:List Int) (p1:((Int × Int)->Option Int)):Option (Bool) :=
 iter (fun x4 =>
 if 0 < x4 then
 (idx p0 x4).bind fun x22 =>
 (idx p0 (w64 (x4 - 1))).bind fun x30 =>
 (p1 (x22,x30)).bind fun x37 =>
 if x37 < 0 then
 esc (some false)
 else
 some (.inl (w64 (x4 - 1)))
 else
 esc (some true)) big (w64 ((↑p0.length:Int) - 1))
def wEJ (p0:Int) (p1:Int):Option (Int) :=
 (wBX p1 p0).bind fun x1 =>
 some x1
def wFe (p0:List Int):Option (Bool) :=
 (wBx p0 (fun x=>wEJ x.1 x.2)).bind fun x2 =>
 some x2
def wCJ (p0:List Int):Option ((List Int)) :=
 (app 8 ([]:List Int) p0).bind fun x11 =>
 some x11
def wBg (p0:List Int) (p1:(Int->Option Bool)):Option ((List Int)) :=
 (wAh p0 p1).bind fun x9 =>
 if x9=(-1) then
 some p0
 else
 iter (fun (l35,x36,x37) =>
 if x37 < (↑l35.length:Int) then
 (chk x37 l35.length).bind fun _ =>
 (p1 (gd l35 x37.toNat)).bind fun x60 =>
 if x60=true then
 some (.inl (l35,x36,w64 (x37 + 1)))
 else
 (chk x36 l35.length).bind fun _ =>
 some (.inl ((nL l35 x36.toNat (gd l35 x37.toNat)),w64 (x36 + 1),w64 (x37 + 1)))
 else
 esc ((cut l35 0 x36).bind fun x91 =>
 some x91)) big (p0,x9,w64 (x9 + 1))
def wCr (p0:Int):Option (Bool) :=
 some (decide (p0=0))
def wCP (p0:List Int):Option (List Int):=wQb p0
def wDl (p0:List Int):Option (Bool) :=
 (wCJ p0).bind fun x1 =>
 (wBg x1 wCr).bind fun x15 =>
 (wCP x15).bind fun x28 =>
 jn (wGR 0 (↑x28.length:Int) (fun k45 x44 =>
 (chk (↑k45:Int) x28.length).bind fun _ =>
 if (↑k45:Int)=0 then
 if (gd x28 k45) < x44 then
 esc (some true)
 else
 some (.inl (w64 ((gd x28 k45) + 1)))
 else
 (chk (w64 ((↑k45:Int) - 1)) x28.length).bind fun _ =>
 if (gd x28 k45)=(gd x28 (w64 ((↑k45:Int) - 1)).toNat) then
 some (.inl (w64 (x44 + 1)))
 else
 if (gd x28 k45) < x44 then
 esc (some true)
 else
 some (.inl (w64 ((gd x28 k45) + 1)))) 1) fun y99 =>
 some (decide (61 < y99))
def wFG (p0:wBq):Option (Int) :=
 (wCB p0.Skiers 1 12).bind fun x10 =>
 if x10=true then
 (wCB p0.Races 1 20).bind fun x23 =>
 if x23=true then
 (wCB p0.Best 1 p0.Races).bind fun x36 =>
 if x36=true then
 (wCB (↑p0.Points.length:Int) 1 60).bind fun x49 =>
 if x49=true then
 if p0.Races < (↑p0.Done.length:Int) then
 some 2
 else
 (wDU p0.Done (fun x=>wDT x p0)).bind fun x76 =>
 if x76=true then
 (wCN p0.Points wDV).bind fun x94 =>
 if x94=true then
 (wDU p0.Done wDW).bind fun x110 =>
 if x110=true then
 (wFe p0.Points).bind fun x125 =>
 if x125=true then
 (wAv p0.Done wDl).bind fun x141 =>
 if x141=true then
 some 7
 else
 some 0
 else
 some 4
 else
 some 3
 else
 some 3
 else
 some 2
 else
 some 2
 else
 some 3
 else
 some 3
 else
 some 3
def wFf (p0:wBq):Option (wCM × Int) :=
 (wFG p0).bind fun x9 =>
 some ((⟨p0⟩:wCM),x9)
def wFY (p0:List Int):Option (Int) :=
 (wBp 0 (↑p0.length:Int) (fun k7 x6 =>
 (idx p0 (↑k7:Int)).bind fun x28 =>
 some (w64 (x6 + x28))) 0).bind fun y12 =>
 some y12
def wDL (p0:wBq) (p1:Int) (p2:Int):Option (Int) :=
 if (min (↑p0.Points.length:Int) (w64 ((w64 (p1 - 1)) + p2))) < p1 then
 some 0
 else
 (cut p0.Points (w64 (p1 - 1)) (min (↑p0.Points.length:Int) (w64 ((w64 (p1 - 1)) + p2)))).bind fun x8 =>
 (wFY x8).bind fun x20 =>
 some x20
def wBi (p0:wBq) (p1:List Int) (p2:Int):Option (Int) :=
 (idx p1 p2).bind fun x5 =>
 if x5=0 then
 some 0
 else
 (wBp 0 (↑p1.length:Int) (fun k21 x20 =>
 (idx p1 (↑k21:Int)).bind fun x44 =>
 if x44=x5 then
 some (w64 (x20 + 1))
 else
 some x20) 0).bind fun y26 =>
 (wDL p0 x5 y26).bind fun x73 =>
 (quo x73 y26).bind fun x83 =>
 some x83
def wBy (p0:Int) (p1:Int) (p2:wCM) (p3:Int):Option (Int) :=
 (idx p2.Cup.Done p1).bind fun x3 =>
 (idx p2.Cup.Done p0).bind fun x15 =>
 (wBi p2.Cup x3 p3).bind fun x27 =>
 (wBi p2.Cup x15 p3).bind fun x40 =>
 (wBX x27 x40).bind fun x50 =>
 some x50
def wAp (p0:List Int) (p1:Int) (p2:Int) (p3:((Int × Int)->Option Int)):Option ((List Int)) :=
 iter (fun (l8,x9) =>
 if x9 < p2 then
 iter (fun (l34,x35) =>
 if p1 < x35 then
 (chk x35 l34.length).bind fun _ =>
 (chk (w64 (x35 - 1)) l34.length).bind fun _ =>
 (p3 ((gd l34 x35.toNat),(gd l34 (w64 (x35 - 1)).toNat))).bind fun x65 =>
 if x65 < 0 then
 (chk (w64 (x35 - 1)) (nL l34 x35.toNat (gd l34 (w64 (x35 - 1)).toNat)).length).bind fun _ =>
 some (.inl ((nL (nL l34 x35.toNat (gd l34 (w64 (x35 - 1)).toNat)) (w64 (x35 - 1)).toNat (gd l34 x35.toNat)),w64 (x35 - 1)))
 else
 esc (some (.inl (l34,w64 (x9 + 1))))
 else
 esc (some (.inl (l34,w64 (x9 + 1))))) big (l8,x9)
 else
 esc (some l8)) big (p0,w64 (p1 + 1))
def wBj (p0:List Int) (p1:Int) (p2:((Int × Int)->Option Int)):Option ((List Int)) :=
 (iter (fun (l16,x17,x18) =>
 if x18 <= p1 then
 (wAp l16 x17 x18 p2).bind fun x39 =>
 some (.inl (x39,x18,w64 (x18 + 20)))
 else
 esc (some (l16,x17))) big (p0,(0:Int),(20:Int))).bind fun (l2,x3) =>
 (wAp l2 x3 p1 p2).bind fun x71 =>
 iter (fun _ =>
 if 20 < p1 then
 (iter (fun _ =>
 if 40 <= p1 then
 none
 else
 esc (some ())) big ()).bind fun _ =>
 none
 else
 esc (some x71)) big ()
def wBA (p0:List Int) (p1:((Int × Int)->Option Int)):Option ((List Int)) :=
 (wBj p0 (↑p0.length:Int) p1).bind fun x2 =>
 some x2
def wCQ (p0:wCM) (p1:Int):Option ((List Int)) :=
 (wBp 0 (↑p0.Cup.Done.length:Int) (fun k37 l33 =>
 (app 8 l33 [(↑k37:Int)]).bind fun x66 =>
 some x66) []).bind fun y42 =>
 (wBA y42 (fun x=>wBy x.1 x.2 p0 p1)).bind fun x103 =>
 (cut x103 0 (min (↑x103.length:Int) p0.Cup.Best)).bind fun x115 =>
 (wCP x115).bind fun x126 =>
 some x126
def wDM (p0:wCM) (p1:Int):Option (wHa) :=
 (wCQ p0 p1).bind fun x15 =>
 (wBp 0 (↑x15.length:Int) (fun k34 x33 =>
 (chk (↑k34:Int) x15.length).bind fun _ =>
 (idx p0.Cup.Done (gd x15 k34)).bind fun x65 =>
 (wBi p0.Cup x65 p1).bind fun x81 =>
 (wFY [x33,x81]).bind fun x101 =>
 some x101) 0).bind fun y39 =>
 (wBp 0 (↑p0.Cup.Done.length:Int) (fun k136 a135 =>
 (idx p0.Cup.Done (↑k136:Int)).bind fun x159 =>
 (idx x159 p1).bind fun x174 =>
 if 0 < x174 then
 (chk x174 61).bind fun _ =>
 some (a135.set x174.toNat (w64 ((a135.get x174.toNat) + 1)))
 else
 some a135) (Arr.fill 61 0)).bind fun y141 =>
 some (⟨y39,y141⟩:wHa)
def wDX (p0:wCM):Option ((List Int)) :=
 (wBp 0 p0.Cup.Skiers (fun k22 l18 =>
 (wDM p0 (↑k22:Int)).bind fun x47 =>
 (app 8 l18 [x47.total]).bind fun x62 =>
 some x62) []).bind fun y27 =>
 some y27
def wDu (p0:wBq):Option ((List Int) × Int) :=
 (wFf p0).bind fun (x5,x6) =>
 if x6=0 then
 (wDX x5).bind fun x31 =>
 some (x31,0)
 else
 some ([],x6)
def wDc:Option Bool:=some true
def wBl (p0:List Int):Option (Bool) :=
 (wEC p0).bind fun x1 =>
 (wCG x1 6 5 14).bind fun (x16,x17,x18,x19) =>
 (wBp 0 (↑x17.length:Int) (fun k81 l77 =>
 (idx x17 (↑k81:Int)).bind fun x106 =>
 (idx x106 (↑x16.Splits.length:Int)).bind fun x121 =>
 (app 16 l77 [(⟨(↑(k81 + 1):Int),x121⟩:wAQ)]).bind fun x133 =>
 some x133) []).bind fun y86 =>
 (wCp x16 (↑x16.Splits.length:Int)).bind fun (x191,x192) =>
 (wDJ x16 (↑x16.Splits.length:Int)).bind fun (x209,x210) =>
 (wCq (⟨0,y86,[]⟩:wAU)).bind fun (x235,x236) =>
 (wBm (⟨0,y86,[]⟩:wAU) x235).bind fun (x256,x257) =>
 if x192=0 then
 if x210=0 then
 if x236=0 then
 if x257=true then
 if (↑x191.length:Int)=(↑x256.length:Int) then
 if (↑x209.length:Int)=(↑x256.length:Int) then
 (wDu (⟨(↑x256.length:Int),1,1,[60,54,48,43,40,38],[x256]⟩:wBq)).bind fun (x326,x327) =>
 if x327=0 then
 if (↑x326.length:Int)=(↑x256.length:Int) then
 jn (wGR 0 (↑x256.length:Int) (fun k354 _ =>
 (idx x256 (↑k354:Int)).bind fun x378 =>
 (chk (↑k354:Int) x191.length).bind fun _ =>
 if ((gd x191 k354).Lo) < 1 then
 esc (some false)
 else
 if (↑x256.length:Int) < ((gd x191 k354).Hi) then
 esc (some false)
 else
 if x378 < ((gd x191 k354).Lo) then
 esc (some false)
 else
 if ((gd x191 k354).Hi) < x378 then
 esc (some false)
 else
 (chk (↑k354:Int) x326.length).bind fun _ =>
 (idx [60,54,48,43,40,38] (w64 (((gd x191 k354).Lo) - 1))).bind fun x445 =>
 if x445 < (gd x326 k354) then
 esc (some false)
 else
 (wBp 0 (↑x256.length:Int) (fun k466 b465 =>
 if b465=true then
 if (↑k466:Int)=(↑k354:Int) then
 some true
 else
 (idx x209 (↑k466:Int)).bind fun x502 =>
 (wBF x502 (↑k354:Int)).bind fun x524 =>
 some x524
 else
 some false) true).bind fun y471 =>
 if y471=true then
 if x378=1 then
 if (gd x326 k354)=60 then
 some (.inl ())
 else
 esc (some false)
 else
 esc (some false)
 else
 some (.inl ())) ()) fun _ =>
 (wDc).bind fun x590 =>
 some x590
 else
 some false
 else
 some false
 else
 some false
 else
 some false
 else
 some false
 else
 some false
 else
 some false
 else
 some false
end
end Go.Proofs.YtadbejldcmkokaaGreat
namespace Go.KL
open Go.RowKit
section
variable {B:Base} {U:PHeap} {L:List Res} {w:World}
theorem St.cutRowM {α:Type} {enc:α->List Value} {m:List α} {k c T sz b:Nat} {A:Option Addr} (h:St B U L w) (hk:L[k]?=some (.row A c T sz (nG enc m))):St B U (L.set k (.row A c T sz (nG enc (m.take b)))) w :=
 h.cutRow (a:=nG enc (m.take b)) (d:=nG enc (m.drop b)) (by rw [<- nz,List.take_append_drop];exact hk)
end
theorem slcK {A:Option Addr} {c n sz:Nat}:kb (if c=(0:Int).toNat then A else A.map (fun q:Addr=>q.add ((0:Int).toNat * sz))) n (c - (0:Int).toNat)=.slice A n c:=by
 have:A.map (fun q:Addr=>q.add ((0:Int).toNat * sz))=A:=by
  cases A with
  | none=>rfl
  | some a=>simp [Addr.add]
 rw [this]
 simp
theorem St.cutRowC {α:Type} {enc:α->List Value} {m xs:List α} {k c T sz:Nat} {b:Int} {A:Option Addr} {B:Base} {U:PHeap} {L:List Res} {w:World} (h:St B U L w) (hk:L[k]?=some (.row A c T sz (nG enc m))) (hc:cut m 0 b=some xs):St B U (L.set k (.row A c T sz (nG enc xs))) w:=by
 obtain ⟨h0,h1,h2,rfl,hn⟩:=wII hc
 have:=h.cutRowM (b:=b.toNat) hk
 simpa using this
section
variable {B:Base} {U U':PHeap} {L:List Res} {w w':World}
theorem Res.At.agree {w2:World} {r:Res} (h:r.At w) (he:∀ b,r.has b->w2.heap[b]?=w.heap[b]?):r.At w2:=by
 cases r with
 | blk b T cs=>exact (he b rfl).trans h
 | obj b o=>exact (he b rfl).trans h
 | abs fp P=>exact ⟨h.2.2 w2 he,fun b hb=>wAr ((he b hb).trans (Array.getElem?_eq_getElem (h.2.1 b hb))),fun w3 h3=>h.2.2 w3 fun b hb=>(h3 b hb).trans (he b hb)⟩
 | row A c T sz cs =>
  rcases h with h | ⟨b,cur,rfl,h1,h2⟩
  ·exact .inl h
  ·exact .inr ⟨b,cur,rfl,(he b rfl).trans h1,h2⟩
def DjL (rs:List Res):Prop:=∀ (i j:Nat) (r s:Res) (b:Nat),rs[i]?=some r->rs[j]?=some s->r.has b->s.has b->i=j
def pack (p:Prop) (rs:List Res):Res:=.abs (fun b=>∃ r ∈ rs,r.has b) (fun w=>p/\(∀ r ∈ rs,r.At w)/\DjL rs)
theorem wSU {p:Prop} {rs:List Res} (hp:p) (ha:∀ r ∈ rs,r.At w) (hd:DjL rs):(pack p rs).At w :=
 ⟨⟨hp,ha,hd⟩,fun b ⟨r,hr,hb⟩=>(ha r hr).lt hb,fun w2 h2=>⟨hp,fun r hr=>(ha r hr).agree fun b hb=>h2 b ⟨r,hr,hb⟩,hd⟩⟩
theorem wOR {α:Type} {X Y:List α} {i:Nat} {r:α} (h:(X ++ Y)[i]?=some r):X[i]?=some r \/ (X.length <= i/\Y[i - X.length]?=some r):=by
 rcases nt i X.length with h1 | h1
 ·rw [nX h1] at h;exact .inl h
 ·rw [kG h1] at h;exact .inr ⟨h1,h⟩
theorem St.unpack {p:Prop} {rs:List Res} (h:St B U (pack p rs :: L) w):p/\St B U (rs ++ L) w:=by
 obtain ⟨⟨hp,ha,hd⟩,_⟩:=h.at_ _ (kl ..)
 have ho:=h.own _ (kl ..)
 refine ⟨hp,h.os,h.tape,h.output,h.size,h.old,h.fro,h.le,h.src,fun r hr=>?_,fun r hr b hb=>?_,fun i j r s b hi hj hr hs=>?_⟩
 ·rcases kV.1 hr with hr | hr
  ·exact ha r hr
  ·exact h.at_ r (ke _ hr)
 ·rcases kV.1 hr with hr | hr
  ·exact ho b ⟨r,hr,hb⟩
  ·exact h.own r (ke _ hr) b hb
 ·rcases wOR hi with hi | ⟨h1,hi⟩ <;> rcases wOR hj with hj | ⟨h2,hj⟩
  ·exact hd i j r s b hi hj hr hs
  ·have:=h.dj 0 (j - rs.length + 1) _ s b rfl (by simpa using hj) ⟨r,nK hi,hr⟩ hs;omega
  ·have:=h.dj (i - rs.length + 1) 0 r _ b (by simpa using hi) rfl hr ⟨s,nK hj,hs⟩;omega
  ·have:=h.dj (i - rs.length + 1) (j - rs.length + 1) r s b (by simpa using hi) (by simpa using hj) hr hs;omega
theorem St.pack {p:Prop} {rs:List Res} (hp:p) (h:St B U (rs ++ L) w):St B U (pack p rs :: L) w:=by
 refine ⟨h.os,h.tape,h.output,h.size,h.old,h.fro,h.le,h.src,fun r hr=>?_,fun r hr b hb=>?_,fun i j r s b hi hj hr hs=>?_⟩
 ·rcases nh.1 hr with rfl | hr
  ·refine wSU hp (fun r hr=>h.at_ r (kf _ hr)) fun i j r s b hi hj hr hs=>?_
   exact h.dj i j r s b (by rw [nX (nI.1 hi).1];exact hi) (by rw [nX (nI.1 hj).1];exact hj) hr hs
  ·exact h.at_ r (kc _ hr)
 ·rcases nh.1 hr with rfl | hr
  ·obtain ⟨r,hr,hb⟩:=hb
   exact h.own r (kf _ hr) b hb
  ·exact h.own r (kc _ hr) b hb
 ·have up:∀ (q:Nat) (t:Res),L[q]?=some t->(rs ++ L)[rs.length + q]?=some t:=fun q t hq=>by rw [kG (by omega)];simpa using hq
  have lo:∀ (q:Nat) (t:Res),rs[q]?=some t->(rs ++ L)[q]?=some t:=fun q t hq=>by rw [nX (nI.1 hq).1];exact hq
  cases i with
  | zero =>
   simp only [kS,nj] at hi;subst hi
   cases j with
   | zero=>rfl
   | succ j =>
    obtain ⟨r,hr,hb⟩:=hr
    obtain ⟨q,hq⟩:=kg hr
    have:=h.dj q (rs.length + j) r s b (lo q r hq) (up j s (by simpa using hj)) hb hs
    have:=(nI.1 hq).1;omega
  | succ i =>
   cases j with
   | zero =>
    simp only [kS,nj] at hj;subst hj
    obtain ⟨s,hs,hb⟩:=hs
    obtain ⟨q,hq⟩:=kg hs
    have:=h.dj (rs.length + i) q r s b (up i r (by simpa using hi)) (lo q s hq) hr hb
    have:=(nI.1 hq).1;omega
   | succ j =>
    have:=h.dj (rs.length + i) (rs.length + j) r s b (up i r (by simpa using hi)) (up j s (by simpa using hj)) hr hs;omega
structure Hd where
 A:Option Addr
 n:Nat
 c:Nat
instance:Inhabited Hd:=⟨⟨none,0,0⟩⟩
def wHF (h:Hd):List Value:=[.slice h.A h.n h.c]
variable {α:Type} {T sz:Nat} {enc:α->List Value} {hs hs2:List Hd} {m m2:List (List α)}
def inR (T sz:Nat) (enc:α->List Value) (h:Hd) (l:List α):Res:=.row h.A h.c T sz (nG enc l)
def Fit (hs:List Hd) (m:List (List α)):Prop:=hs.map (·.n)=m.map List.length
def inn (T sz:Nat) (enc:α->List Value) (hs:List Hd) (m:List (List α)):Res:=pack (Fit hs m) (nT (inR T sz enc) hs m)
def wRh (T sz:Nat) (enc:α->List Value) (hs:List Hd) (m:List (List α)) (k:Nat):Res:=pack (Fit hs m/\k < m.length) ((nT (inR T sz enc) hs m).eraseIdx k)
theorem Fit.len (h:Fit hs m):hs.length=m.length:=by simpa using congrArg List.length h
theorem Fit.at_ (h:Fit hs m) {k:Nat} (hk:k < m.length):(gd hs k).n=(gd m k).length:=by
 have e:=congrArg (·[k]?) h
 have h1:=wBb (xs:=hs) (k:=k) (by rw [h.len];exact hk)
 have h2:=wBb (xs:=m) hk
 simpa [h1,h2] using e
theorem Fit.set (h:Fit hs m) {k:Nat} {A:Option Addr} {c:Nat} {l:List α}:Fit (hs.set k ⟨A,l.length,c⟩) (m.set k l):=by
 unfold Fit at *
 rw [List.map_set,List.map_set,h]
theorem St.innFit {j:Nat} (h:St B U L w) (hk:L[j]?=some (inn T sz enc hs m)):Fit hs m:=(h.at_ _ (nK hk)).1.1
theorem St.innHFit {j k:Nat} (h:St B U L w) (hk:L[j]?=some (wRh T sz enc hs m k)):Fit hs m/\k < m.length:=(h.at_ _ (nK hk)).1.1
theorem St.innNil (T sz:Nat) (enc:α->List Value) (h:St B U L w):St B U (inn T sz enc [] [] :: L) w:=St.pack (p:=Fit [] ([]:List (List α))) (rs:=[]) rfl h
theorem St.swap {r s:Res} (h:St B U (r :: s :: L) w):St B U (s :: r :: L) w:=by
 have:=h.front (k:=1) (r:=s) rfl
 exact this
theorem St.innNils (T sz:Nat) (enc:α->List Value) (h:St B U L w):∀ n:Nat,St B U (inn T sz enc (nJ n ⟨none,0,0⟩) (nJ n []) :: L) w:=by
 intro n
 refine St.pack (by simp [Fit]) ?_
 induction n with
 | zero=>exact h
 | succ n ih=>exact ih.nilrow T sz
theorem wUu (hf:Fit hs m) {k:Nat} (hk:k < m.length):(nT (inR T sz enc) hs m)[k]?=some (inR T sz enc (gd hs k) (gd m k)):=by
 rw [List.getElem?_zipWith,wBb (xs:=hs) (by rw [hf.len];exact hk),wBb (xs:=m) hk]
theorem wHb {β:Type}:∀ {l:List β} {i:Nat} (h:i < l.length),(l[i] :: l.eraseIdx i).Perm l
 | a :: l,0,_=>kx _
 | a :: l,i + 1,h=>by
  have hi:i < l.length:=by simpa using h
  simp only [List.getElem_cons_succ,List.eraseIdx_cons_succ]
  exact (List.Perm.swap a l[i] _).trans ((wHb hi).cons a)
theorem wRi (L:List Res):DjL L ↔ L.Pairwise (fun r s=>∀ b,r.has b->¬ s.has b):=by
 rw [kK]
 constructor
 ·intro h i j hi hj hij b h1 h2
  have:=h i j _ _ b (nE hi) (nE hj) h1 h2
  omega
 ·intro h i j r s b hi hj h1 h2
  obtain ⟨hi',rfl⟩:=nI.1 hi
  obtain ⟨hj',rfl⟩:=nI.1 hj
  rcases Nat.lt_trichotomy i j with q | q | q
  ·exact absurd h2 (h i j hi' hj' q b h1)
  ·exact q
  ·exact absurd h1 (h j i hj' hi' q b h2)
theorem St.perm {L':List Res} (h:St B U L w) (p:L.Perm L'):St B U L' w :=
 ⟨h.os,h.tape,h.output,h.size,h.old,h.fro,h.le,h.src,fun r hr=>h.at_ r (p.mem_iff.2 hr),fun r hr=>h.own r (p.mem_iff.2 hr),
  (wRi L').2 ((p.pairwise_iff fun hab b h1 h2=>hab b h2 h1).1 ((wRi L).1 h.dj))⟩
theorem wSV (hs:List Hd) (m:List (List α)) (k:Nat) (h:Hd) (l:List α):nT (inR T sz enc) (hs.set k h) (m.set k l)=(nT (inR T sz enc) hs m).set k (inR T sz enc h l):=by
 induction hs generalizing m k with
 | nil=>simp
 | cons a hs ih =>
  cases m with
  | nil=>simp
  | cons b m =>
   cases k with
   | zero=>simp
   | succ k=>simp [ih]
theorem St.innTake {k:Nat} (h:St B U (inn T sz enc hs m :: L) w) (hk:k < m.length):St B U (.row (gd hs k).A (gd hs k).c T sz (nG enc (gd m k)) :: wRh T sz enc hs m k :: L) w:=by
 obtain ⟨p,h1⟩:=h.unpack
 have hl:k < (nT (inR T sz enc) hs m).length:=by rw [kh,p.len];omega
 have e:(nT (inR T sz enc) hs m)[k]=inR T sz enc (gd hs k) (gd m k):=by
  have:=wUu (T:=T) (sz:=sz) (enc:=enc) p hk
  rw [nE hl] at this
  exact nu this
 have h2:=h1.perm ((wHb hl).symm.append_right L)
 rw [e] at h2
 refine St.swap (St.pack ⟨p,hk⟩ (h2.perm ?_))
 exact List.perm_middle.symm
theorem St.innPut {k:Nat} {A:Option Addr} {c:Nat} {l:List α} (h:St B U (.row A c T sz (nG enc l) :: wRh T sz enc hs m k :: L) w):St B U (inn T sz enc (hs.set k ⟨A,l.length,c⟩) (m.set k l) :: L) w:=by
 obtain ⟨⟨p,hk⟩,h1⟩:=h.swap.unpack
 refine St.pack p.set ?_
 rw [wSV]
 have hl:k < ((nT (inR T sz enc) hs m).set k (inR T sz enc ⟨A,l.length,c⟩ l)).length:=by rw [List.length_set,kh,p.len];omega
 have h2:=h1.perm List.perm_middle
 refine h2.perm (kv ?_ ((wHb hl).append_right L))
 rw [List.getElem_set_self,List.eraseIdx_set_eq]
 exact kx _
theorem St.innFreeze {R:Rl (List α)} (hR:∀ U A c l,Sl U sz A c l.length (nG enc l)->R.r U l [.slice A l.length c]) (he:∀ x,(enc x).length=sz) (hz:0 < sz):∀ {hs:List Hd} {m:List (List α)} {U:PHeap} {L:List Res},Fit hs m->St B U (nT (inR T sz enc) hs m ++ L) w->∃ U',PHeap.Le U U'/\RlL U' R m (nG wHF hs)/\St B U' L w
 | [],[],U,L,_,h=>⟨U,PHeap.Le.refl U,RlL.nil,h⟩
 | [],_ :: _,_,_,p,_=>by cases p
 | _ :: _,[],_,_,p,_=>by cases p
 | a :: hs,l :: m,U,L,p,h=>by
  have p1:a.n=l.length/\Fit hs m:=by simpa [Fit] using p
  obtain ⟨U1,g1,g2,g3⟩:=St.freezeR (n:=l.length) (sz:=sz) h (k:=0) rfl (wAC he l) hz
  obtain ⟨U2,k1,k2,k3⟩:=St.innFreeze hR he hz p1.2 g3
  refine ⟨U2,g1.trans k1,?_,k3⟩
  have:=RlL.cons (hR U2 a.A a.c l (g2.le k1)) k2
  rw [<- p1.1] at this
  exact this
theorem St.freezeN {R:Rl (List α)} {A:Option Addr} {c S:Nat} (h:St B U (.row A c S 1 (nG wHF hs) :: inn T sz enc hs m :: L) w) (hR:∀ U A c l,Sl U sz A c l.length (nG enc l)->R.r U l [.slice A l.length c]) (he:∀ x,(enc x).length=sz) (hz:0 < sz) (hR1:R.sz=1) :
  ∃ U',PHeap.Le U U'/\SlR U' R A c m/\St B U' L w:=by
 obtain ⟨p,h1⟩:=h.swap.unpack
 obtain ⟨U1,g1,g2,g3⟩:=St.innFreeze hR he hz p h1
 obtain ⟨U2,k1,k2,k3⟩:=g3.freezeRR (k:=0) rfl g2 hR1 (by decide)
 exact ⟨U2,g1.trans k1,k2,k3⟩
theorem wUv {bytes:Nat} {n:Int} {xs:List (List α)} (h:mkz bytes n ([]:List α)=some xs):mkz bytes n (⟨none,0,0⟩:Hd)=some (nJ xs.length ⟨none,0,0⟩)/\xs=nJ xs.length []:=by
 unfold mkz at *
 split at h
 ·rename_i q
  cases h
  rw [if_pos q]
  simp
 ·cases h
theorem St.innMade {bytes:Nat} {n:Int} {xs:List (List α)} (T sz:Nat) (enc:α->List Value) (hm:mkz bytes n ([]:List α)=some xs) (h:St B U L w):St B U (inn T sz enc (nJ xs.length (⟨none,0,0⟩:Hd)) xs :: L) w:=by
 have h1:=h.innNils T sz enc xs.length
 have e:=(wUv hm).2
 rw [<- e] at h1
 exact h1
end
section
variable {N:Nat} {P:Program} {l:List Oper} {Q:wDx} {D:List Deferred} {ks:List Nat} {σ:Env} {w:World} {i d:Nat} {s:Sch} {o:Oper} {B:Base} {U:PHeap} {L:List Res}
theorem RunsK.to {v v':Value} (h:RunsK P σ w o v) (e:v=v'):RunsK P σ w o v':=e ▸ h
theorem OKS.makeSliceN {α:Type} {t e:TypeId} {inf:TypeInfo} {x y:Operand} {n:Int} {xs:List (List α)} (ho:l[i]?=some o) (hd:o.dst=some d) (hN:nQ d N=true) (hw:wanted l σ o=true) (hop:o.op=.makeSlice t x y)
  (ht:P.underlying t=some (.slice e)) (hi:P.info? e=some inf) (hz:inf.zero=some (.slice none 0 0)) (hc:(kb none 0 0).cells=#[.slice none 0 0]) (hs:inf.size=1) (hx:ev σ x=.int .i64 n) (hy:ev σ y=.int .i64 n) (hm:mkz inf.bytes n ([]:List α)=some xs) (hS:St B U L w)
  (k:∀ w' b,St B U (.row (some ⟨b,0,none⟩) xs.length e 1 (nG wHF (nJ xs.length (⟨none,0,0⟩:Hd))) :: L) w'->OKS N P l Q D ks s (upd σ d (.slice (some ⟨b,0,none⟩) xs.length xs.length)) w'):OKS N P l Q D ks (.fx i s .stop) σ w:=by
 refine OKS.makeSliceR (z:=([]:List α)) ho hd hN hw hop ht hi hz hc hs hx hy hm hS fun w' b h=>k w' b ?_
 rw [wEB (enc:=wHF) (v:=.slice none 0 0) rfl]
 exact h
end
section
variable {K V:Type} [DecidableEq K] {P:Program} {σ:Env} {o:Oper} {B:Base} {U U':PHeap} {L:List Res} {w:World} {m ck:Nat} {es:Array MapEntry} {mk:K->Value} {mv:V->Value} {t:List (K × V)}
def MpF {K V:Type} (U:PHeap) (m:Nat) (es:Array MapEntry) (ck:Nat) (mk:K->Value) (mv:V->Value) (l:List (K × V)):Prop:=U m=some (.map es ck)/\MpR es mk mv l
theorem MpF.le {K V:Type} {mk:K->Value} {mv:V->Value} {t:List (K × V)} (h:MpF U m es ck mk mv t) (l:PHeap.Le U U'):MpF U' m es ck mk mv t:=⟨l _ _ h.1,h.2⟩
theorem St.freezeM {K V:Type} {mk:K->Value} {mv:V->Value} {t:List (K × V)} (h:St B U L w) {k:Nat} (hk:L[k]?=some (.obj m (.map es ck))) (hr:MpR es mk mv t) :
  ∃ U',PHeap.Le U U'/\MpF U' m es ck mk mv t/\St B U' (L.eraseIdx k) w:=by
 obtain ⟨U',h1,h2,h3⟩:=h.freezeO hk
 exact ⟨U',h1,⟨h2,hr⟩,h3⟩
end
section
variable {B:Base} {U:PHeap} {L:List Res} {w:World}
def DjQ (rs:List Res):Prop:=∀ (i j:Nat) (r s:Res) (b:Nat),rs[i]?=some r->rs[j]?=some s->r.has b->s.has b->i=j
theorem djQ (L:List Res):DjQ L ↔ L.Pairwise (fun r s=>∀ b,r.has b->¬ s.has b):=by
 rw [kK]
 constructor
 ·intro h i j hi hj hij b h1 h2
  have:=h i j _ _ b (nE hi) (nE hj) h1 h2
  omega
 ·intro h i j r s b hi hj h1 h2
  obtain ⟨hi',rfl⟩:=nI.1 hi
  obtain ⟨hj',rfl⟩:=nI.1 hj
  rcases Nat.lt_trichotomy i j with q | q | q
  ·exact absurd h2 (h i j hi' hj' q b h1)
  ·exact q
  ·exact absurd h1 (h j i hj' hi' q b h2)
theorem St.permQ {L':List Res} (h:St B U L w) (p:L.Perm L'):St B U L' w :=
 ⟨h.os,h.tape,h.output,h.size,h.old,h.fro,h.le,h.src,fun r hr=>h.at_ r (p.mem_iff.2 hr),fun r hr=>h.own r (p.mem_iff.2 hr),
  (djQ L').2 ((p.pairwise_iff fun hab b h1 h2=>hab b h2 h1).1 ((djQ L).1 h.dj))⟩
end
def Kn:List (Nat × Value)->Env->Prop
 | [],_=>True
 | p :: l,σ=>σ p.1=p.2/\Kn l σ
theorem Kn.upd {d:Nat} {v:Value} {σ:Env}:∀ {kn:List (Nat × Value)},Kn kn σ->kn.all (fun p=>!Nat.beq p.1 d)=true->Kn kn (upd σ d v)
 | [],_,_=>trivial
 | p :: l,⟨h1,h2⟩,h=>by
  rw [List.all_cons,nA] at h
  refine ⟨?_,h2.upd h.2⟩
  have hne:p.1 ≠ d:=fun e=>by rw [e] at h;simp at h
  have hb:nD p.1 d=false:=by
   cases hq:nD p.1 d with
   | false=>rfl
   | true=>exact absurd (nB hq) hne
  show (bif nD p.1 d then v else σ p.1)=p.2
  rw [hb]
  exact h1
theorem wRj (σ:Env) (d:Nat) (v:Value):upd σ d v d=v:=by
 show (bif nD d d then v else σ d)=v
 rw [Nat.beq_refl];rfl
theorem wSW {σ:Env} {d t:Nat} {v:Value} (h:t ≠ d):upd σ d v t=σ t:=by
 have hb:nD t d=false:=by
  cases hq:nD t d with
  | false=>rfl
  | true=>exact absurd (nB hq) h
 show (bif nD t d then v else σ t)=σ t
 rw [hb];rfl
section
variable {P:Program} {r:Option Nat} {N:Nat} {Q:wDx} {D:List Deferred} {l:List Oper}
theorem CK.anyDone {id:Nat} {σ:Env} {w:World} (hm:P.follows .mixedOrders=true) (hpr:∀ i,i < l.length->∀ j ∈ prI l i,j < i) (J:(Nat->Bool)->Env->World->Prop)
  (h0:J (fun _=>false) σ { w with drawn:=w.drawn + 1 })
  (step:∀ S i σ w,i < l.length->S i=false->(∀ j ∈ prI l i,S j=true)->(∀ k,k < l.length->S k=true->∀ j ∈ prI l k,S j=true)->(∀ k,S k=true->k < l.length)->J S σ w ->
   ∃ o,l[i]?=some o/\(∀ d,o.dst=some d->d < N)/\Step1 P l o σ w fun v w'=>J (fun k=>k == i || S k) (put' σ o v) w')
  (fin:∀ S σ w,(∀ i,i < l.length->S i=true)->J S σ w->Q D .normal σ w):CK r N P (.region id l.toArray true) Q D σ w:=by
 intro a ha
 refine wpIn_region_any hm ?_
 have prog:∀ (listed:Array Bool),listed.size=l.length->Region.ready .any l.toArray listed=[]->∀ i,i < l.length->listed.getD i false=true:=by
  intro listed hsz hnil i
  induction i using kW with
  | _ i ih =>
   intro hi
   cases hb:listed.getD i false with
   | true=>rfl
   | false =>
    have:i ∈ Region.ready .any l.toArray listed:=(wFB hsz).2 ⟨hi,hb,fun j hj=>ih j (hpr i hi j hj) (Nat.lt_trans (hpr i hi j hj) hi)⟩
    rw [hnil] at this;cases this
 have core:∀ (fuel:Nat) (listed:Array Bool) (σ:Env) (a:Act) (w:World),listed.size=l.length->Rep N D a σ->(∀ k,k < l.length->listed.getD k false=true->∀ j ∈ prI l k,listed.getD j false=true) ->
   J (fun i=>listed.getD i false) σ w->(listed.toList.filter (! ·)).length <= fuel->wpAnyIn (WF r) 0 P .any l.toArray (wJe N Q) fuel listed a w:=by
  intro fuel
  induction fuel with
  | zero =>
   intro listed σ a w hsz hr hdc hJ hf
   have hall:∀ i,i < l.length->listed.getD i false=true:=by
    intro i hi
    cases hb:listed.getD i false with
    | true=>rfl
    | false=>have:=wHB listed i (by omega) hb;omega
   refine ⟨?_,σ,D,hr,fin _ σ w hall hJ⟩
   cases hr:Region.ready .any l.toArray listed with
   | nil=>rfl
   | cons x xs =>
    have hx:x ∈ Region.ready .any l.toArray listed:=by rw [hr];simp
    obtain ⟨h1,h2,_⟩:=(wFB hsz).1 hx
    rw [hall x h1] at h2;cases h2
  | succ fuel ih =>
   intro listed σ a w hsz hr hdc hJ hf
   refine ⟨fun hnil=>⟨σ,D,hr,fin _ σ w (prog listed hsz hnil) hJ⟩,fun i hi=>?_⟩
   obtain ⟨hlt,hun,hpi⟩:=(wFB hsz).1 hi
   have hsz':(listed.setIfInBounds i true).size=l.length:=by simpa using hsz
   have hf':((listed.setIfInBounds i true).toList.filter (! ·)).length <= fuel:=by have:=wHB listed i (by omega) hun;omega
   have hS:∀ k,listed.getD k false=true->k < l.length:=by
    intro k hk
    rcases nt k l.length with h | h
    ·exact h
    ·rw [nb,Array.getElem?_eq_none (by omega)] at hk;cases hk
   obtain ⟨o,ho,hN,hst⟩:=step _ i σ w hlt hun hpi hdc hS hJ
   refine wIE ho hr hN hst ?_
   intro v w' a' hr' hJ'
   refine ih _ (put' σ o v) a' w' hsz' hr' ?_ ?_ hf'
   ·intro k hk hkl j hj
    rw [wHA (by omega)] at hkl ⊢
    rcases hkl with rfl | hkl
    ·exact .inr (hpi j hj)
    ·exact .inr (hdc k hk hkl j hj)
   ·have e:(fun k=>(listed.setIfInBounds i true).getD k false)=fun k=>k == i || listed.getD k false:=by
     funext k
     rw [kX,wHA (by omega),Bool.or_eq_true,beq_iff_eq]
    rw [e]
    exact hJ'
 have rep:∀ k,(nU l.toArray.size false).getD k false=false:=by
  intro k
  rw [nb,kM]
  split <;> rfl
 refine core l.toArray.size (nU l.toArray.size false) σ a _ (by simp) ha ?_ ?_ ?_
 ·intro k hk hkl
  rw [rep k] at hkl
  cases hkl
 ·have e:(fun i=>(nU l.toArray.size false).getD i false)=fun _=>false:=by
   funext i
   rw [nb,kM]
   split <;> rfl
  rw [e]
  exact h0
 ·exact kO (List.length_filter_le _ _) (by simp)
structure Wb where
 d:Nat
 use:List Nat
 need:List Nat
 fl:Bool
 post:Env->List Res->Prop
def rsE (use:List Nat) (σ:Env):Env:=fun t=>bif use.contains t then σ t else undef
def Wb.at (a:Wb) (σ:Env) (R:List Res):Prop:=a.post (rsE a.use σ) R
theorem Wb.at_congr {a:Wb} {σ σ':Env} {R:List Res} (h:a.at σ R) (e:∀ t ∈ a.use,σ' t=σ t):a.at σ' R:=by
 have:rsE a.use σ'=rsE a.use σ:=by
  funext t
  unfold rsE
  cases c:a.use.contains t with
  | false=>rfl
  | true=>exact e t (nM.1 c)
 unfold Wb.at
 rw [this]
 exact h
end
section
variable {P:Program} {r:Option Nat} {N:Nat} {Q:wDx} {D:List Deferred} {l:List Oper}
theorem wJn {H H':Nat->List Res} {n:Nat} (h:∀ k,k < n->H k=H' k):(nH n).flatMap H=(nH n).flatMap H':=by
 rw [nm,nm]
 congr 1
 exact ki fun k hk=>h k (kA.1 hk)
theorem wLh (H:Nat->List Res) {i:Nat}:∀ {n:Nat},i < n->((nH n).flatMap H).Perm (H i ++ (nH n).flatMap fun k=>if k=i then [] else H k)
 | 0,h=>by omega
 | n + 1,h=>by
  rw [List.range_succ,nz,nz]
  simp only [nW,List.flatMap_nil,kY]
  by_cases e:i=n
  ·subst e
   rw [if_pos rfl,kY,wJn (H:=fun k=>if k=i then [] else H k) (H':=H) fun k hk=>if_neg (by omega)]
   exact nV
  ·rw [if_neg fun h=>e h.symm,<- nS]
   exact (wLh H (by omega)).append_right _
theorem wMY {n:Nat}:∀ (js:List Nat) (H:Nat->List Res),js.Nodup->(∀ j ∈ js,j < n)->((nH n).flatMap H).Perm (js.flatMap H ++ (nH n).flatMap fun k=>if k ∈ js then [] else H k)
 | [],H,_,_=>.of_eq (by simp)
 | j :: js,H,hd,hn=>by
  have hd:=List.nodup_cons.1 hd
  have p1:=wMY js H hd.2 fun i hi=>hn i (.tail _ hi)
  have p2:=wLh (fun k=>if k ∈ js then [] else H k) (hn j (.head _))
  simp only [if_neg hd.1] at p2
  have e:(nH n).flatMap (fun k=>if k=j then [] else if k ∈ js then [] else H k)=(nH n).flatMap fun k=>if k ∈ j :: js then [] else H k:=wJn fun k _=>by
   by_cases c:k=j
   ·simp [c]
   ·by_cases c2:k ∈ js <;> simp [c,c2]
  rw [e] at p2
  rw [nW]
  refine p1.trans ((p2.append_left _).trans ?_)
  rw [<- nS]
  exact nV.append_right _
structure Wp where
 d:Option Nat
 use:List Nat
 need:List Nat
 fl:Bool
 tk:List Nat
 tkn:Bool
 pre:List Res
 post:Env->List Res->Prop
def wp0:Wp:=⟨none,[],[],false,[],false,[],fun _ _=>False⟩
def Wp.at (a:Wp) (σ:Env) (R:List Res):Prop:=a.post (rsE a.use σ) R
theorem Wp.at_congr {a:Wp} {σ σ':Env} {R:List Res} (h:a.at σ R) (e:∀ t ∈ a.use,σ' t=σ t):a.at σ' R:=Wb.at_congr (a:=⟨0,a.use,[],false,a.post⟩) h e
def pW (d:Nat) (need:List Nat) (x:Value):Wp:=⟨some d,[d],need,true,[],false,[],fun σ R=>σ d=x/\R=[]⟩
def pX (d:Nat) (need:List Nat) (x:Value):Wp:=⟨some d,[d],need,false,[],false,[],fun σ R=>σ d=x/\R=[]⟩
theorem wRk (σ:Env) (d:Nat):rsE [d] σ d=σ d:=by simp [rsE]
def updo (σ:Env) (d:Option Nat) (v:Value):Env:=match d with
 | none=>σ
 | some d=>upd σ d v
def WpT (A:List Wp):List Nat->Env->List Res->Prop
 | [],_,R=>R=[]
 | j :: t,σ,R=>∃ R1 R2,(A.getD j wp0).at σ R1/\WpT A t σ R2/\R=R1 ++ R2
theorem wRl {A:List Wp} {σ:Env} {f:Nat->List Res}:∀ (t:List Nat),(∀ j ∈ t,(A.getD j wp0).at σ (f j))->WpT A t σ (t.flatMap f)
 | [],_=>rfl
 | j :: t,h=>⟨f j,t.flatMap f,h j (.head _),wRl t fun i hi=>h i (.tail _ hi),rfl⟩
def WpD (A:List Wp):List Nat->Env->Prop
 | [],_=>True
 | k :: x,σ=>(∃ R,(A.getD k wp0).at σ R)/\WpD A x σ
theorem wRm {A:List Wp} {σ:Env}:∀ (x:List Nat),(∀ k ∈ x,∃ R,(A.getD k wp0).at σ R)->WpD A x σ
 | [],_=>trivial
 | k :: x,h=>⟨h k (.head _),wRm x fun i hi=>h i (.tail _ hi)⟩
def WpOK (N:Nat) (P:Program) (l:List Oper) (D:List Deferred) (B:Base) (U0:PHeap) (L0:List Res) (kn:List (Nat × Value)) (A:List Wp) (a:Wp) (i:Nat):Prop :=
 ∀ (Q:wDx) (σ:Env) (w:World) (U:PHeap) (L R0:List Res),Kn kn σ->PHeap.Le U0 U->WpD A a.need σ->WpT A a.tk σ R0->St B U (a.pre ++ (R0 ++ (L0 ++ L))) w ->
 (∀ v w' U' R,PHeap.Le U U'->St B U' (R ++ (L0 ++ L)) w'->a.at (updo σ a.d v) R->OKS N P l Q D [] .nil (updo σ a.d v) w')->OKS N P l Q D [] (bif a.fl then .fl i .nil else .fx i .nil .stop) σ w
theorem wpW {B:Base} {U0:PHeap} {L0:List Res} {kn:List (Nat × Value)} {A:List Wp} {d i:Nat} {need:List Nat} {x:Value} (h:∀ (Q:wDx) (σ:Env) (w:World) (U:PHeap) (L:List Res),Kn kn σ->PHeap.Le U0 U->WpD A need σ->St B U (L0 ++ L) w->OKS N P l Q D [] .nil (upd σ d x) w->OKS N P l Q D [] (.fl i .nil) σ w):WpOK N P l D B U0 L0 kn A (pW d need x) i :=
 fun Q σ w U L R0 hk le hd hR hS kk=>by
  obtain rfl:R0=[]:=hR
  exact h Q σ w U L hk le hd hS (kk x w U [] (PHeap.Le.refl _) hS ⟨(wRk _ _).trans (wRj _ _ _),rfl⟩)
theorem wpX {B:Base} {U0:PHeap} {L0:List Res} {kn:List (Nat × Value)} {A:List Wp} {d i:Nat} {need:List Nat} {x:Value} (h:∀ (Q:wDx) (σ:Env) (w:World) (U:PHeap) (L:List Res),Kn kn σ->PHeap.Le U0 U->WpD A need σ->St B U (L0 ++ L) w->OKS N P l Q D [] .nil (upd σ d x) w->OKS N P l Q D [] (.fx i .nil .stop) σ w):WpOK N P l D B U0 L0 kn A (pX d need x) i :=
 fun Q σ w U L R0 hk le hd hR hS kk=>by
  obtain rfl:R0=[]:=hR
  exact h Q σ w U L hk le hd hS (kk x w U [] (PHeap.Le.refl _) hS ⟨(wRk _ _).trans (wRj _ _ _),rfl⟩)
def WpH (N:Nat) (P:Program) (l:List Oper) (D:List Deferred) (B:Base) (U0:PHeap) (L0:List Res) (kn:List (Nat × Value)) (A:List Wp):List Wp->Nat->Prop
 | [],_=>True
 | a :: x,i=>WpOK N P l D B U0 L0 kn A a i/\WpH N P l D B U0 L0 kn A x (i + 1)
def WpE (G:Env->List Res->Prop):List Wp->Env->List Res->Prop
 | [],σ,L=>G σ L
 | a :: x,σ,L=>∀ R,a.at σ R->WpE G x σ ((bif a.tkn then [] else R) ++ L)
def wpI (l:List Oper) (A:List Wp) (i:Nat):Bool:=match l[i]?,A[i]? with
 | some o,some a=>o.dst == a.d && a.need.all (fun k=>(prI l i).any fun j=>j == k || (A.getD j wp0).need.contains k) && a.use.all (fun t=>some t == a.d || (prI l i).any fun j=>(A.getD j wp0).d == some t || (A.getD j wp0).use.contains t) && a.tk.all (fun j=>(prI l i).contains j && nQ j A.length) && (a.tkn == A.any fun b=>b.tk.contains i)
 | _,_=>false
def wpS:Nat->List Bool->Sch
 | _,[]=>.nil
 | i,true :: x=>.fl i (wpS (i + 1) x)
 | i,false :: x=>.fx i (wpS (i + 1) x) .stop
def wSX (l:List Oper) (i:Nat):List Nat:=(nH i).reverse.foldl (fun a k=>bif a.contains k then prI l k ++ a else a) (prI l i)
def wUw (l:List Oper) (A:List Wp) (fs:List Bool) (kn:List (Nat × Value)):Bool :=
 l.length == A.length + fs.length && nQ 0 fs.length && (nH l.length).all (fun i=>(prI l i).all (nQ · i)) && (nH A.length).all (wpI l A) && decide ((A.flatMap (·.d.toList)).Nodup) && decide ((A.flatMap (·.tk)).Nodup) && (nH fs.length).all (fun q=>(nH (A.length + q)).all fun k=>(wSX l (A.length + q)).contains k) && A.all (fun a=>kn.all fun p=>!(a.d == some p.1))
theorem wLi {S:Nat->Bool} {i:Nat} (hi:i <= l.length) (hp:∀ j ∈ prI l i,S j=true) (hdc:∀ k,k < l.length->S k=true->∀ j ∈ prI l k,S j=true):∀ j ∈ wSX l i,S j=true:=by
 unfold wSX
 have:∀ (x:List Nat) (a:List Nat),(∀ k ∈ x,k < l.length)->(∀ j ∈ a,S j=true)->∀ j ∈ x.foldl (fun a k=>bif a.contains k then prI l k ++ a else a) a,S j=true:=by
  intro x
  induction x with
  | nil=>intro a _ h;exact h
  | cons k x ih =>
   intro a hx h
   refine ih _ (fun q hq=>hx q (.tail _ hq)) ?_
   show ∀ j ∈ (bif a.contains k then prI l k ++ a else a),S j=true
   cases c:a.contains k with
   | false=>exact h
   | true =>
    intro j hj
    rcases kV.1 hj with hj | hj
    ·exact hdc k (hx k (.head _)) (h k (nM.1 c)) j hj
    ·exact h j hj
 exact this _ _ (fun k hk=>by have:=kA.1 (List.mem_reverse.1 hk);omega) hp
theorem wRn {B:Base} {U0:PHeap} {L0:List Res} {kn:List (Nat × Value)} {A:List Wp}:∀ {x:List Wp} {i:Nat},WpH N P l D B U0 L0 kn A x i->∀ (k:Nat) (a:Wp),x[k]?=some a->WpOK N P l D B U0 L0 kn A a (i + k)
 | [],_,_,k,a,h=>by simp at h
 | b :: x,i,⟨h1,_⟩,0,a,h=>by
  simp at h
  subst h
  exact h1
 | _ :: x,i,⟨_,h2⟩,k + 1,a,h=>by
  have:=wRn h2 k a (by simpa using h)
  rwa [show i + 1 + k=i + (k + 1) by omega] at this
def wUx (g:Nat->List Res):Nat->Nat->List Res->List Res
 | 0,_,L=>L
 | n + 1,i,L=>wUx g n (i + 1) (g i ++ L)
theorem wKk (g:Nat->List Res):∀ (n i:Nat) (L:List Res),(wUx g n i L).Perm ((List.range' i n).flatMap g ++ L)
 | 0,i,L=>.of_eq (by simp [wUx])
 | n + 1,i,L=>by
  refine (wKk g n (i + 1) (g i ++ L)).trans ?_
  rw [List.range'_succ,nW,<- nS]
  exact nV.append_right L
theorem wRo {G:Env->List Res->Prop} {σ:Env}:∀ (x:List Wp) (f g:Nat->List Res) (i:Nat) (L:List Res),WpE G x σ L->(∀ (k:Nat) (a:Wp),x[k]?=some a->a.at σ (f (i + k))/\g (i + k)=bif a.tkn then [] else f (i + k))->G σ (wUx g x.length i L)
 | [],f,g,i,L,h,_=>h
 | a :: x,f,g,i,L,h,hp=>by
  have h0:=hp 0 a rfl
  have:=wRo x f g (i + 1) _ (h (f i) h0.1) fun k b hb=>by
   have:=hp (k + 1) b (by simpa using hb)
   rwa [show i + (k + 1)=i + 1 + k by omega] at this
  rw [List.length_cons,wUx,show g i=bif a.tkn then [] else f i from h0.2]
  exact this
def tkd (A:List Wp) (S:Nat->Bool) (k:Nat):Bool:=(nH A.length).any fun i=>S i && (A.getD i wp0).tk.contains k
def wHo (A:List Wp) (S:Nat->Bool) (f:Nat->List Res) (k:Nat):List Res:=bif S k then (bif tkd A S k then [] else f k) else (A.getD k wp0).pre
theorem wSY {A:List Wp} {g:Wp->List Nat} (h:(A.flatMap g).Nodup):(∀ a ∈ A,(g a).Nodup)/\∀ {i j:Nat} {a b:Wp} {t:Nat},A[i]?=some a->A[j]?=some b->t ∈ g a->t ∈ g b->i=j:=by
 induction A with
 | nil=>exact ⟨fun a h=>(nomatch h),fun h1=>by simp at h1⟩
 | cons c x ih =>
  rw [nW,List.nodup_append] at h
  obtain ⟨h1,h2,h3⟩:=h
  obtain ⟨i1,i2⟩:=ih h2
  refine ⟨fun a ha=>?_,?_⟩
  ·rcases nh.1 ha with rfl | ha
   ·exact h1
   ·exact i1 a ha
  ·intro i j a b t e1 e2 m1 m2
   have hc:∀ {q:Nat} {b:Wp},t ∈ g c->x[q]?=some b->t ∈ g b->False:=fun h5 h6 h7=>h3 t h5 t (List.mem_flatMap.2 ⟨_,nK h6,h7⟩) rfl
   cases i with
   | zero=>cases j with
    | zero=>rfl
    | succ j =>
     simp at e1 e2
     subst e1
     exact (hc m1 e2 m2).elim
   | succ i=>cases j with
    | zero =>
     simp at e1 e2
     subst e2
     exact (hc m2 e1 m1).elim
    | succ j =>
     simp at e1 e2
     rw [i2 e1 e2 m1 m2]
theorem CK.webp {id:Nat} {σ:Env} {w:World} {B:Base} {U0:PHeap} {L0:List Res} (hm:P.follows .mixedOrders=true) (A:List Wp) (fs:List Bool) (kn:List (Nat × Value)) (hc:wUw l A fs kn=true) (hk:Kn kn σ) (hS:St B U0 (A.flatMap (·.pre) ++ L0) w)
  (H:WpH N P l D B U0 L0 kn A A 0)
  (E:∀ (σ:Env) (w:World) (U:PHeap),Kn kn σ->PHeap.Le U0 U->WpE (fun σ L=>St B U (L ++ L0) w->OKS N P l Q D [] (wpS A.length fs) σ w) A σ []):CK r N P (.region id l.toArray true) Q D σ w:=by
 unfold wUw at hc
 simp only [nA,decide_eq_true_eq,nc,kA,nP,beq_iff_eq] at hc
 obtain ⟨⟨⟨⟨⟨⟨⟨hl,hf0⟩,hpr⟩,hw⟩,hd⟩,htk⟩,hlast⟩,hkn⟩:=hc
 have one:∀ {Q:wDx} {s:Sch} {i:Nat} {fl:Bool} {σ:Env} {w:World},OKS N P l Q D [] (bif fl then .fl i s else .fx i s .stop) σ w->∃ o,l[i]?=some o/\(∀ d,o.dst=some d->d < N)/\Step1 P l o σ w fun v w'=>OKS N P l Q D [] s (put' σ o v) w':=by
  intro Q s i fl σ w h
  cases fl with
  | true =>
   obtain ⟨o,ho,hN,hf⟩:=h
   exact ⟨o,ho,hN,hf.step1.mono fun v w' ⟨e,q⟩=>e ▸ q⟩
  | false =>
   obtain ⟨⟨o,ho,hN,hf⟩,_⟩:=h
   exact ⟨o,ho,hN,hf.mono fun v w' ⟨_,q⟩=>q⟩
 have get:∀ k,k < A.length->∃ a,A[k]?=some a/\A.getD k wp0=a:=fun k hk=>⟨A[k],nE hk,by rw [kH,nE hk];rfl⟩
 have spec:∀ k,k < A.length->∃ o a,l[k]?=some o/\A[k]?=some a/\A.getD k wp0=a/\o.dst=a.d/\(∀ m ∈ a.need,∃ j ∈ prI l k,j=m \/ m ∈ (A.getD j wp0).need)/\(∀ t ∈ a.use,some t=a.d \/ ∃ j ∈ prI l k,(A.getD j wp0).d=some t \/ t ∈ (A.getD j wp0).use)/\(∀ j ∈ a.tk,j ∈ prI l k/\j < A.length)/\a.tkn=A.any fun b=>b.tk.contains k:=by
  intro k hk
  obtain ⟨a,h1,h2⟩:=get k hk
  have h:=hw k hk
  unfold wpI at h
  have hlk:k < l.length:=by omega
  rw [nE hlk,h1] at h
  simp only [nA,beq_iff_eq,nc,kP,Bool.or_eq_true,nM,nP] at h
  exact ⟨l[k],a,nE hlk,h1,h2,h.1.1.1.1,h.1.1.1.2,h.1.1.2,h.1.2,h.2⟩
 have dist:∀ i k t,i < A.length->k < A.length->(A.getD i wp0).d=some t->(A.getD k wp0).d=some t->i=k:=by
  intro i k t hi hk e1 e2
  obtain ⟨a,h1,h2⟩:=get i hi
  obtain ⟨b,h3,h4⟩:=get k hk
  rw [h2] at e1
  rw [h4] at e2
  exact (wSY hd).2 h1 h3 (t:=t) (by simp [e1]) (by simp [e2])
 have needs:∀ (S:Nat->Bool),(∀ k,k < l.length->S k=true->∀ j ∈ prI l k,S j=true)->∀ j,j < A.length->S j=true->∀ m ∈ (A.getD j wp0).need,m < j/\S m=true:=by
  intro S hdc j
  induction j using kW with
  | _ j ih =>
   intro hj hs m hm
   obtain ⟨o,a,h1,h2,h3,h4,h5,h6,_⟩:=spec j hj
   rw [h3] at hm
   obtain ⟨i,hi,e⟩:=h5 m hm
   have hij:=hpr j (by omega) i hi
   have hsi:=hdc j (by omega) hs i hi
   rcases e with rfl | e
   ·exact ⟨hij,hsi⟩
   ·have:=ih i hij (by omega) hsi m e
    exact ⟨by omega,this.2⟩
 have useS:∀ (S:Nat->Bool),(∀ k,k < l.length->S k=true->∀ j ∈ prI l k,S j=true)->∀ k,k < A.length->S k=true->∀ t ∈ (A.getD k wp0).use,∃ m,m < A.length/\S m=true/\(A.getD m wp0).d=some t:=by
  intro S hdc k
  induction k using kW with
  | _ k ih =>
   intro hk hs t ht
   obtain ⟨o,a,h1,h2,h3,h4,h5,h6,_⟩:=spec k hk
   rw [h3] at ht
   rcases h6 t ht with e | ⟨j,hj,e⟩
   ·exact ⟨k,hk,hs,by rw [h3];exact e.symm⟩
   ·have hjk:=hpr k (by omega) j hj
    have hsj:=hdc k (by omega) hs j hj
    rcases e with e | e
    ·exact ⟨j,by omega,hsj,e⟩
    ·exact ih j hjk (by omega) hsj t e
 have tkS:∀ {S:Nat->Bool} {k:Nat},tkd A S k=true ↔ ∃ i,i < A.length/\S i=true/\k ∈ (A.getD i wp0).tk:=by
  intro S k
  unfold tkd
  simp only [kP,kA,nA,nM]
 refine CK.anyDone hm (fun i hi j hj=>hpr i hi j hj) (fun S σ w=>(∃ k,0 < k/\k <= fs.length/\(∀ i,i < A.length + k->S i=true)/\(∀ i,A.length + k <= i->S i=false)/\OKS N P l Q D [] (wpS (A.length + k) (fs.drop k)) σ w) \/ ((∀ i,A.length <= i->S i=false)/\∃ (U:PHeap) (f:Nat->List Res),Kn kn σ/\PHeap.Le U0 U/\(∀ k,k < A.length->S k=true->(A.getD k wp0).at σ (f k))/\St B U ((nH A.length).flatMap (wHo A S f) ++ L0) w)) (.inr ⟨fun _ _=>rfl,U0,fun _=>[],hk,PHeap.Le.refl _,(fun k _ h=>by cases h),?_⟩) ?_ ?_
 ·have e:(nH A.length).flatMap (wHo A (fun _=>false) fun _=>[])=A.flatMap (·.pre):=by
   have h1:∀ x:List Wp,x.flatMap (·.pre)=(nH x.length).flatMap fun k=>(x.getD k wp0).pre:=by
    intro x
    have h2:x=(nH x.length).map fun k=>x.getD k wp0:=by
     refine List.ext_getElem? fun i=>?_
     rw [List.getElem?_map]
     rcases nt i x.length with h | h
     ·rw [List.getElem?_range h,nE h]
      simp [nE h]
     ·rw [np h,np (by simpa using h)]
      rfl
    have h3:x.flatMap (·.pre)=((nH x.length).map fun k=>x.getD k wp0).flatMap (·.pre):=by rw [<- h2]
    rw [h3,List.flatMap_map]
   rw [h1]
   rfl
  rw [e]
  exact hS.drew
 ·intro S i σ w hi hs hp hdc hlt hJ
  rcases hJ with ⟨k,hk0,hk1,hk2,hk3,hO⟩ | ⟨hl2,U,f,hk,hle,hx,hS⟩
  ·have ik:A.length + k <= i:=by
    rcases nt i (A.length + k) with h | h
    ·rw [hk2 i h] at hs;cases hs
    ·exact h
   have ei:i=A.length + k:=by
    rcases kE ik with h | h
    ·have h1:=hlast (i - A.length) (by omega) (A.length + k) (by omega)
     rw [show A.length + (i - A.length)=i by omega] at h1
     have:=wLi (by omega) hp hdc _ (nM.1 h1)
     rw [hk3 _ (nN _)] at this
     cases this
    ·exact h.symm
   subst ei
   have hkf:k < fs.length:=by omega
   have e:wpS (A.length + k) (fs.drop k)=bif fs[k] then .fl (A.length + k) (wpS (A.length + (k + 1)) (fs.drop (k + 1))) else .fx (A.length + k) (wpS (A.length + (k + 1)) (fs.drop (k + 1))) .stop:=by
    rw [List.drop_eq_getElem_cons hkf]
    cases fs[k] <;> rfl
   rw [e] at hO
   obtain ⟨o,ho,hN,hst⟩:=one hO
   refine ⟨o,ho,hN,hst.mono fun v w' h=>.inl ⟨k + 1,by omega,hkf,fun j hj=>?_,fun j hj=>?_,h⟩⟩
   ·by_cases c:j=A.length + k
    ·simp [c]
    ·simp [c,hk2 j (by omega)]
   ·have:¬ j=A.length + k:=by omega
    simp [this,hk3 j (by omega)]
  ·by_cases e:A.length <= i
   ·have ei:i=A.length:=by
     rcases kE e with h | h
     ·have h1:=hlast (i - A.length) (by omega) A.length (by omega)
      rw [show A.length + (i - A.length)=i by omega] at h1
      have:=wLi (by omega) hp hdc _ (nM.1 h1)
      rw [hl2 _ (nN _)] at this
      cases this
     ·exact h.symm
    subst ei
    have all:∀ k,k < A.length->S k=true:=fun k hk=>wLi (by omega) hp hdc k (nM.1 (by have:=hlast 0 hf0 k (by omega);rwa [Nat.add_zero] at this))
    have h1:=wRo A f (wHo A S f) 0 [] (E σ w U hk hle) fun k a ha=>by
     have hk:k < A.length:=(nI.1 ha).1
     obtain ⟨o,b,_,h1,h2,_,_,_,_,h3⟩:=spec k hk
     rw [ha] at h1
     obtain rfl:=nu h1
     have:=hx k hk (all k hk)
     rw [h2] at this
     rw [kQ]
     refine ⟨this,?_⟩
     unfold wHo
     rw [all k hk,cond_true]
     have ee:tkd A S k=a.tkn:=by
      rw [h3,kX,tkS,kP]
      constructor
      ·rintro ⟨i,hi,_,h⟩
       obtain ⟨c,c1,c2⟩:=get i hi
       rw [c2] at h
       exact ⟨c,nK c1,nM.2 h⟩
      ·rintro ⟨c,hc,h⟩
       obtain ⟨i,hi,rfl⟩:=List.mem_iff_getElem.1 hc
       refine ⟨i,hi,all i hi,?_⟩
       rw [kH,nE hi]
       exact nM.1 h
     rw [ee]
    have h1:=fun hh=>h1 hh
    obtain ⟨b0,fs',rfl⟩:∃ b x,fs=b :: x:=by
     cases fs with
     | nil=>simp at hf0
     | cons b x=>exact ⟨b,x,rfl⟩
    have pm:=wKk (wHo A S f) A.length 0 []
    rw [kY,<- List.range_eq_range'] at pm
    have h2:=h1 (hS.permQ (pm.symm.append_right L0))
    have e2:wpS A.length (b0 :: fs')=bif b0 then .fl A.length (wpS (A.length + 1) fs') else .fx A.length (wpS (A.length + 1) fs') .stop:=by cases b0 <;> rfl
    rw [e2] at h2
    obtain ⟨o,ho,hN,hst⟩:=one h2
    refine ⟨o,ho,hN,hst.mono fun v w' h=>.inl ⟨1,by omega,by simp,fun j hj=>?_,fun j hj=>?_,h⟩⟩
    ·by_cases c:j=A.length
     ·simp [c]
     ·simp [c,all j (by omega)]
    ·have:¬ j=A.length:=by omega
     simp [this,hl2 j (by omega)]
   ·have hin:i < A.length:=by omega
    obtain ⟨o,a,h1,h2,h3,h4,h5,h6,h7,h8⟩:=spec i hin
    have ok:=wRn H i a h2
    rw [kQ] at ok
    have hwd:WpD A a.need σ:=wRm _ fun m hm=>by
     obtain ⟨j,hj,e⟩:=h5 m hm
     have hsj:=hp j hj
     have hji:=hpr i hi j hj
     have:m < A.length/\S m=true:=by
      rcases e with rfl | e
      ·exact ⟨by omega,hsj⟩
      ·have:=needs S hdc j (by omega) hsj m e
       exact ⟨by omega,this.2⟩
     exact ⟨_,hx m this.1 this.2⟩
    have nin:¬ i ∈ a.tk:=fun h=>absurd (hpr i hi i (h7 i h).1) (by omega)
    have notk:∀ j ∈ a.tk,tkd A S j=false:=by
     intro j hj
     rw [na]
     intro h
     obtain ⟨q,q1,q2,q3⟩:=tkS.1 h
     obtain ⟨b,b1,b2⟩:=get q q1
     rw [b2] at q3
     have:=(wSY htk).2 b1 h2 q3 hj
     rw [this,hs] at q2
     cases q2
    let W:Nat->List Res:=fun k=>if k ∈ i :: a.tk then [] else wHo A S f k
    have nd:(i :: a.tk).Nodup:=List.nodup_cons.2 ⟨nin,(wSY htk).1 a (nK h2)⟩
    have lt:∀ j ∈ i :: a.tk,j < A.length:=fun j hj=>by
     rcases nh.1 hj with rfl | hj
     ·exact hin
     ·exact (h7 j hj).2
    have split:((nH A.length).flatMap (wHo A S f)).Perm (a.pre ++ (a.tk.flatMap f ++ (nH A.length).flatMap W)):=by
     refine (wMY (i :: a.tk) (wHo A S f) nd lt).trans (.of_eq ?_)
     have e1:wHo A S f i=a.pre:=by
      unfold wHo
      rw [hs,cond_false,h3]
     have e2:a.tk.flatMap (wHo A S f)=a.tk.flatMap f:=by
      rw [nm,nm]
      congr 1
      refine ki fun j hj=>?_
      unfold wHo
      rw [hp j (h7 j hj).1,notk j hj]
      rfl
     rw [nW,e1,e2,nS]
    have hS0:St B U (a.pre ++ (a.tk.flatMap f ++ (L0 ++ (nH A.length).flatMap W))) w:=by
     refine hS.permQ ?_
     refine (split.append_right _).trans ?_
     rw [nS,nS]
     exact nq _ (nq _ nV)
    have st:=ok (fun _ _ σ' w'=>((i == i || S i)=true/\∃ (U:PHeap) (f:Nat->List Res),Kn kn σ'/\PHeap.Le U0 U/\(∀ k,k < A.length->(k == i || S k)=true->(A.getD k wp0).at σ' (f k))/\St B U ((nH A.length).flatMap (wHo A (fun k=>k == i || S k) f) ++ L0) w')) σ w U _ _ hk hle hwd (wRl a.tk fun j hj=>hx j (h7 j hj).2 (hp j (h7 j hj).1)) hS0 fun v w' U' R g1 g2 g3=>by
     refine ⟨by simp,U',fun k=>if k=i then R else f k,?_,hle.trans g1,fun k hk hs'=>?_,?_⟩
     ·cases ed:a.d with
      | none=>exact hk
      | some d=>exact hk.upd (nc.2 fun p hp=>by
        have:=hkn a (nK h2) p hp
        rw [ed] at this
        simp only [kJ,beq_eq_false_iff_ne,ne_eq,nj] at this
        cases hb:nD p.1 d with
        | false=>rfl
        | true=>exact absurd (nB hb).symm this)
     ·by_cases ek:k=i
      ·subst ek
       show (A.getD k wp0).at _ (if k=k then R else f k)
       rw [if_pos rfl,h3]
       exact g3
      ·show (A.getD k wp0).at _ (if k=i then R else f k)
       rw [if_neg ek]
       have hsk:S k=true:=by simpa [ek] using hs'
       refine Wp.at_congr (hx k hk hsk) fun t ht=>?_
       cases ed:a.d with
       | none=>rfl
       | some d =>
        refine wSW ?_
        rintro rfl
        obtain ⟨m,m1,m2,m3⟩:=useS S hdc k hk hsk t ht
        rw [dist m i t m1 hin m3 (by rw [h3];exact ed),hs] at m2
        cases m2
     ·refine g2.permQ ?_
      have p3:=wLh (wHo A (fun k=>k == i || S k) fun k=>if k=i then R else f k) hin
      have e3:wHo A (fun k=>k == i || S k) (fun k=>if k=i then R else f k) i=R:=by
       unfold wHo
       have:tkd A (fun k=>k == i || S k) i=false:=by
        rw [na]
        intro h
        obtain ⟨q,q1,q2,q3⟩:=tkS.1 h
        obtain ⟨_,b,_,_,b3,_,_,_,b7,_⟩:=spec q q1
        rw [b3] at q3
        have hiq:=hpr q (by omega) i (b7 i q3).1
        have:S q=true:=by
         have:¬ q=i:=by omega
         simpa [this] using q2
        have:=hdc q (by omega) this i (b7 i q3).1
        rw [hs] at this;cases this
       rw [this]
       simp
      have e4:(nH A.length).flatMap (fun k=>if k=i then [] else wHo A (fun k=>k == i || S k) (fun k=>if k=i then R else f k) k)=(nH A.length).flatMap W:=wJn fun k hk=>by
       show _=if k ∈ i :: a.tk then [] else wHo A S f k
       by_cases c:k=i
       ·simp [c]
       ·rw [if_neg c]
        by_cases c2:k ∈ a.tk
        ·rw [if_pos (.tail _ c2)]
         obtain ⟨j1,j2⟩:=h7 k c2
         unfold wHo
         have:tkd A (fun k=>k == i || S k) k=true:=tkS.2 ⟨i,hin,by simp,by rw [h3];exact c2⟩
         rw [this]
         simp [hp k j1]
        ·rw [if_neg fun h=>(nh.1 h).elim c c2]
         unfold wHo
         have:tkd A (fun k=>k == i || S k) k=tkd A S k:=by
          rw [kX,tkS,tkS]
          constructor
          ·rintro ⟨q,q1,q2,q3⟩
           have:¬ q=i:=by
            rintro rfl
            rw [h3] at q3
            exact c2 q3
           exact ⟨q,q1,by simpa [this] using q2,q3⟩
          ·rintro ⟨q,q1,q2,q3⟩
           exact ⟨q,q1,by simp [q2],q3⟩
         rw [this]
         show (bif k == i || S k then bif tkd A S k then [] else (if k=i then R else f k) else (A.getD k wp0).pre)=_
         rw [show (k == i)=false from beq_eq_false_iff_ne.2 c,Bool.false_or,if_neg c]
      rw [e3,e4] at p3
      refine kv ?_ (p3.symm.append_right L0)
      rw [nS]
      exact nq _ nV
    obtain ⟨o',ho,hN,hst⟩:=one st
    rw [h1] at ho
    obtain rfl:=nu ho
    refine ⟨o,h1,hN,hst.mono fun v w' h=>.inr ⟨fun j hj=>?_,(show _/\_ from h).2⟩⟩
    have:¬ j=i:=by omega
    simp [this,hl2 j hj]
 ·intro S σ w hall hJ
  rcases hJ with ⟨k,hk0,hk1,hk2,hk3,hO⟩ | ⟨h,_⟩
  ·have:k=fs.length:=by
    rcases kE hk1 with h | h
    ·have:=hall (A.length + k) (by omega)
     rw [hk3 _ (nN _)] at this
     cases this
    ·exact h
   subst this
   rw [List.drop_length] at hO
   exact hO
  ·have:=hall A.length (by omega)
   rw [h A.length (nN _)] at this
   cases this
end
open Go.KX (LoopAt Yd wON Dfr wOP retM)
section
variable {r:Option Nat} {N:Nat} {P:Program} {Q:wDx} {D:List Deferred} {B:Base} {U:PHeap} {L:List Res} {σ:Env} {w:World} {X S E:Type} {ar:PHeap->X->List Value->Prop}
 {PY:S->PHeap->List Res->Prop} {PE:E->PHeap->List Res->Prop} {f:S->X->Option (S ⊕ E)}
end
section
variable {N:Nat} {P:Program} {Q:wDx} {D:List Deferred} {l:List Oper} {ks:List Nat} {B:Base} {U:PHeap} {L:List Res} {σ:Env} {w:World} {o:Oper} {d i:Nat} {s:Sch}
theorem wNM (vs:List Value):∀ (l:List Value) (off n:Nat),n <= off->(wFA l off vs).take n=l.take n:=by
 induction vs with
 | nil=>intro l off n _;rfl
 | cons v vs ih =>
  intro l off n h
  rw [wFA,ih _ _ _ (by omega),List.take_set_of_le h]
theorem wRp (z:Array Value) (n:Nat):(Builtin.zeroCells z n).toList.length=n * z.size:=by simp [Builtin.zeroCells]
theorem wUy {z:Array Value} (h0:0 < z.size) (h:z.toList.all one=true) (n:Nat):(Builtin.zeroCells z n).toList.all one=true:=by
 rw [nc] at h ⊢
 intro u hu
 simp only [Builtin.zeroCells,kR,km,List.mem_map] at hu
 obtain ⟨i,_,rfl⟩:=hu
 have hi:i % z.size < z.size:=Nat.mod_lt _ h0
 rw [getElem!_pos z _ hi]
 exact h _ (Array.getElem_mem_toList hi)
theorem OKS.clearTail {α:Type} {t e T sz j c:Nat} {a:Int} {A:Option Addr} {x:Operand} {z:Value} {f:α->List Value} {m zs:List α} (ho:l[i]?=some o) (hd:o.dst=none) (hw:wanted l σ o=true) (hop:o.op=.call { callee:=.builtin .clear,args:=#[x],argTypes:=#[t] }) (hS:St B U L w) (hk:L[j]?=some (.row A c T sz (nG f m)))
  (hf:∀ x,(f x).length=sz) (hz0:0 < sz) (hc:cut m 0 a=some zs) (hx:ev σ x=.slice (if c=a.toNat then A else A.map (fun q:Addr=>q.add (a.toNat * sz))) (((m.length:Nat):Int).toNat - a.toNat) (c - a.toNat)) (ht:∀ w,(underlying t).run P w=.ok (.slice e) w) (hz:∀ w,(zeroValue e).run P w=.ok z w) (hzs:z.cells.size=sz) (hz1:z.cells.toList.all one=true) (hne:wGb (kOf ks i)=false)
  (k:∀ w',St B U (L.set j (.row A c T sz (nG f zs))) w'->OKS N P l Q D ks s σ w'):OKS N P l Q D ks (.fx i s .stop) σ w:=by
 obtain ⟨_,ha0,ha1,rfl,_⟩:=wII hc
 obtain ⟨a,rfl⟩:=kU ha0
 have ha:a <= m.length:=by omega
 have hx:ev σ x=.slice (if c=a then A else A.map (fun q:Addr=>q.add (a * sz))) (m.length - a) (c - a):=hx
 have k:∀ w',St B U (L.set j (.row A c T sz (nG f (m.take a)))) w'->OKS N P l Q D ks s σ w':=k
 by_cases e0:m.length - a=0
 ·have hS2:St B U (L.set j (.row A c T sz (nG f (m.take a)))) w:=by
   refine hS.set hk (Keep.refl w _) ?_ fun b hb=>.inl hb
   rw [List.take_of_length_le (by omega)]
   exact hS.at_ _ (nK hk)
  refine OKS.vn (v:=.tuple #[]) (w':=w) ho hd hw ⟨by rw [hop];rfl,?_⟩ (.inl hne) (k w hS2)
  rw [e0] at hx
  generalize (if c=a then A else A.map (fun q:Addr=>q.add (a * sz)))=A2 at hx
  cases A2 <;> simp [execOp,hop,resolve,invoke,builtin,hx,Builtin.clear_,ht,Result.andThen]
 ·obtain ⟨n,hn⟩:∃ n,m.length - a=n + 1:=⟨m.length - a - 1,by omega⟩
  have ml:(nG f m).length=m.length * sz:=wAC hf m
  have hR:=hS.at_ _ (nK hk)
  rcases hR with ⟨_,_,h0⟩ | ⟨b,cur,rfl,g1,g2,g3,g4,g5⟩
  ·rw [h0,kZ] at ml
   have:0 < m.length * sz:=Nat.mul_pos (by omega) hz0
   omega
  rw [ml] at g2
  have mc:m.length <= c:=Nat.le_of_mul_le_mul_right g2 hz0
  rw [if_neg (by omega),hn] at hx
  have hx:ev σ x=.slice (some ⟨b,a * sz,none⟩) (n + 1) (c - a):=by
   rw [hx]
   simp [Addr.add]
   exact Eq.symm
  have vl:(Builtin.zeroCells z.cells (n + 1)).toList.length=(n + 1) * sz:=by rw [wRp,hzs]
  have hB:Blk w b T cur.toList:=by unfold Blk;rw [g1]
  have hlt:a * sz + (Builtin.zeroCells z.cells (n + 1)).toList.length <= cur.toList.length:=by
   rw [vl,<- kq,show a + (n + 1)=m.length by omega]
   have:cur.toList.length=c * sz:=by simpa using g4
   rw [this]
   exact g2
  obtain ⟨w',h2,h3,h4,h5⟩:=wCv (P:=P) (T:=T) (a * sz) (Builtin.zeroCells z.cells (n + 1)).toList 0 cur.toList w hB hlt (nc.1 (wUy (by rw [hzs];exact hz0) hz1 (n + 1)))
  have tl:(nG f (m.take a)).length=a * sz:=by rw [wAC hf,List.length_take,ka ha]
  refine OKS.vn (v:=.tuple #[]) (w':=w') ho hd hw ⟨by rw [hop];rfl,?_⟩ (.inl hne) (k w' (hS.set hk (h4.weak fun x _ e=>by rw [e];rfl) (.inr ⟨b,(wFA cur.toList (a * sz + 0) (Builtin.zeroCells z.cells (n + 1)).toList).toArray,rfl,h3,?_,g3,?_,?_⟩) fun b hb=>.inl hb))
  ·simp [execOp,hop,resolve,invoke,builtin,hx,Builtin.clear_,ht,hz,storeCells,h2,Result.andThen]
  ·rw [tl];exact nv _ (by omega)
  ·simp [wCF,g4]
  ·rw [tl,Nat.add_zero]
   have e1:cur.toList.take (a * sz)=nG f (m.take a):=by
    have:=congrArg (List.take (a * sz)) g5
    rw [List.take_take,ml,ka (nv _ ha)] at this
    rw [this,wDq hf]
   rw [<- e1]
   exact wNM _ _ _ _ (nN _)
theorem OKS.append0 {α:Type} {t e sz j c2 bytes b:Nat} {A2:Option Addr} {inf:TypeInfo} {z:Value} {x y:Operand} {enc:α->List Value} {ys zs:List α}
  (ho:l[i]?=some o) (hd:o.dst=some d) (hN:nQ d N=true) (hw:wanted l σ o=true) (hop:o.op=.call { callee:=.builtin .append,args:=#[x,y],argTypes:=#[t,t] })
  (ht:P.underlying t=some (.slice e)) (hi:P.info? e=some inf) (hz:inf.zero=some z) (hsize:inf.size=sz) (hzs:z.cells.size=sz) (hsz:nQ 0 sz=true) (hby:inf.bytes=bytes) (hb0:nQ 0 bytes=true)
  (hS:St B U L w) (hk:L[j]?=some (.row (some ⟨b,0,none⟩) 0 e sz [])) (hx:ev σ x=.slice (some ⟨b,0,none⟩) 0 0) (hy:ev σ y=.slice A2 ys.length c2)
  (hsrc:ys.length=0 \/ ∃ a,A2=some a/\∀ j u,(ys.flatMap enc)[j]?=some u->w.cell? (a.add j)=some u) (hel:∀ x,(enc x).length=sz)
  (happ:app bytes ([]:List α) ys=some zs)
  (k:∀ A' c' w',St B U (L.set j (.row A' c' e sz (zs.flatMap enc))) w'->OKS N P l Q D ks s (upd σ d (.slice A' zs.length c')) w'):OKS N P l Q D ks (.fx i s .stop) σ w:=by
 obtain ⟨e1,hb⟩:=wOG happ
 rw [List.nil_append] at e1
 subst zs
 subst hsize hby
 have hb0':0 < inf.bytes:=by simpa [nP] using hb0
 have hsz':0 < inf.size:=by simpa [nP] using hsz
 rw [kZ,kQ] at hb
 by_cases hm:ys.length=0
 ·have:ys=[]:=List.eq_nil_of_length_eq_zero hm
  subst this
  have hr:(Builtin.append_ #[t,t] o.type #[.slice (some ⟨b,0,none⟩) 0 0,.slice A2 0 c2]).run P w=.ok (.slice (some ⟨b,0,none⟩) 0 0) w:=by
   cases A2 <;> simp [Builtin.append_,run_underlying ht,sizeOf,typeInfo,hi,Builtin.lenOf,Builtin.firstCells,loadCells,loadCellsFrom,storeCells]
  refine OKS.v (v:=.slice (some ⟨b,0,none⟩) 0 0) (w':=w) ho hd hN hw ⟨by rw [hop];rfl,?_⟩ (.inr (Keep.refl w _)) (k _ _ _ (hS.set hk (Keep.refl w _) ?_ fun b hb=>.inl hb))
  ·simp only [kZ] at hy
   simp [execOp,hop,resolve,invoke,builtin,hx,hy,hr,Result.andThen]
  ·exact hS.at_ _ (nK hk)
 ·obtain ⟨a,rfl,ha⟩:=hsrc.resolve_left hm
  have hl:(ys.flatMap enc).length=ys.length * inf.size:=wAC hel ys
  have hys:ys.length <= ys.length * inf.bytes:=Nat.le_mul_of_pos_right _ hb0'
  have hr:=run_append_grow (P:=P) w t o.type e inf z ht hi hz ⟨b,0,none⟩ 0 0 [] (by simp) (fun j v h=>by simp at h) a ys.length c2 (ys.flatMap enc) hl ha (by omega) (by omega) (growslice_fits (by omega) (by simpa using hb))
  have hG:=grownCap_ge w (0 + ys.length) 0 e
  have hG2:=grownCap_le_maxLen w (0 + ys.length) 0 e (by unfold maxLen;omega)
  generalize grownCap w (0 + ys.length) 0 e=G at hr hG hG2
  rw [kQ] at hr hG
  have ec:(([]:List Value).toArray ++ (ys.flatMap enc).toArray ++ Builtin.zeroCells z.cells (G - ys.length))=(ys.flatMap enc ++ (Builtin.zeroCells z.cells (G - ys.length)).toList).toArray:=by
   apply nw
   simp
  rw [ec] at hr
  have kp:=(Keep.drew w).trans' (wBB w.drew (.cells (ys.flatMap enc ++ (Builtin.zeroCells z.cells (G - ys.length)).toList).toArray e))
  have zl:(Builtin.zeroCells z.cells (G - ys.length)).toList.length=(G - ys.length) * inf.size:=by rw [wRp,hzs]
  refine OKS.v (v:=.slice (some ⟨w.heap.size,0,none⟩) ys.length G) (w':=w.drew.alloc (.cells (ys.flatMap enc ++ (Builtin.zeroCells z.cells (G - ys.length)).toList).toArray e)) ho hd hN hw ⟨by rw [hop];rfl,?_⟩ (.inr kp) (k _ _ _ (hS.set hk (kp.weak fun x _ h=>h.elim) (.inr ⟨_,(ys.flatMap enc ++ (Builtin.zeroCells z.cells (G - ys.length)).toList).toArray,rfl,wFF w.drew _ e,?_,hG2,?_,?_⟩) fun b hb=>.inr ?_))
  ·simp [execOp,hop,resolve,invoke,builtin,hx,hy,hr,Result.andThen]
  ·rw [hl];exact nv _ hG
  ·simp only [ko,List.length_append,zl,hl,<- kq]
   rw [show ys.length + (G - ys.length)=G by omega]
  ·simp
  ·have hb:w.heap.size=b:=nu hb
   exact Nat.le_of_eq hb
end
section
variable {N:Nat} {P:Program} {l:List Oper} {Q:wDx} {D:List Deferred} {ks:List Nat} {s:Sch} {σ:Env} {w:World} {B:Base} {U:PHeap} {L:List Res} {i d:Nat} {o:Oper}
theorem wNN (v:Value) (k n:Nat) (hk:0 < k):madeCells (nU k v) n=(nJ n v).toArray:=by
 apply nw
 simp only [madeCells]
 apply List.ext_getElem
 ·simp
 ·intro i h1 h2
  simp at h1 ⊢
  have hm:i % k < (nU k v).size:=by simpa using Nat.mod_lt i hk
  rw [getElem!_pos (nU k v) (i % k) hm]
  simp
theorem wHG {α:Type} {enc:α->List Value} {z:α} {v:Value} {k:Nat} (h:enc z=nJ k v) (n:Nat):nG enc (nJ n z)=nJ (n * k) v:=by
 induction n with
 | zero=>simp
 | succ n ih=>rw [kj,nW,ih,h,List.replicate_append_replicate,kq,Nat.one_mul,Nat.add_comm]
theorem OKS.makeSliceZ {α:Type} {t e:TypeId} {inf:TypeInfo} {x y:Operand} {n:Int} {v u:Value} {enc:α->List Value} {z:α} {xs:List α} {sz:Nat} (ho:l[i]?=some o) (hd:o.dst=some d) (hN:nQ d N=true) (hw:wanted l σ o=true) (hop:o.op=.makeSlice t x y)
  (ht:P.underlying t=some (.slice e)) (hi:P.info? e=some inf) (hz:inf.zero=some u) (hc:u.cells=nU sz v) (hs:inf.size=sz) (henc:enc z=nJ sz v) (hsz:0 < sz) (hb:sz <= 16) (hx:ev σ x=.int .i64 n) (hy:ev σ y=.int .i64 n) (hm:mkz inf.bytes n z=some xs) (hS:St B U L w)
  (k:∀ w' b,St B U (.row (some ⟨b,0,none⟩) xs.length e sz (nG enc xs) :: L) w'->OKS N P l Q D ks s (upd σ d (.slice (some ⟨b,0,none⟩) xs.length xs.length)) w'):OKS N P l Q D ks (.fx i s .stop) σ w:=by
 unfold mkz at hm
 split at hm
 ·rename_i h
  obtain ⟨h0,h1,h2⟩:=h
  cases hm
  obtain ⟨m,rfl⟩:=kU h0
  have hr:=run_make (P:=P) w t e inf _ ht hi hz .i64 .i64 (m:Int) (m:Int) (by omega) (by omega) h2 (by omega)
  simp only [hs,nl,hc,wNN v sz (m * sz) hsz] at hr
  simp only [nl,List.length_replicate,wHG henc] at k
  have hmax:m <= maxLen:=by
   have h16:(16777216:Nat) <= maxLen:=by decide
   omega
  refine OKS.v (v:=.slice (some ⟨w.heap.size,0,none⟩) m m) (w':=w.alloc (.cells (nJ (m * sz) v).toArray e)) ho hd hN hw ⟨by rw [hop];rfl,?_⟩ (.inr (wBB w _))
   (k _ _ (hS.new (wBB w _) (.inr ⟨_,(nJ (m * sz) v).toArray,rfl,wFF w _ e,by simp,hmax,by simp,by simp⟩) rfl (nN _)))
  simp [execOp,hop,hx,hy,hr,Result.andThen]
 ·cases hm
end
end Go.KL
namespace Go.KX
noncomputable section
open Go.RowKit Go.KL
inductive Pos
 | H
 | O (p:Pos)
 | I (p:Pos)
 deriving DecidableEq
def Pos.succ (p:Pos):Pos:=Pos.rec (motive:=fun _=>Pos) (.O .H) (fun q _=>.I q) (fun _ s=>.O s) p
theorem Pos.succ_I (p:Pos):(Pos.I p).succ=.O p.succ:=rfl
def Pos.nat:Pos->Nat
 | .H=>1
 | .O p=>2 * p.nat
 | .I p=>2 * p.nat + 1
def Pos.beq:Pos->Pos->Bool
 | .H,.H=>true
 | .O p,.O q=>p.beq q
 | .I p,.I q=>p.beq q
 | _,_=>false
theorem Pos.nat_succ (p:Pos):p.succ.nat=p.nat + 1:=by
 induction p with
 | H=>rfl
 | O p _=>rfl
 | I p ih=>rw [Pos.succ_I];simp only [Pos.nat,ih];omega
theorem Pos.nat_pos (p:Pos):0 < p.nat:=by
 induction p with
 | H=>decide
 | O p ih=>simp only [Pos.nat];omega
 | I p ih=>simp only [Pos.nat];omega
theorem Pos.nat_inj:∀ {p q:Pos},p.nat=q.nat->p=q
 | .H,.H,_=>rfl
 | .H,.O q,h=>by have:=q.nat_pos;simp only [Pos.nat] at h;omega
 | .H,.I q,h=>by have:=q.nat_pos;simp only [Pos.nat] at h;omega
 | .O p,.H,h=>by have:=p.nat_pos;simp only [Pos.nat] at h;omega
 | .I p,.H,h=>by have:=p.nat_pos;simp only [Pos.nat] at h;omega
 | .O p,.O q,h=>by simp only [Pos.nat] at h;rw [Pos.nat_inj (p:=p) (q:=q) (by omega)]
 | .I p,.I q,h=>by simp only [Pos.nat] at h;rw [Pos.nat_inj (p:=p) (q:=q) (by omega)]
 | .O p,.I q,h=>by simp only [Pos.nat] at h;omega
 | .I p,.O q,h=>by simp only [Pos.nat] at h;omega
theorem Pos.beq_eq:∀ {p q:Pos},p.beq q=true->p=q
 | .H,.H,_=>rfl
 | .O p,.O q,h=>by rw [Pos.beq_eq (p:=p) (q:=q) h]
 | .I p,.I q,h=>by rw [Pos.beq_eq (p:=p) (q:=q) h]
 | .H,.O _,h=>by cases h
 | .H,.I _,h=>by cases h
 | .O _,.H,h=>by cases h
 | .I _,.H,h=>by cases h
 | .O _,.I _,h=>by cases h
 | .I _,.O _,h=>by cases h
def Pos.ltb (e:Bool):Pos->Pos->Bool
 | .H,.H=>e
 | .H,_=>true
 | _,.H=>false
 | .O p,.O q=>Pos.ltb e p q
 | .I p,.I q=>Pos.ltb e p q
 | .O p,.I q=>Pos.ltb true p q
 | .I p,.O q=>Pos.ltb false p q
theorem Pos.ltb_iff:∀ (p q:Pos) (e:Bool),Pos.ltb e p q=true ↔ p.nat < q.nat \/ (e=true/\p.nat=q.nat)
 | .H,.H,e=>by simp [Pos.ltb]
 | .H,.O q,e=>by have:=q.nat_pos;simp only [Pos.ltb,Pos.nat];exact ⟨fun _=>.inl (by omega),fun _=>trivial⟩
 | .H,.I q,e=>by have:=q.nat_pos;simp only [Pos.ltb,Pos.nat];exact ⟨fun _=>.inl (by omega),fun _=>trivial⟩
 | .O p,.H,e=>by have:=p.nat_pos;simp only [Pos.ltb,Pos.nat];constructor <;> intro h <;> first | cases h;done | (exfalso;omega)
 | .I p,.H,e=>by have:=p.nat_pos;simp only [Pos.ltb,Pos.nat];constructor <;> intro h <;> first | cases h;done | (exfalso;omega)
 | .O p,.O q,e=>by rw [Pos.ltb,Pos.ltb_iff p q e];simp only [Pos.nat];cases e <;> simp <;> omega
 | .I p,.I q,e=>by rw [Pos.ltb,Pos.ltb_iff p q e];simp only [Pos.nat];cases e <;> simp <;> omega
 | .O p,.I q,e=>by rw [Pos.ltb,Pos.ltb_iff p q true];simp only [Pos.nat];cases e <;> simp <;> omega
 | .I p,.O q,e=>by rw [Pos.ltb,Pos.ltb_iff p q false];simp only [Pos.nat];cases e <;> simp <;> omega
inductive Tr (α:Type)
 | e
 | n (l:Tr α) (v:Option α) (r:Tr α)
variable {α:Type}
def Tr.get (t:Tr α):Pos->Option α :=
 Tr.rec (motive:=fun _=>Pos->Option α) (fun _=>none) (fun _ v _ gl gr p=>Pos.rec (motive:=fun _=>Option α) v (fun q _=>gl q) (fun q _=>gr q) p) t
def Tr.one (p:Pos) (a:α):Tr α:=Pos.rec (motive:=fun _=>Tr α) (.n .e (some a) .e) (fun _ t=>.n t none .e) (fun _ t=>.n .e none t) p
def Tr.set (t:Tr α) (p:Pos) (a:α):Tr α :=
 Tr.rec (motive:=fun _=>Pos->Tr α) (fun p=>Tr.one p a) (fun l v r sl sr p=>Pos.rec (motive:=fun _=>Tr α) (.n l (some a) r) (fun q _=>.n (sl q) v r) (fun q _=>.n l v (sr q)) p) t p
theorem Tr.get_e (p:Pos):(Tr.e:Tr α).get p=none:=rfl
theorem Tr.get_H (l r:Tr α) (v:Option α):(Tr.n l v r).get .H=v:=rfl
theorem Tr.get_I (l r:Tr α) (v:Option α) (p:Pos):(Tr.n l v r).get (.I p)=r.get p:=rfl
theorem Tr.get_O (l r:Tr α) (v:Option α) (p:Pos):(Tr.n l v r).get (.O p)=l.get p:=rfl
theorem Tr.one_H (a:α):Tr.one .H a=.n .e (some a) .e:=rfl
theorem Tr.one_O (p:Pos) (a:α):Tr.one (.O p) a=.n (Tr.one p a) none .e:=rfl
theorem Tr.one_I (p:Pos) (a:α):Tr.one (.I p) a=.n .e none (Tr.one p a):=rfl
theorem Tr.set_e (p:Pos) (a:α):(Tr.e:Tr α).set p a=Tr.one p a:=rfl
theorem Tr.set_H (l r:Tr α) (v:Option α) (a:α):(Tr.n l v r).set .H a=.n l (some a) r:=rfl
theorem Tr.set_O (l r:Tr α) (v:Option α) (p:Pos) (a:α):(Tr.n l v r).set (.O p) a=.n (l.set p a) v r:=rfl
theorem Tr.set_I (l r:Tr α) (v:Option α) (p:Pos) (a:α):(Tr.n l v r).set (.I p) a=.n l v (r.set p a):=rfl
theorem Tr.get_one:∀ (p q:Pos) (a:α),(Tr.one p a).get q=if q=p then some a else none
 | .H,.H,a=>rfl
 | .H,.O q,a=>by simp [Tr.one_H,Tr.get_O,Tr.get_e]
 | .H,.I q,a=>by simp [Tr.one_H,Tr.get_I,Tr.get_e]
 | .O p,.H,a=>by simp [Tr.one_O,Tr.get_H]
 | .O p,.O q,a=>by simp only [Tr.one_O,Tr.get_O,Tr.get_one p q a,Pos.O.injEq]
 | .O p,.I q,a=>by simp [Tr.one_O,Tr.get_I,Tr.get_e]
 | .I p,.H,a=>by simp [Tr.one_I,Tr.get_H]
 | .I p,.O q,a=>by simp [Tr.one_I,Tr.get_O,Tr.get_e]
 | .I p,.I q,a=>by simp only [Tr.one_I,Tr.get_I,Tr.get_one p q a,Pos.I.injEq]
theorem Tr.get_set:∀ (t:Tr α) (p q:Pos) (a:α),(t.set p a).get q=if q=p then some a else t.get q
 | .e,p,q,a=>by simp only [Tr.set_e,Tr.get_one,Tr.get_e]
 | .n l v r,.H,.H,a=>rfl
 | .n l v r,.H,.O q,a=>by simp [Tr.set_H,Tr.get_O]
 | .n l v r,.H,.I q,a=>by simp [Tr.set_H,Tr.get_I]
 | .n l v r,.O p,.H,a=>by simp [Tr.set_O,Tr.get_H]
 | .n l v r,.O p,.O q,a=>by simp only [Tr.set_O,Tr.get_O,Tr.get_set l p q a,Pos.O.injEq]
 | .n l v r,.O p,.I q,a=>by simp [Tr.set_O,Tr.get_I]
 | .n l v r,.I p,.H,a=>by simp [Tr.set_I,Tr.get_H]
 | .n l v r,.I p,.O q,a=>by simp [Tr.set_I,Tr.get_O]
 | .n l v r,.I p,.I q,a=>by simp only [Tr.set_I,Tr.get_I,Tr.get_set r p q a,Pos.I.injEq]
inductive AV
 | int (k:IntKind) (n:Int)
 | bool (b:Bool)
 | ptr (b:Pos) (off:Nat)
 | pnil
 | sl (b:Pos) (off len cap:Nat)
 | rw (b:Pos) (eo co len:Nat)
 | rz (b:Pos) (eo:Nat)
 | snil
 | map (b:Pos)
 | mnil
 | fn (f:Pos) (fi ca:List AV)
 | yld (b:Pos)
 | fnil
 | agg (l:List AV)
 | tup (l:List AV)
inductive AOd
 | t (p:Pos)
 | c (v:AV)
inductive Sh
 | int
 | bool
 | str (fs:List (Nat × Nat × Sh))
inductive AOp
 | mv (x:AOd)
 | pick (c x y:AOd)
 | new (T:Nat) (z:List AV)
 | box (T:Nat) (x:AOd)
 | ld (x:AOd)
 | ldA (n:Nat) (x:AOd)
 | st (n:Nat) (x y:AOd)
 | nilc (x:AOd)
 | add (x y:AOd) | sub (x y:AOd) | mul (x y:AOd) | quo (x y:AOd) | rem (x y:AOd)
 | lss (x y:AOd) | leq (x y:AOd) | gtr (x y:AOd) | geq (x y:AOd) | eql (x y:AOd) | neq (x y:AOd)
 | eqb (ne:Bool) (x y:AOd)
 | eqn (k:Nat) (ne:Bool) (x y:AOd)
 | eqs (ne:Bool) (s:Sh) (x y:AOd)
 | neg (x:AOd) | not (x:AOd)
 | cvt (k:IntKind) (x:AOd)
 | mkf (f:Pos) (fi ca:List AOd)
 | mkm
 | mks (T sz bytes:Nat) (z:List AV) (x y:AOd)
 | slc (sz:Nat) (x:AOd) (lo hi mx:Option AOd)
 | slcA (sz n:Nat) (x:AOd) (lo hi:Option AOd)
 | fad (off:Nat) (x:AOd)
 | fld (off:Nat) (x:AOd) | fldA (off n:Nat) (x:AOd)
 | iad (sz:Nat) (x y:AOd) | iadA (sz n:Nat) (x y:AOd)
 | ix (n:Nat) (x y:AOd) | ixA (sz n:Nat) (x y:AOd)
 | lk (two:Bool) (k:IntKind) (ok:Bool) (z:AV) (x y:AOd)
 | mput (two:Bool) (k:IntKind) (x y z:AOd)
 | mdel (two:Bool) (k:IntKind) (x y:AOd)
 | ext (i:Nat) (x:AOd)
 | bld (z:List AV) (ps:List (Nat × Nat × AOd))
 | blds (T len:Nat) (z:List AV) (ps:List (Nat × Nat × AOd))
 | len (x:AOd) | lenM (x:AOd) | cap (x:AOd)
 | app (T sz bytes:Nat) (x y:AOd)
 | cpy (sz:Nat) (x y:AOd)
 | clr (z:List AV) (x:AOd)
 | min (x y:AOd) | max (x y:AOd)
 | call (x:AOd) (l:List AOd)
 | bad
 | and (x y:AOd) | shr (x y:AOd)
 | ixs (l:List Nat) (y:AOd)
 | apz (T sz bytes:Nat) (z:List AV) (x y:AOd)
structure AO where
 ix:Nat
 kd:Nat
 dst:Option Pos
 grd:Option (Pos × Bool)
 op:AOp
inductive Ex
 | nrm
 | exit (i:Nat)
 | ret
inductive AC
 | skip
 | rg (l:List AO)
 | seq (a b:AC)
 | cond (c:AOd) (a b:AC)
 | block (i:Nat) (a:AC)
 | loop (a:AC)
 | rf (g:AOd) (t:List Pos) (asg body:AC)
 | exit (i:Nat)
 | scope (a:AC)
 | ret
 | no
inductive AR
 | t (p:Pos)
 | c (p:Pos) (n:Option Nat)
structure AF where
 n:Nat
 res:List AR
 body:AC
inductive LS
 | ready
 | busy
 | done (e:Ex)
inductive AB
 | cells (T:Nat) (l:List AV)
 | row (T sz:Nat) (l:List AV)
 | mapI (k:IntKind) (l:List (Int × AV))
 | map2 (k:IntKind) (l:List ((Int × Int) × AV))
 | map0
 | loop (σ:Tr AV) (t:List Pos) (asg body:AC) (s:LS)
 | dead
structure AH where
 m:Tr AB
 nx:Pos
 fl:Pos
def AH.push (h:AH) (b:AB):AH:=⟨h.m.set h.nx b,h.nx.succ,h.fl⟩
def AH.put (h:AH) (p:Pos) (b:AB):Option AH:=match Pos.ltb false p h.fl with
 | true=>none
 | false=>some ⟨h.m.set p b,h.nx,h.fl⟩
def nth (l:List α):Nat->Option α :=
 nZ (motive:=fun _=>Nat->Option α) (fun _=>none) (fun a _ ih n=>nr (motive:=fun _=>Option α) (some a) (fun m _=>ih m) n) l
def wLk (a:α) (o:Option (List α)):Option (List α):=nR (motive:=fun _=>Option (List α)) none (fun r=>some (a :: r)) o
def tk (l:List α):Nat->Option (List α) :=
 nZ (motive:=fun _=>Nat->Option (List α)) (fun n=>nr (motive:=fun _=>Option (List α)) (some []) (fun _ _=>none) n)
 (fun a _ ih n=>nr (motive:=fun _=>Option (List α)) (some []) (fun m _=>wLk a (ih m)) n) l
def sub (l:List α) (off n:Nat):Option (List α) :=
 nZ (motive:=fun _=>Nat->Option (List α)) (fun off=>nr (motive:=fun _=>Option (List α)) (tk [] n) (fun _ _=>none) off)
 (fun a l ih off=>nr (motive:=fun _=>Option (List α)) (tk (a :: l) n) (fun m _=>ih m) off) l off
def ov (l:List α):List α->Option (List α) :=
 nZ (motive:=fun _=>List α->Option (List α)) (fun vs=>nZ (motive:=fun _=>Option (List α)) (some []) (fun _ _ _=>none) vs)
 (fun a l ih vs=>nZ (motive:=fun _=>Option (List α)) (some (a :: l)) (fun v vs _=>wLk v (ih vs)) vs) l
def wSZ (l:List α) (off:Nat) (vs:List α):Option (List α) :=
 nZ (motive:=fun _=>Nat->Option (List α)) (fun off=>nr (motive:=fun _=>Option (List α)) (ov [] vs) (fun _ _=>none) off)
 (fun a l ih off=>nr (motive:=fun _=>Option (List α)) (ov (a :: l) vs) (fun m _=>wLk a (ih m)) off) l off
def len (l:List α):Nat:=nZ (motive:=fun _=>Nat) 0 (fun _ _ n=>Nat.succ n) l
def u:AV:=.tup []
def evA (σ:Tr AV) (x:AOd):AV :=
 AOd.rec (motive:=fun _=>AV) (fun p=>nR (motive:=fun _=>AV) u (fun v=>v) (σ.get p)) (fun v=>v) x
def evs (σ:Tr AV) (l:List AOd):List AV:=nZ (motive:=fun _=>List AV) [] (fun x _ ih=>evA σ x :: ih) l
def AV.cells:AV->List AV
 | .agg l=>l
 | v=>[v]
def AV.one:AV->Bool
 | .agg _ | .tup _=>false
 | _=>true
def wSa:List AV->Bool
 | []=>true
 | v :: l=>v.one && wSa l
def zlt:Int->Int->Bool
 | .ofNat a,.ofNat b=>nQ a b
 | .negSucc _,.ofNat _=>true
 | .ofNat _,.negSucc _=>false
 | .negSucc a,.negSucc b=>nQ b a
def zle (a b:Int):Bool:=!zlt b a
def zeq:Int->Int->Bool
 | .ofNat a,.ofNat b=>nD a b
 | .negSucc a,.negSucc b=>nD a b
 | _,_=>false
def keq:IntKind->IntKind->Bool
 | .i64,.i64=>true
 | .u8,.u8=>true
 | .u32,.u32=>true
 | .u64,.u64=>true
 | .i32,.i32=>true
 | _,_=>false
def inK:IntKind->Int->Bool
 | .i64,.ofNat n=>nQ n 9223372036854775808
 | .i64,.negSucc n=>nQ n 9223372036854775808
 | .u8,.ofNat n=>nQ n 256
 | .u32,.ofNat n=>nQ n 4294967296
 | .u64,.ofNat n=>nQ n 18446744073709551616
 | _,_=>false
def wLl (f:Int->Int->Int):AV->AV->Option AV
 | .int k a,.int k' b=>match keq k k' with
  | true=>match inK k (f a b) with
   | true=>some (.int k (f a b))
   | false=>none
  | false=>none
 | _,_=>none
def div (f:Int->Int->Int):AV->AV->Option AV
 | .int k a,.int k' b=>match keq k k' with
  | true=>match zeq b 0 with
   | true=>none
   | false=>match inK k (f a b) with
    | true=>some (.int k (f a b))
    | false=>none
  | false=>none
 | _,_=>none
def wQg (f:Int->Int->Bool):AV->AV->Option AV
 | .int k a,.int k' b=>match keq k k' with
  | true=>some (.bool (f a b))
  | false=>none
 | _,_=>none
def wNP (k:Nat) (x y:AV):Option Bool:=match k,x,y with
 | 0,.pnil,.pnil=>some true
 | 0,.pnil,.ptr _ _=>some false
 | 0,.ptr _ _,.pnil=>some false
 | 1,.snil,.snil=>some true
 | 1,.snil,.sl _ _ _ _=>some false
 | 1,.snil,.rw _ _ _ _=>some false
 | 1,.sl _ _ _ _,.snil=>some false
 | 1,.rw _ _ _ _,.snil=>some false
 | 1,.snil,.rz _ _=>some false
 | 1,.rz _ _,.snil=>some false
 | 2,.mnil,.mnil=>some true
 | 2,.mnil,.map _=>some false
 | 2,.map _,.mnil=>some false
 | 3,.fnil,.fnil=>some true
 | 3,.fnil,.fn _ _ _=>some false
 | 3,.fn _ _ _,.fnil=>some false
 | _,_,_=>none
def wQh (s:Sh) (l:List AV) (off sz:Nat):Option AV :=
 match s with
 | .str _=>match sub l off sz with
  | some r=>some (.agg r)
  | none=>none
 | _=>nth l off
mutual
def wQi:Sh->AV->AV->Option Bool
 | .int,.int k a,.int k' b=>match keq k k' with
  | true=>some (zeq a b)
  | false=>none
 | .bool,.bool a,.bool b=>some (a == b)
 | .str fs,.agg xs,.agg ys=>wUz fs xs ys
 | _,_,_=>none
def wUz:List (Nat × Nat × Sh)->List AV->List AV->Option Bool
 | [],_,_=>some true
 | (off,sz,s) :: fs,xs,ys=>match wQh s xs off sz,wQh s ys off sz with
  | some x,some y=>match wQi s x y with
   | some true=>wUz fs xs ys
   | r=>r
  | _,_=>none
end
def wJo (σ:Tr AV):List AV->List (Nat × Nat × AOd)->Option (List AV)
 | cs,[]=>some cs
 | cs,(off,n,x) :: ps=>match nD (len (evA σ x).cells) n with
  | true=>match wSZ cs off (evA σ x).cells with
   | some cs'=>wJo σ cs' ps
   | none=>none
  | false=>none
def wIJ:AV->Option Nat
 | .int .i64 (.ofNat n)=>some n
 | _=>none
def boundOf (σ:Tr AV) (d:Nat):Option AOd->Option Nat
 | none=>some d
 | some x=>wIJ (evA σ x)
def rep:Nat->List α->List α
 | 0,_=>[]
 | n + 1,l=>l ++ rep n l
def wNQ:List ((Int × Int) × AV)->Int->Int->Option AV
 | [],_,_=>none
 | ((a,b),v) :: l,x,y=>match zeq x a && zeq y b with
  | true=>some v
  | false=>wNQ l x y
def wNR:List (Int × AV)->Int->Option AV
 | [],_=>none
 | (a,v) :: l,x=>match zeq x a with
  | true=>some v
  | false=>wNR l x
def wOX:List ((Int × Int) × AV)->Int->Int->AV->List ((Int × Int) × AV)
 | [],x,y,v=>[((x,y),v)]
 | ((a,b),w) :: l,x,y,v=>match zeq x a && zeq y b with
  | true=>((x,y),v) :: l
  | false=>((a,b),w) :: wOX l x y v
def wOY:List (Int × AV)->Int->AV->List (Int × AV)
 | [],x,v=>[(x,v)]
 | (a,w) :: l,x,v=>match zeq x a with
  | true=>(x,v) :: l
  | false=>(a,w) :: wOY l x v
def wOZ:List ((Int × Int) × AV)->Int->Int->List ((Int × Int) × AV)
 | [],_,_=>[]
 | ((a,b),w) :: l,x,y=>match zeq x a && zeq y b with
  | true=>l
  | false=>((a,b),w) :: wOZ l x y
def wOa:List (Int × AV)->Int->List (Int × AV)
 | [],_=>[]
 | (a,w) :: l,x=>match zeq x a with
  | true=>l
  | false=>(a,w) :: wOa l x
def wMa:AB->Option (List AV)
 | .cells _ l=>some l
 | .row _ _ l=>some l
 | _=>none
def wGA (h:AH) (b:Pos):Option (List AV):=match h.m.get b with
 | some B=>wMa B
 | none=>none
def wLm (h:AH) (b:Pos) (off:Nat) (vs:List AV):Option AH:=match h.m.get b with
 | some (.cells T l)=>match wSZ l off vs with
  | some l'=>h.put b (.cells T l')
  | none=>none
 | some (.row T sz l)=>match wSZ l off vs with
  | some l'=>h.put b (.row T sz l')
  | none=>none
 | _=>none
def slice (h:AH) (sz:Nat):AV->Option (Nat × List AV)
 | .snil=>some (0,[])
 | .rz _ _=>some (0,[])
 | .sl b off n _=>match wGA h b with
  | some l=>match sub l off (n * sz) with
   | some r=>some (n,r)
   | none=>none
  | none=>none
 | .rw b _ co n=>match wGA h b with
  | some l=>match sub l co (n * sz) with
   | some r=>some (n,r)
   | none=>none
  | none=>none
 | _=>none
def ifO (b:Bool) (x:Option α):Option α:=match b with
 | true=>x
 | false=>none
def app (h:AH) (T sz by_:Nat) (m:Nat) (news:List AV) (x:AV):Option (AV × AH):=match m with
 | 0=>match x with
  | .snil=>some (.snil,h)
  | .sl b off n c=>some (.sl b off n c,h)
  | .rw b eo co n=>some (.rw b eo co n,h)
  | _=>none
 | m + 1=>match x with
  | .snil=>ifO (nO ((m + 1) * by_) 140737488355328) (some (.rw h.nx 0 0 (m + 1),h.push (.row T sz news)))
  | .sl b off n c=>match nO (n + (m + 1)) c with
   | true=>match wLm h b (off + n * sz) news with
    | some h'=>some (.sl b off (n + (m + 1)) c,h')
    | none=>none
   | false=>ifO (nO ((n + (m + 1)) * by_) 140737488355328) (match slice h sz (.sl b off n c) with
    | some (_,olds)=>some (.rw h.nx 0 0 (n + (m + 1)),h.push (.row T sz (olds ++ news)))
    | none=>none)
  | .rw b eo co n=>match h.m.get b with
   | some (.row T' sz' l)=>match nO ((n + (m + 1)) * sz) (len l) && (nD sz sz' && (nD eo 0 && nD co 0)) with
    | true=>match wLm h b (n * sz) news with
     | some h'=>some (.rw b 0 0 (n + (m + 1)),h')
     | none=>none
    | false=>ifO (nD T T' && nD sz sz' && nD eo 0 && nD co 0 && nD (n * sz) (len l) && nO ((n + (m + 1)) * by_) 140737488355328)
     (match h.put b .dead with
      | some h'=>some (.rw h.nx 0 0 (n + (m + 1)),h'.push (.row T sz (l ++ news)))
      | none=>none)
   | _=>none
  | _=>none
def wIK (two:Bool) (k:IntKind) (B:AB) (y:AV):Option (Option AV):=match two,B,y with
 | false,.map0,.int k' _=>ifO (keq k k') (some none)
 | true,.map0,.agg [.int k1 _,.int k2 _]=>ifO (keq k k1 && keq k k2) (some none)
 | false,.mapI k0 l,.int k' n=>ifO (keq k k0 && keq k k') (some (wNR l n))
 | true,.map2 k0 l,.agg [.int k1 a,.int k2 b]=>ifO (keq k k0 && (keq k k1 && keq k k2)) (some (wNQ l a b))
 | _,_,_=>none
def wQR (two:Bool) (k:IntKind) (B:AB) (y v:AV):Option AB:=match two,B,y with
 | false,.map0,.int k' n=>ifO (keq k k') (some (.mapI k [(n,v)]))
 | true,.map0,.agg [.int k1 a,.int k2 b]=>ifO (keq k k1 && keq k k2) (some (.map2 k [((a,b),v)]))
 | false,.mapI k0 l,.int k' n=>ifO (keq k k0 && keq k k') (some (.mapI k (wOY l n v)))
 | true,.map2 k0 l,.agg [.int k1 a,.int k2 b]=>ifO (keq k k0 && (keq k k1 && keq k k2)) (some (.map2 k (wOX l a b v)))
 | _,_,_=>none
def wQS (two:Bool) (k:IntKind) (B:AB) (y:AV):Option AB:=match two,B,y with
 | false,.map0,.int k' _=>ifO (keq k k') (some .map0)
 | true,.map0,.agg [.int k1 _,.int k2 _]=>ifO (keq k k1 && keq k k2) (some .map0)
 | false,.mapI k0 l,.int k' n=>ifO (keq k k0 && keq k k') (some (.mapI k (wOa l n)))
 | true,.map2 k0 l,.agg [.int k1 a,.int k2 b]=>ifO (keq k k0 && (keq k k1 && keq k k2)) (some (.map2 k (wOZ l a b)))
 | _,_,_=>none
def lenB:AB->Option Nat
 | .map0=>some 0
 | .mapI _ l=>some (len l)
 | .map2 _ l=>some (len l)
 | _=>none
def okV (h:AH):Option AV->Option (AV × AH)
 | some v=>some (v,h)
 | none=>none
def wJT:Option (List AV)->Option AV
 | some l=>some (.agg l)
 | none=>none
def orD (o:Option Nat) (d:Nat):Nat:=match o with
 | some n=>n
 | none=>d
theorem wOb (o:Option Nat) (d:Nat):orD o d=o.getD d:=by cases o <;> rfl
def wVA (sz:Nat) (v:AV) (lo:Nat) (hi mx:Option Nat):Option AV:=match v with
 | .snil=>ifO (nD lo 0 && (match hi with | some n=>nD n 0 | none=>true) && (match mx with | some n=>nD n 0 | none=>true)) (some .snil)
 | .sl b off n c =>
  let m:=orD mx c
  let h:=orD hi n
  ifO (nO lo h && nO h m && nO m c) (some (.sl b (match nD m lo with | true=>off | false=>off + lo * sz) (h - lo) (m - lo)))
 | .rw b eo co n =>
  let h:=orD hi n
  match mx with
  | none=>ifO (nO lo h && nO h n) (match lo with
   | 0=>some (.rw b eo co h)
   | _=>match nQ lo n with
    | true=>some (.rw b (eo + lo) (co + lo * sz) (h - lo))
    | false=>some (.rz b (eo + lo)))
  | some m=>ifO (nO lo h && nO h m && nO m n) (some (.sl b (match nD m lo with | true=>co | false=>co + lo * sz) (h - lo) (m - lo)))
 | _=>none
def clr (h:AH) (z:List AV) (b:Pos) (off n:Nat):Option (AV × AH):=match n with
 | 0=>some (u,h)
 | n + 1=>ifO (wSa z) (match wLm h b off (rep (n + 1) z) with
  | some h'=>some (u,h')
  | none=>none)
def bnd (σ:Tr AV):Option AOd->Option (Option Nat)
 | none=>some none
 | some x=>match wIJ (evA σ x) with
  | some n=>some (some n)
  | none=>none
def o_mv (x:AOd) (σ:Tr AV) (h:AH):Option (AV × AH):=some (evA σ x,h)
def wKn (c:AOd) (x:AOd) (y:AOd) (σ:Tr AV) (h:AH):Option (AV × AH):=match evA σ c with
  | .bool true=>some (evA σ x,h)
  | .bool false=>some (evA σ y,h)
  | _=>none
def wVB (T:Nat) (z:List AV) (σ:Tr AV) (h:AH):Option (AV × AH):=some (.ptr h.nx 0,h.push (.cells T z))
def wSb (T:Nat) (x:AOd) (σ:Tr AV) (h:AH):Option (AV × AH):=some (.ptr h.nx 0,h.push (.cells T (evA σ x).cells))
def o_ld (x:AOd) (σ:Tr AV) (h:AH):Option (AV × AH):=match evA σ x with
  | .ptr b off=>match wGA h b with
   | some l=>okV h (nth l off)
   | none=>none
  | _=>none
def wQj (n:Nat) (x:AOd) (σ:Tr AV) (h:AH):Option (AV × AH):=match evA σ x with
  | .ptr b off=>match wGA h b with
   | some l=>okV h (wJT (sub l off n))
   | none=>none
  | _=>none
def o_st (n:Nat) (x:AOd) (y:AOd) (σ:Tr AV) (h:AH):Option (AV × AH):=match evA σ x with
  | .ptr b off=>match nD (len (evA σ y).cells) n && wSa (evA σ y).cells with
   | true=>match wLm h b off (evA σ y).cells with
    | some h'=>some (u,h')
    | none=>none
   | false=>none
  | _=>none
def wKo (x:AOd) (σ:Tr AV) (h:AH):Option (AV × AH):=match evA σ x with
  | .ptr b off=>some (.ptr b off,h)
  | .fn f fi ca=>some (.fn f fi ca,h)
  | .yld b=>some (.yld b,h)
  | _=>none
def wSc (x:AOd) (y:AOd) (σ:Tr AV) (h:AH):Option (AV × AH):=okV h (wLl Int.add (evA σ x) (evA σ y))
def wSd (x:AOd) (y:AOd) (σ:Tr AV) (h:AH):Option (AV × AH):=okV h (wLl Int.sub (evA σ x) (evA σ y))
def wSe (x:AOd) (y:AOd) (σ:Tr AV) (h:AH):Option (AV × AH):=okV h (wLl Int.mul (evA σ x) (evA σ y))
def wSf (x:AOd) (y:AOd) (σ:Tr AV) (h:AH):Option (AV × AH):=okV h (div Int.tdiv (evA σ x) (evA σ y))
def wSg (x:AOd) (y:AOd) (σ:Tr AV) (h:AH):Option (AV × AH):=okV h (div Int.tmod (evA σ x) (evA σ y))
def wSh (x:AOd) (y:AOd) (σ:Tr AV) (h:AH):Option (AV × AH):=okV h (wQg zlt (evA σ x) (evA σ y))
def wSi (x:AOd) (y:AOd) (σ:Tr AV) (h:AH):Option (AV × AH):=okV h (wQg zle (evA σ x) (evA σ y))
def wSj (x:AOd) (y:AOd) (σ:Tr AV) (h:AH):Option (AV × AH):=okV h (wQg (fun a b=>zlt b a) (evA σ x) (evA σ y))
def wSk (x:AOd) (y:AOd) (σ:Tr AV) (h:AH):Option (AV × AH):=okV h (wQg (fun a b=>zle b a) (evA σ x) (evA σ y))
def wSl (x:AOd) (y:AOd) (σ:Tr AV) (h:AH):Option (AV × AH):=okV h (wQg zeq (evA σ x) (evA σ y))
def wSm (x:AOd) (y:AOd) (σ:Tr AV) (h:AH):Option (AV × AH):=okV h (wQg (fun a b=>!zeq a b) (evA σ x) (evA σ y))
def wOc (ne:Bool) (x:AOd) (y:AOd) (σ:Tr AV) (h:AH):Option (AV × AH):=match evA σ x,evA σ y with
  | .bool a,.bool b=>some (.bool (ne != (a == b)),h)
  | _,_=>none
def wOd (k:Nat) (ne:Bool) (x:AOd) (y:AOd) (σ:Tr AV) (h:AH):Option (AV × AH):=match wNP k (evA σ x) (evA σ y) with
  | some b=>some (.bool (ne != b),h)
  | none=>none
def wOe (ne:Bool) (s:Sh) (x:AOd) (y:AOd) (σ:Tr AV) (h:AH):Option (AV × AH):=match wQi s (evA σ x) (evA σ y) with
  | some b=>some (.bool (ne != b),h)
  | none=>none
def wSn (x:AOd) (σ:Tr AV) (h:AH):Option (AV × AH):=okV h (wLl Int.sub (match evA σ x with | .int k _=>.int k 0 | _=>u) (evA σ x))
def wOf (x:AOd) (σ:Tr AV) (h:AH):Option (AV × AH):=match evA σ x with
  | .bool b=>some (.bool (!b),h)
  | _=>none
def wOg (k:IntKind) (x:AOd) (σ:Tr AV) (h:AH):Option (AV × AH):=match evA σ x with
  | .int _ n=>ifO (inK k n) (some (.int k n,h))
  | _=>none
def wNS (f:Pos) (fi:List AOd) (ca:List AOd) (σ:Tr AV) (h:AH):Option (AV × AH):=some (.fn f (evs σ fi) (evs σ ca),h)
def wVC  (σ:Tr AV) (h:AH):Option (AV × AH):=some (.map h.nx,h.push .map0)
def wOh (T:Nat) (sz:Nat) (by_:Nat) (z:List AV) (x:AOd) (y:AOd) (σ:Tr AV) (h:AH):Option (AV × AH):=match wIJ (evA σ x),wIJ (evA σ y) with
  | some l,some c=>ifO (nO l c && nO (c * sz) 16777216 && nO (by_ * c) 281474976710656 && nO c 16777216) (some (.sl h.nx 0 l c,h.push (.cells T (rep c z))))
  | _,_=>none
def wLn (sz:Nat) (x:AOd) (lo:Option AOd) (hi:Option AOd) (mx:Option AOd) (σ:Tr AV) (h:AH):Option (AV × AH):=match bnd σ lo,bnd σ hi,bnd σ mx with
  | some l,some hh,some m=>okV h (wVA sz (evA σ x) (orD l 0) hh m)
  | _,_,_=>none
def wIL (sz:Nat) (n:Nat) (x:AOd) (lo:Option AOd) (hi:Option AOd) (σ:Tr AV) (h:AH):Option (AV × AH):=match bnd σ lo,bnd σ hi,evA σ x with
  | some l,some hh,.ptr b off=>okV h (wVA sz (.sl b off n n) (orD l 0) hh none)
  | _,_,_=>none
def wOi (off:Nat) (x:AOd) (σ:Tr AV) (h:AH):Option (AV × AH):=match evA σ x with
  | .ptr b o=>some (.ptr b (o + off),h)
  | _=>none
def wOj (off:Nat) (x:AOd) (σ:Tr AV) (h:AH):Option (AV × AH):=match evA σ x with
  | .agg l=>okV h (nth l off)
  | _=>none
def wKp (off:Nat) (n:Nat) (x:AOd) (σ:Tr AV) (h:AH):Option (AV × AH):=match evA σ x with
  | .agg l=>okV h (wJT (sub l off n))
  | _=>none
def wOk (sz:Nat) (x:AOd) (y:AOd) (σ:Tr AV) (h:AH):Option (AV × AH):=match evA σ x,wIJ (evA σ y) with
  | .sl b off n _,some i=>ifO (nQ i n) (some (.ptr b (off + i * sz),h))
  | .rw b _ co n,some i=>ifO (nQ i n) (some (.ptr b (co + i * sz),h))
  | _,_=>none
def wKq (sz:Nat) (n:Nat) (x:AOd) (y:AOd) (σ:Tr AV) (h:AH):Option (AV × AH):=match evA σ x,wIJ (evA σ y) with
  | .ptr b off,some i=>ifO (nQ i n) (some (.ptr b (off + i * sz),h))
  | _,_=>none
def wVD (n:Nat) (x:AOd) (y:AOd) (σ:Tr AV) (h:AH):Option (AV × AH):=match evA σ x,wIJ (evA σ y) with
  | .agg l,some i=>ifO (nQ i n) (okV h (nth l i))
  | _,_=>none
def wOl (sz:Nat) (n:Nat) (x:AOd) (y:AOd) (σ:Tr AV) (h:AH):Option (AV × AH):=match evA σ x,wIJ (evA σ y) with
  | .agg l,some i=>ifO (nQ i n) (okV h (wJT (sub l (i * sz) sz)))
  | _,_=>none
def o_lk (two:Bool) (k:IntKind) (ok:Bool) (z:AV) (x:AOd) (y:AOd) (σ:Tr AV) (h:AH):Option (AV × AH):=match evA σ x with
  | .map b=>match h.m.get b with
   | some B=>match wIK two k B (evA σ y) with
    | some (some v)=>some (match ok with | true=>.tup [v,.bool true] | false=>v,h)
    | some none=>some (match ok with | true=>.tup [z,.bool false] | false=>z,h)
    | none=>none
   | none=>none
  | _=>none
def wMb (two:Bool) (k:IntKind) (x:AOd) (y:AOd) (z:AOd) (σ:Tr AV) (h:AH):Option (AV × AH):=match evA σ x with
  | .map b=>match h.m.get b with
   | some B=>match wQR two k B (evA σ y) (evA σ z) with
    | some B'=>match h.put b B' with
     | some h'=>some (u,h')
     | none=>none
    | none=>none
   | none=>none
  | _=>none
def wMc (two:Bool) (k:IntKind) (x:AOd) (y:AOd) (σ:Tr AV) (h:AH):Option (AV × AH):=match evA σ x with
  | .map b=>match h.m.get b with
   | some B=>match wQS two k B (evA σ y) with
    | some B'=>match h.put b B' with
     | some h'=>some (u,h')
     | none=>none
    | none=>none
   | none=>none
  | _=>none
def wOm (i:Nat) (x:AOd) (σ:Tr AV) (h:AH):Option (AV × AH):=match evA σ x with
  | .tup l=>okV h (nth l i)
  | _=>none
def wOn (z:List AV) (ps:List (Nat × Nat × AOd)) (σ:Tr AV) (h:AH):Option (AV × AH):=okV h (wJT (wJo σ z ps))
def wIM (T:Nat) (n:Nat) (z:List AV) (ps:List (Nat × Nat × AOd)) (σ:Tr AV) (h:AH):Option (AV × AH):=match wJo σ z ps with
  | some l=>some (.sl h.nx 0 n n,h.push (.cells T l))
  | none=>none
def wOo (x:AOd) (σ:Tr AV) (h:AH):Option (AV × AH):=match evA σ x with
 | .snil=>some (.int .i64 0,h)
 | .sl _ _ n _=>some (.int .i64 (.ofNat n),h)
 | .rw _ _ _ n=>some (.int .i64 (.ofNat n),h)
 | .rz _ _=>some (.int .i64 0,h)
 | _=>none
def wMd (x:AOd) (σ:Tr AV) (h:AH):Option (AV × AH):=match evA σ x with
 | .mnil=>some (.int .i64 0,h)
 | .map b=>match h.m.get b with
  | some B=>match lenB B with
   | some n=>some (.int .i64 (.ofNat n),h)
   | none=>none
  | none=>none
 | _=>none
def wOp (x:AOd) (σ:Tr AV) (h:AH):Option (AV × AH):=match evA σ x with
  | .snil=>some (.int .i64 0,h)
  | .sl _ _ _ c=>some (.int .i64 (.ofNat c),h)
  | _=>none
def wQk (T:Nat) (sz:Nat) (by_:Nat) (x:AOd) (y:AOd) (σ:Tr AV) (h:AH):Option (AV × AH):=match slice h sz (evA σ y) with
  | some (m,news)=>ifO (wSa news) (app h T sz by_ m news (evA σ x))
  | none=>none
def wQl (sz:Nat) (x:AOd) (y:AOd) (σ:Tr AV) (h:AH):Option (AV × AH):=match evA σ x,slice h sz (evA σ y) with
  | .sl b off n _,some (m,news)=>match sub news 0 ((if nO m n then m else n) * sz) with
   | some vs=>ifO (wSa vs) (match wLm h b off vs with
    | some h'=>some (.int .i64 (.ofNat (if nO m n then m else n)),h')
    | none=>none)
   | none=>none
  | _,_=>none
def wQm (z:List AV) (x:AOd) (σ:Tr AV) (h:AH):Option (AV × AH):=match evA σ x with
  | .sl b off n _=>clr h z b off n
  | .rw b _ co n=>clr h z b co n
  | .rz _ _=>some (u,h)
  | .snil=>some (u,h)
  | _=>none
def wSo (x:AOd) (y:AOd) (σ:Tr AV) (h:AH):Option (AV × AH):=okV h (match evA σ x,evA σ y with
  | .int .i64 a,.int .i64 b=>some (.int .i64 (match zlt b a with | true=>b | false=>a))
  | _,_=>none)
def wSp (x:AOd) (y:AOd) (σ:Tr AV) (h:AH):Option (AV × AH):=okV h (match evA σ x,evA σ y with
  | .int .i64 a,.int .i64 b=>some (.int .i64 (match zlt a b with | true=>b | false=>a))
  | _,_=>none)
abbrev Run:=AC->Tr AV->AH->Option (Ex × Tr AV × AH)
def wOq:List AV->Pos->Tr AV->Tr AV
 | [],_,t=>t
 | v :: l,p,t=>wOq l p.succ (t.set p v)
def res1 (σ:Tr AV) (h:AH):AR->Option AV
 | .t p=>some (evA σ (.t p))
 | .c p n=>match evA σ (.t p) with
  | .ptr b off=>match wGA h b with
   | some l=>match n with
    | none=>nth l off
    | some n=>wJT (sub l off n)
   | none=>none
  | _=>none
def wUb (σ:Tr AV) (h:AH):List AR->Option (List AV)
 | []=>some []
 | r :: l=>match res1 σ h r with
  | some v=>match wUb σ h l with
   | some vs=>some (v :: vs)
   | none=>none
  | none=>none
def tupA:List AV->AV
 | [v]=>v
 | l=>.tup l
def wVE (σ:Tr AV) (h:AH) (l:List AR):Option (AV × AH):=match wUb σ h l with
 | some vs=>some (tupA vs,h)
 | none=>none
def wNT (tb:Tr AF) (ex:Run) (f:Pos) (args:List AV) (h:AH):Option (AV × AH):=match tb.get f with
 | some af=>match nO (len args) af.n with
  | true=>match ex af.body (wOq args .H .e) h with
   | some (.nrm,σ,h')=>wVE σ h' af.res
   | some (.ret,σ,h')=>wVE σ h' af.res
   | _=>none
  | false=>none
 | none=>none
def Ex.done:Ex->LS
 | .nrm=>.ready
 | e=>.done e
def Ex.go:Ex->Bool
 | .nrm=>true
 | _=>false
def wSq:Tr AV->List Pos->List AV->Option (Tr AV)
 | σ,[],[]=>some σ
 | σ,t :: ts,v :: vs=>wSq (σ.set t v) ts vs
 | _,_,_=>none
def wOr (ex:Run) (b:Pos) (args:List AV) (h:AH):Option (AV × AH):=match h.m.get b with
 | some (.loop σ t asg body .ready)=>match wSq σ t args with
  | none=>none
  | some σ0=>match ex asg σ0 h with
  | some (.nrm,σ1,h1)=>match h1.m.get b with
   | some (.loop _ _ _ _ .ready)=>match h1.put b (.loop σ t asg body .busy) with
    | some h2=>match ex body σ1 h2 with
     | some (e,_,h3)=>match h3.m.get b with
      | some (.loop _ _ _ _ .busy)=>match h3.put b (.loop σ t asg body e.done) with
       | some h4=>some (.bool e.go,h4)
       | none=>none
      | _=>none
     | none=>none
    | none=>none
   | _=>none
  | _=>none
 | _=>none
def wJU (x:AOd) (l:List AOd) (tb:Tr AF) (ex exY:Run) (σ:Tr AV) (h:AH):Option (AV × AH):=match evA σ x with
 | .fn f fi ca=>wNT tb ex f (fi ++ (evs σ l ++ ca)) h
 | .yld b=>wOr exY b (evs σ l) h
 | _=>none
def andI (k:IntKind) (a b:Int):Int:=k.wrap (BitVec.ofInt k.bits a &&& BitVec.ofInt k.bits b).toNat
def wSr (x:AOd) (y:AOd) (σ:Tr AV) (h:AH):Option (AV × AH):=okV h (match evA σ x,evA σ y with
 | .int k a,.int k' b=>match keq k k' with
  | true=>some (.int k (andI k a b))
  | false=>none
 | _,_=>none)
def wSs (x:AOd) (y:AOd) (σ:Tr AV) (h:AH):Option (AV × AH):=okV h (match evA σ x,evA σ y with
 | .int k a,.int _ (.ofNat b)=>some (.int k (a.fdiv (2 ^ min b k.bits)))
 | _,_=>none)
def wOs (l:List Nat) (y:AOd) (σ:Tr AV) (h:AH):Option (AV × AH):=match evA σ y with
 | .int _ (.ofNat i)=>okV h (match nth l i with
  | some b=>some (.int .u8 (.ofNat b))
  | none=>none)
 | _=>none
def wQn (T sz by_:Nat) (z:List AV) (x y:AOd) (σ:Tr AV) (h:AH):Option (AV × AH):=match evA σ x,wIJ (evA σ y) with
 | .snil,some n=>match n with
  | 0=>some (.snil,h)
  | m + 1=>ifO (nO ((m + 1) * by_) 140737488355328) (some (.rw h.nx 0 0 (m + 1),h.push (.row T sz (rep (m + 1) z))))
 | _,_=>none
def wSt (_:Tr AV) (_:AH):Option (AV × AH):=none
def opY (op:AOp):Tr AF->Run->Run->Tr AV->AH->Option (AV × AH) :=
 AOp.rec (motive:=fun _=>Tr AF->Run->Run->Tr AV->AH->Option (AV × AH))
 (fun x _ _ _=>o_mv x)
 (fun c x y _ _ _=>wKn c x y)
 (fun T z _ _ _=>wVB T z)
 (fun T x _ _ _=>wSb T x)
 (fun x _ _ _=>o_ld x)
 (fun n x _ _ _=>wQj n x)
 (fun n x y _ _ _=>o_st n x y)
 (fun x _ _ _=>wKo x)
 (fun x y _ _ _=>wSc x y)
 (fun x y _ _ _=>wSd x y)
 (fun x y _ _ _=>wSe x y)
 (fun x y _ _ _=>wSf x y)
 (fun x y _ _ _=>wSg x y)
 (fun x y _ _ _=>wSh x y)
 (fun x y _ _ _=>wSi x y)
 (fun x y _ _ _=>wSj x y)
 (fun x y _ _ _=>wSk x y)
 (fun x y _ _ _=>wSl x y)
 (fun x y _ _ _=>wSm x y)
 (fun ne x y _ _ _=>wOc ne x y)
 (fun k ne x y _ _ _=>wOd k ne x y)
 (fun ne s x y _ _ _=>wOe ne s x y)
 (fun x _ _ _=>wSn x)
 (fun x _ _ _=>wOf x)
 (fun k x _ _ _=>wOg k x)
 (fun f fi ca _ _ _=>wNS f fi ca)
 (fun _ _ _=>wVC)
 (fun T sz bytes z x y _ _ _=>wOh T sz bytes z x y)
 (fun sz x lo hi mx _ _ _=>wLn sz x lo hi mx)
 (fun sz n x lo hi _ _ _=>wIL sz n x lo hi)
 (fun off x _ _ _=>wOi off x)
 (fun off x _ _ _=>wOj off x)
 (fun off n x _ _ _=>wKp off n x)
 (fun sz x y _ _ _=>wOk sz x y)
 (fun sz n x y _ _ _=>wKq sz n x y)
 (fun n x y _ _ _=>wVD n x y)
 (fun sz n x y _ _ _=>wOl sz n x y)
 (fun two k ok z x y _ _ _=>o_lk two k ok z x y)
 (fun two k x y z _ _ _=>wMb two k x y z)
 (fun two k x y _ _ _=>wMc two k x y)
 (fun i x _ _ _=>wOm i x)
 (fun z ps _ _ _=>wOn z ps)
 (fun T len z ps _ _ _=>wIM T len z ps)
 (fun x _ _ _=>wOo x)
 (fun x _ _ _=>wMd x)
 (fun x _ _ _=>wOp x)
 (fun T sz bytes x y _ _ _=>wQk T sz bytes x y)
 (fun sz x y _ _ _=>wQl sz x y)
 (fun z x _ _ _=>wQm z x)
 (fun x y _ _ _=>wSo x y)
 (fun x y _ _ _=>wSp x y)
 wJU
 (fun _ _ _=>wSt)
 (fun x y _ _ _=>wSr x y)
 (fun x y _ _ _=>wSs x y)
 (fun l y _ _ _=>wOs l y)
 (fun T sz bytes z x y _ _ _=>wQn T sz bytes z x y) op
def wUc (op:AOp) (tb:Tr AF) (ex exY:Run) (σ:Tr AV) (h:AH):Option (AV × AH) :=
 match opY op tb ex exY σ ⟨h.m,h.nx,h.nx⟩ with
 | some (v,h')=>some (v,⟨h'.m,h'.nx,h.fl⟩)
 | none=>none
def opK (k:Nat) (op:AOp):Tr AF->Run->Run->Tr AV->AH->Option (AV × AH) :=
 kB (motive:=fun _=>Tr AF->Run->Run->Tr AV->AH->Option (AV × AH)) (opY op) (wUc op) (nD k 2)
def wHH (d:Option Pos) (σ:Tr AV) (v:AV):Tr AV:=nR (motive:=fun _=>Tr AV) σ (fun p=>σ.set p v) d
def isB (b:Bool) (v:AV):Bool:=match v with
 | .bool b'=>b' == b
 | _=>false
def wNU (σ:Tr AV) (g:Option (Pos × Bool)):Bool:=nR (motive:=fun _=>Bool) true (fun q=>isB q.2 (evA σ (.t q.1))) g
def adv (p:Pos) (n:Nat):Pos:=nr (motive:=fun _=>Pos) p (fun _ q=>q.succ) n
def putN (h:AH) (q:Pos) (r:AV × AH):Option (AV × AH):=nR (motive:=fun _=>Option (AV × AH)) none (fun B=>some (r.1,⟨h.m.set q B,h.nx,h.fl⟩)) (r.2.m.get q)
def opN (q:Pos) (op:AOp) (tb:Tr AF) (ex exY:Run) (σ:Tr AV) (h:AH):Option (AV × AH) :=
 nR (motive:=fun _=>Option (AV × AH)) none (putN h q) (opY op tb ex exY σ ⟨.e,q,h.fl⟩)
def opP (b:Pos) (o:AO) (tb:Tr AF) (ex exY:Run) (σ:Tr AV) (h:AH):Option (AV × AH) :=
 kB (motive:=fun _=>Option (AV × AH)) (opK o.kd o.op tb ex exY σ h) (opN (adv b (Nat.sub o.kd 8)) o.op tb ex exY σ h) (nO 8 o.kd)
def eqv:AV->AV->Bool
 | .int k n,.int k' n'=>keq k k' && zeq n n'
 | .ptr b o,.ptr c p=>b.beq c && nD o p
 | .map b,.map c=>b.beq c
 | _,_=>false
def wRq (c:AO) (tb:Tr AF) (ex exY:Run) (σ:Tr AV) (h:AH):Bool:=match c.dst,opY c.op tb ex exY σ h with
 | some p,some (v,_)=>eqv v (evA σ (.t p))
 | _,_=>false
def wQo (k:Nat):Bool:=nD k 0 || nD k 2
def wLo (k:Nat) (os acc:List AO) (tb:Tr AF) (ex exY:Run) (σ:Tr AV) (h:AH):Bool :=
 !wQo k || ((os.all fun x=>nQ x.kd 8) && acc.all fun c=>wRq c tb ex exY σ h)
def wLp (o:AO) (acc:List AO):List AO:=bif nD o.kd 5 then o :: acc else acc
def goOn (o:AO) (os acc:List AO) (k:List AO->Tr AV->AH->Option (Tr AV × AH)) (tb:Tr AF) (ex exY:Run) (σ:Tr AV) (r:AV × AH):Option (Tr AV × AH) :=
 kB (motive:=fun _=>Option (Tr AV × AH)) none (k (wLp o acc) (wHH o.dst σ r.1) r.2) (wLo o.kd os acc tb ex exY (wHH o.dst σ r.1) r.2)
def wKr (b:Pos) (tb:Tr AF) (ex exY:Run) (l:List AO):List AO->Tr AV->AH->Option (Tr AV × AH) :=
 nZ (motive:=fun _=>List AO->Tr AV->AH->Option (Tr AV × AH)) (fun _ σ h=>some (σ,h)) (fun o os ih acc σ h =>
 kB (motive:=fun _=>Option (Tr AV × AH)) (ih acc (wHH o.dst σ u) h) (nR (motive:=fun _=>Option (Tr AV × AH)) none (goOn o os acc ih tb ex exY σ) (opP b o tb ex exY σ h)) (wNU σ o.grd)) l
theorem wDN {b:Pos} {tb:Tr AF} {ex exY:Run} {o:AO} {os acc:List AO} {σ:Tr AV} {h:AH} {r:Tr AV × AH}:wKr b tb ex exY (o :: os) acc σ h=some r ↔
  (wNU σ o.grd=false/\wKr b tb ex exY os acc (wHH o.dst σ u) h=some r) \/ (wNU σ o.grd=true/\∃ v h1,opP b o tb ex exY σ h=some (v,h1)/\wLo o.kd os acc tb ex exY (wHH o.dst σ v) h1=true/\wKr b tb ex exY os (wLp o acc) (wHH o.dst σ v) h1=some r):=by
 have e:wKr b tb ex exY (o :: os) acc σ h=kB (motive:=fun _=>Option (Tr AV × AH)) (wKr b tb ex exY os acc (wHH o.dst σ u) h) (nR (motive:=fun _=>Option (Tr AV × AH)) none (goOn o os acc (wKr b tb ex exY os) tb ex exY σ) (opP b o tb ex exY σ h)) (wNU σ o.grd):=rfl
 rw [e]
 cases wNU σ o.grd with
 | false=>simp
 | true =>
  cases opP b o tb ex exY σ h with
  | none=>simp
  | some q =>
   obtain ⟨v,h1⟩:=q
   show goOn o os acc _ tb ex exY σ (v,h1)=_ ↔ _
   unfold goOn
   cases hs:wLo o.kd os acc tb ex exY (wHH o.dst σ v) h1 with
   | false=>exact ⟨fun q=>(by cases q),fun q=>(by
     rcases q with ⟨q,_⟩ | ⟨_,v',h',e,q,_⟩
     ·cases q
     ·cases e;rw [hs] at q;cases q)⟩
   | true=>exact ⟨fun q=>.inr ⟨rfl,v,h1,rfl,hs,q⟩,fun q=>(by
     rcases q with ⟨q,_⟩ | ⟨_,v',h',e,_,q⟩
     ·cases q
     ·cases e;exact q)⟩
def wVF (l:List AO):Nat:=nZ (motive:=fun _=>Nat) 0 (fun o _ n=>kB (motive:=fun _=>Nat) n (Nat.succ n) (nO 8 o.kd)) l
abbrev R:=Option (Ex × Tr AV × AH)
def sNrm (σ:Tr AV) (h:AH):R:=some (.nrm,σ,h)
def sRg (l:List AO) (tb:Tr AF) (ex exY:Run) (σ:Tr AV) (h:AH):R :=
 nR (motive:=fun _=>R) none (fun r=>some (.nrm,r.1,r.2)) (wKr h.nx tb ex exY l [] σ ⟨h.m,adv h.nx (wVF l),h.fl⟩)
def seqK (b:AC) (exR:Run) (r:Ex × Tr AV × AH):R:=Ex.rec (motive:=fun _=>Tr AV->AH->R) (fun σ h=>exR b σ h) (fun i σ h=>some (.exit i,σ,h)) (fun σ h=>some (.ret,σ,h)) r.1 r.2.1 r.2.2
def sSeq (a b:AC) (exR:Run) (σ:Tr AV) (h:AH):R:=nR (motive:=fun _=>R) none (seqK b exR) (exR a σ h)
def wSu (c:AOd) (a b:AC) (exR:Run) (σ:Tr AV) (h:AH):R:=match evA σ c with
 | .bool true=>exR a σ h
 | .bool false=>exR b σ h
 | _=>none
def wVG (i:Nat) (r:Ex × Tr AV × AH):R:=Ex.rec (motive:=fun _=>Tr AV->AH->R) (fun σ h=>some (.nrm,σ,h))
 (fun j σ h=>kB (motive:=fun _=>R) (some (.exit j,σ,h)) (some (.nrm,σ,h)) (nD j i)) (fun σ h=>some (.ret,σ,h)) r.1 r.2.1 r.2.2
def wRr (i:Nat) (a:AC) (exR:Run) (σ:Tr AV) (h:AH):R:=nR (motive:=fun _=>R) none (wVG i) (exR a σ h)
def wSv (a:AC) (exR:Run) (σ:Tr AV) (h:AH):R:=nR (motive:=fun _=>R) none (seqK (.loop a) exR) (exR a σ h)
def sRf (f:Bool) (g:AOd) (t:List Pos) (asg body:AC) (tb:Tr AF) (ex:Run) (σ:Tr AV) (h:AH):R:=match f,evA σ g with
 | true,.fn f fi ca=>match wNT tb ex f (fi ++ (.yld h.nx :: ca)) (h.push (.loop σ t asg body .ready)) with
  | some (_,h2)=>match h2.m.get h.nx with
   | some (.loop _ _ _ _ .ready)=>match h2.put h.nx .dead with
    | some h3=>some (.nrm,σ,h3)
    | none=>none
   | some (.loop _ _ _ _ (.done e))=>match h2.put h.nx .dead with
    | some h3=>some (e,σ,h3)
    | none=>none
   | _=>none
  | none=>none
 | _,_=>none
def step (c:AC):Bool->Tr AF->Run->Run->Run->Tr AV->AH->R :=
 AC.rec (motive:=fun _=>Bool->Tr AF->Run->Run->Run->Tr AV->AH->R)
 (fun _ _ _ _ _=>sNrm)
 (fun l _ tb ex exY _=>sRg l tb ex exY)
 (fun a b _ _ _ _ _ _ exR=>sSeq a b exR)
 (fun c a b _ _ _ _ _ _ exR=>wSu c a b exR)
 (fun i a _ _ _ _ _ exR=>wRr i a exR)
 (fun a _ _ _ _ _ exR=>wSv a exR)
 (fun g t asg body _ _ f tb ex _ _=>sRf f g t asg body tb ex)
 (fun i _ _ _ _ _ σ h=>some (.exit i,σ,h))
 (fun a _ _ _ _ _ exR=>exR a)
 (fun _ _ _ _ _ σ h=>some (.ret,σ,h))
 (fun _ _ _ _ _ _ _=>none) c
def exec (tb:Tr AF) (n:Nat):Bool->Run :=
 nr (motive:=fun _=>Bool->Run) (fun _ _ _ _=>none) (fun _ ih r c=>step c (!r) tb (ih false) (ih true) (ih r)) n
theorem wOt (tb:Tr AF) (n:Nat) (r:Bool) (c:AC):exec tb (n + 1) r c=step c (!r) tb (exec tb n false) (exec tb n true) (exec tb n r):=rfl
end
open Go.RowKit Go.KL
structure Gh where
 N:Nat
 σ:Env
 t:List Nat
 ac:Code
 bc:Code
 rb:Nat
 fn:FuncId
def g0:Gh:=⟨0,fun _=>undef,[],.skip,.skip,0,0⟩
structure Cl where
 b:Nat
 c:Nat
 g:Gh
abbrev Mu:=Pos->Option Cl
mutual
def Rv (μ:Mu):AV->Value->Prop
 | .int k n,v=>v=.int k n
 | .bool b,v=>v=.bool b
 | .ptr b off,v=>∃ c,μ b=some c/\v=.pointer (some ⟨c.1,off,none⟩)
 | .pnil,v=>v=.pointer none
 | .sl b off n c,v=>∃ d,μ b=some d/\n <= c/\v=.slice (some ⟨d.1,off,none⟩) n c
 | .rw b eo co n,v=>∃ d,μ b=some d/\eo + n <= d.2/\v=.slice (some ⟨d.1,co,none⟩) n (d.2 - eo)
 | .rz b eo,v=>∃ d,μ b=some d/\∃ o,v=.slice (some ⟨d.1,o,none⟩) 0 (d.2 - eo)
 | .snil,v=>v=.slice none 0 0
 | .map b,v=>∃ c,μ b=some c/\v=.map (some c.1)
 | .mnil,v=>v=.map none
 | .fn f fi ca,v=>∃ fv cv,RvL μ fi fv/\RvL μ ca cv/\v=.func (.func (f.nat - 1)) fv.toArray cv.toArray
 | .yld b,v=>∃ c,μ b=some c/\v=.func (.yield c.1) #[] #[]
 | .fnil,v=>v=.nilFunc
 | .agg l,v=>∃ vs,RvL μ l vs/\v=.agg vs.toArray
 | .tup l,v=>∃ vs,RvL μ l vs/\v=.tuple vs.toArray
def RvL (μ:Mu):List AV->List Value->Prop
 | [],vs=>vs=[]
 | a :: l,vs=>∃ v ws,Rv μ a v/\RvL μ l ws/\vs=v :: ws
end
def Mu.Le (μ μ':Mu):Prop:=∀ p c,μ p=some c->μ' p=some c
theorem Mu.Le.refl (μ:Mu):μ.Le μ:=fun _ _ h=>h
theorem Mu.Le.trans {a b c:Mu} (h:a.Le b) (k:b.Le c):a.Le c:=fun p x hx=>k p x (h p x hx)
mutual
theorem Rv.mono {μ μ':Mu} (hm:μ.Le μ'):∀ {a:AV} {v:Value},Rv μ a v->Rv μ' a v
 | .int _ _,_,h=>h
 | .bool _,_,h=>h
 | .ptr _ _,_,⟨c,h1,h2⟩=>⟨c,hm _ _ h1,h2⟩
 | .pnil,_,h=>h
 | .sl _ _ _ _,_,⟨c,h1,h2⟩=>⟨c,hm _ _ h1,h2⟩
 | .rw _ _ _ _,_,⟨c,h1,h2⟩=>⟨c,hm _ _ h1,h2⟩
 | .rz _ _,_,⟨c,h1,h2⟩=>⟨c,hm _ _ h1,h2⟩
 | .snil,_,h=>h
 | .map _,_,⟨c,h1,h2⟩=>⟨c,hm _ _ h1,h2⟩
 | .mnil,_,h=>h
 | .fn _ _ _,_,⟨fv,cv,h1,h2,h3⟩=>⟨fv,cv,RvL.mono hm h1,RvL.mono hm h2,h3⟩
 | .yld _,_,⟨c,h1,h2⟩=>⟨c,hm _ _ h1,h2⟩
 | .fnil,_,h=>h
 | .agg _,_,⟨vs,h1,h2⟩=>⟨vs,RvL.mono hm h1,h2⟩
 | .tup _,_,⟨vs,h1,h2⟩=>⟨vs,RvL.mono hm h1,h2⟩
theorem RvL.mono {μ μ':Mu} (hm:μ.Le μ'):∀ {l:List AV} {vs:List Value},RvL μ l vs->RvL μ' l vs
 | [],_,h=>h
 | _ :: _,_,⟨v,ws,h1,h2,h3⟩=>⟨v,ws,Rv.mono hm h1,RvL.mono hm h2,h3⟩
end
theorem wIN {μ:Mu}:RvL μ [] []:=rfl
theorem wBv {μ:Mu} {a:AV} {l:List AV} {v:Value} {vs:List Value} (h:Rv μ a v) (h':RvL μ l vs):RvL μ (a :: l) (v :: vs):=⟨v,vs,h,h',rfl⟩
theorem wEu {μ:Mu}:∀ {l:List AV} {vs:List Value},RvL μ l vs->vs.length=l.length
 | [],_,h=>by cases h;rfl
 | _ :: _,_,⟨_,_,_,h2,h3⟩=>by subst h3;simp [wEu h2]
theorem wFh {μ:Mu}:∀ {l k:List AV} {vs ws:List Value},RvL μ l vs->RvL μ k ws->RvL μ (l ++ k) (vs ++ ws)
 | [],_,_,_,h,h'=>by cases h;exact h'
 | _ :: _,_,_,_,⟨v,ws,h1,h2,h3⟩,h'=>by subst h3;exact wBv h1 (wFh h2 h')
theorem wGh {μ:Mu}:∀ {l:List AV} {vs:List Value},RvL μ l vs->∀ {i:Nat} {a:AV},l[i]?=some a->∃ v,vs[i]?=some v/\Rv μ a v
 | [],_,_,i,a,hi=>by simp at hi
 | b :: l,_,⟨v,ws,h1,h2,h3⟩,i,a,hi=>by
  subst h3
  cases i with
  | zero=>simp at hi;subst hi;exact ⟨v,rfl,h1⟩
  | succ i=>simpa using wGh h2 (i:=i) (by simpa using hi)
theorem wJp {μ:Mu}:∀ {l:List AV} {vs:List Value} (n:Nat),RvL μ l vs->RvL μ (l.drop n) (vs.drop n)
 | _,_,0,h=>h
 | [],_,n + 1,h=>by cases h;exact rfl
 | _ :: _,_,n + 1,⟨_,_,_,h2,h3⟩=>by subst h3;exact wJp n h2
theorem wJq {μ:Mu}:∀ {l:List AV} {vs:List Value} (n:Nat),RvL μ l vs->RvL μ (l.take n) (vs.take n)
 | _,_,0,_=>rfl
 | [],_,n + 1,h=>by cases h;exact rfl
 | _ :: _,_,n + 1,⟨_,_,h1,h2,h3⟩=>by subst h3;exact wBv h1 (wJq n h2)
theorem wJr {μ:Mu} {l:List AV} {vs:List Value} (h:RvL μ l vs):∀ n,RvL μ (rep n l) (nJ n vs).flatten
 | 0=>rfl
 | n + 1=>by rw [kj,List.flatten_cons];exact wFh h (wJr h n)
section
variable {α:Type}
theorem wHp:∀ (l:List α) (n:Nat),nth l n=l[n]?
 | [],_=>rfl
 | _ :: _,0=>rfl
 | _ :: l,n + 1=>by show nth l n=_;rw [wHp l n];simp
theorem wGW:∀ (l:List α),len l=l.length
 | []=>rfl
 | _ :: l=>by show Nat.succ (len l)=_;rw [wGW l];rfl
theorem wHc {a:α} {o:Option (List α)} {r:List α} (h:wLk a o=some r):∃ r',o=some r'/\r=a :: r':=by
 cases o with
 | none=>cases h
 | some r'=>cases h;exact ⟨r',rfl,rfl⟩
theorem wLq:∀ {l:List α} {n:Nat} {r:List α},tk l n=some r->r=l.take n/\n <= l.length
 | [],0,r,h=>by cases h;simp
 | [],n + 1,r,h=>by cases h
 | a :: l,0,r,h=>by cases h;simp
 | a :: l,n + 1,r,h=>by
  obtain ⟨r',h1,rfl⟩:=wHc (show wLk a (tk l n)=some r from h)
  obtain ⟨h2,h3⟩:=wLq h1
  simp [h2,h3]
theorem wMe:∀ {l:List α} {off n:Nat} {r:List α},sub l off n=some r->r=(l.drop off).take n/\off + n <= l.length
 | [],0,n,r,h=>by have:=wLq (l:=[]) (n:=n) h;simpa using this
 | [],off + 1,n,r,h=>by cases h
 | a :: l,0,n,r,h=>by have:=wLq (l:=a :: l) (n:=n) h;simpa using this
 | a :: l,off + 1,n,r,h=>by
  obtain ⟨h1,h2⟩:=wMe (show sub l off n=some r from h)
  exact ⟨by simpa using h1,by simp;omega⟩
theorem wLr:∀ {l vs r:List α},ov l vs=some r->vs.length <= l.length/\r=vs ++ l.drop vs.length
 | [],[],r,h=>by cases h;simp
 | [],v :: vs,r,h=>by cases h
 | a :: l,[],r,h=>by cases h;simp
 | a :: l,v :: vs,r,h=>by
  obtain ⟨r',h1,rfl⟩:=wHc (show wLk v (ov l vs)=some r from h)
  obtain ⟨h2,h3⟩:=wLr h1
  subst h3
  exact ⟨by simpa using h2,by simp⟩
theorem wKs:∀ {l:List α} {off:Nat} {vs r:List α},wSZ l off vs=some r->off + vs.length <= l.length/\r=l.take off ++ vs ++ l.drop (off + vs.length)
 | [],0,vs,r,h=>by have:=wLr (l:=[]) h;simp at this;simp [this]
 | [],off + 1,vs,r,h=>by cases h
 | a :: l,0,vs,r,h=>by have:=wLr (l:=a :: l) h;simp at this;simp [this]
 | a :: l,off + 1,vs,r,h=>by
  obtain ⟨r',h1,rfl⟩:=wHc (show wLk a (wSZ l off vs)=some r from h)
  obtain ⟨h2,h3⟩:=wKs h1
  subst h3
  refine ⟨by simp;omega,?_⟩
  rw [show off + 1 + vs.length=(off + vs.length) + 1 from by omega]
  simp
end
theorem setN_eq:∀ (vs l:List Value) (off:Nat),off + vs.length <= l.length->wFA l off vs=l.take off ++ vs ++ l.drop (off + vs.length)
 | [],l,off,_=>by simp [wFA]
 | v :: vs,l,off,h=>by
  simp only [List.length_cons] at h
  have hlt:off < l.length:=by omega
  rw [wFA,setN_eq vs (l.set off v) (off + 1) (by simp;omega)]
  have h1:(l.set off v).take (off + 1)=l.take off ++ [v]:=by
   rw [List.take_set,List.take_add_one,nE hlt]
   rw [List.set_append_right _ _ (by simp;omega)]
   simp [ka (Nat.le_of_lt hlt)]
  rw [h1,List.drop_set_of_lt (by omega)]
  rw [show off + 1 + vs.length=off + (v :: vs).length from by simp;omega]
  simp
theorem wJs {μ:Mu} {l vs r:List AV} {L V:List Value} {off:Nat} (h:wSZ l off vs=some r) (hl:RvL μ l L) (hv:RvL μ vs V):off + V.length <= L.length/\RvL μ r (wFA L off V):=by
 obtain ⟨h1,rfl⟩:=wKs h
 have e1:=wEu hl
 have e2:=wEu hv
 have h2:off + V.length <= L.length:=by omega
 refine ⟨h2,?_⟩
 rw [setN_eq V L off h2,e2]
 exact wFh (wFh (wJq off hl) hv) (wJp _ hl)
theorem wGi {μ:Mu} {l r:List AV} {L:List Value} {off n:Nat} (h:sub l off n=some r) (hl:RvL μ l L):RvL μ r ((L.drop off).take n)/\off + n <= L.length:=by
 obtain ⟨rfl,h1⟩:=wMe h
 have e1:=wEu hl
 exact ⟨wJq n (wJp off hl),by omega⟩
theorem wVH {μ:Mu} {a:AV} {v:Value} (h:Rv μ a v) (h1:a.one=true):one v=true:=by
 cases a <;> simp only [Rv] at h <;> first | (cases h1;done) | (subst h;rfl) | (obtain ⟨_,_,_,_,_,rfl⟩:=h;rfl) | (obtain ⟨_,_,_,_,rfl⟩:=h;rfl) | (obtain ⟨_,_,_,rfl⟩:=h;rfl) | (obtain ⟨_,_,rfl⟩:=h;rfl)
theorem wFi {μ:Mu}:∀ {l:List AV} {vs:List Value},RvL μ l vs->wSa l=true->∀ v ∈ vs,one v=true
 | [],_,h,_=>by cases h;simp
 | a :: l,_,⟨v,ws,h1,h2,h3⟩,ho=>by
  subst h3
  have ho:(a.one && wSa l)=true:=ho
  rw [nA] at ho
  intro u hu
  rcases nh.1 hu with rfl | hu
  ·exact wVH h1 ho.1
  ·exact wFi h2 ho.2 u hu
theorem wJt {μ:Mu} {a:AV} {v:Value} (h:Rv μ a v):∃ vs,RvL μ a.cells vs/\v.cells=vs.toArray:=by
 cases a with
 | agg l=>obtain ⟨vs,h1,rfl⟩:=h;exact ⟨vs,h1,rfl⟩
 | tup l=>obtain ⟨vs,h1,rfl⟩:=h;exact ⟨[_],wBv ⟨vs,h1,rfl⟩ wIN,rfl⟩
 | _ =>
  refine ⟨[v],wBv h wIN,?_⟩
  simp only [Rv] at h
  first | (subst h;rfl) | (obtain ⟨_,_,_,_,_,rfl⟩:=h;rfl) | (obtain ⟨_,_,_,_,rfl⟩:=h;rfl) | (obtain ⟨_,_,_,rfl⟩:=h;rfl) | (obtain ⟨_,_,rfl⟩:=h;rfl)
noncomputable section
open Go.RowKit Go.KL
def EnvR (μ:Mu) (σA:Tr AV) (σ:Env):Prop:=∀ p:Pos,Rv μ (evA σA (.t p)) (σ (p.nat - 1))
theorem wSw (σA:Tr AV) (p:Pos):evA σA (.t p)=(σA.get p).getD u:=by
 show nR (motive:=fun _=>AV) u (fun v=>v) (σA.get p)=_
 cases σA.get p <;> rfl
theorem EnvR.mono {μ μ':Mu} {σA:Tr AV} {σ:Env} (h:EnvR μ σA σ) (hm:μ.Le μ'):EnvR μ' σA σ:=fun p=>(h p).mono hm
theorem EnvR.put {μ:Mu} {σA:Tr AV} {σ:Env} (h:EnvR μ σA σ) {p:Pos} {a:AV} {v:Value} (hv:Rv μ a v):EnvR μ (σA.set p a) (upd σ (p.nat - 1) v):=by
 intro q
 rw [wSw,Tr.get_set]
 by_cases e:q=p
 ·subst e;rw [if_pos rfl,wEY];exact hv
 ·rw [if_neg e,wFE,<- wSw]
  ·exact h q
  ·intro e2
   have:=p.nat_pos;have:=q.nat_pos
   exact e (Pos.nat_inj (by omega))
theorem wUd (μ:Mu):Rv μ u undef:=⟨[],rfl,rfl⟩
theorem wMf {μ:Mu}:∀ {args:List AV} {vs:List Value},RvL μ args vs->∀ {p:Pos} {t:Tr AV} {σ σ':Env},EnvR μ t σ->(∀ i,i < p.nat - 1->σ' i=σ i)->(∀ j v,vs[j]?=some v->σ' (p.nat - 1 + j)=v) ->
  (∀ i,p.nat - 1 + vs.length <= i->σ' i=σ i)->EnvR μ (wOq args p t) σ'
 | [],_,h,p,t,σ,σ',hE,h1,_,h3=>by
  cases h
  intro q
  have:=hE q
  by_cases e:q.nat - 1 < p.nat - 1
  ·rw [h1 _ e];exact this
  ·rw [h3 _ (by simp;omega)];exact this
 | a :: l,_,⟨v,ws,h1,h2,h3⟩,p,t,σ,σ',hE,g1,g2,g3=>by
  subst h3
  have hp:=p.nat_pos
  refine wMf h2 (p:=p.succ) (hE.put (p:=p) h1) ?_ ?_ ?_
  ·intro i hi
   rw [Pos.nat_succ] at hi
   by_cases e:i=p.nat - 1
   ·subst e;rw [wEY];exact g2 0 v rfl
   ·rw [wFE _ _ e];exact g1 i (by omega)
  ·intro j x hx
   rw [Pos.nat_succ]
   have:=g2 (j + 1) x (by simpa using hx)
   rw [<- this];congr 1;omega
  ·intro i hi
   rw [Pos.nat_succ] at hi
   rw [wFE _ _ (by omega)]
   exact g3 i (by simp;omega)
theorem wSx {μ:Mu} {args:List AV} {vs:List Value} (h:RvL μ args vs):EnvR μ (wOq args .H .e) (wRZ vs):=by
 have h0:EnvR μ .e (fun _=>undef):=by intro p;rw [wSw,Tr.get_e];exact wUd μ
 refine wMf h (p:=.H) h0 (fun i hi=>by simp [Pos.nat] at hi) (fun j v hv=>?_) (fun i hi=>?_)
 ·simp [wRZ,Pos.nat,hv]
 ·simp only [Pos.nat] at hi
  simp [wRZ,np (by omega:vs.length <= i)]
mutual
def okc:AV->Value->Bool
 | .int k n,.int k' n'=>keq k k' && zeq n n'
 | .bool b,.bool b'=>b == b'
 | .pnil,.pointer none=>true
 | .snil,.slice none 0 0=>true
 | .mnil,.map none=>true
 | .fnil,.nilFunc=>true
 | .agg l,.agg vs=>wQp l vs.toList
 | .tup l,.tuple vs=>wQp l vs.toList
 | _,_=>false
def wQp:List AV->List Value->Bool
 | [],[]=>true
 | a :: l,v :: vs=>okc a v && wQp l vs
 | _,_=>false
end
theorem wKt:∀ {a b:Int},zeq a b=true ↔ a=b
 | .ofNat a,.ofNat b=>by simp [zeq];omega
 | .negSucc a,.negSucc b=>by simp [zeq]
 | .ofNat a,.negSucc b=>by simp [zeq]
 | .negSucc a,.ofNat b=>by simp [zeq]
theorem wFj (a b:Int):zeq a b=decide (a=b):=by
 by_cases h:a=b
 ·rw [wKt.2 h];simp [h]
 ·have:zeq a b ≠ true:=fun e=>h (wKt.1 e)
  simp [h,na.2 this]
theorem wIO:∀ (a b:Int),zlt a b=decide (a < b)
 | .ofNat a,.ofNat b=>by
  simp only [zlt,ng,Int.ofNat_lt]
  by_cases h:a < b
  ·simp [h,nP]
  ·simp [h,na,nP]
 | .negSucc a,.negSucc b=>by
  simp only [zlt,kC]
  by_cases h:b < a
  ·have h2:-((a:Int) + 1) < -((b:Int) + 1):=by omega
   simp [h2,nP];exact h
  ·have h2:¬ -((a:Int) + 1) < -((b:Int) + 1):=by omega
   simp [h2,na,nP];omega
 | .ofNat a,.negSucc b=>by
  simp only [zlt,kC,ng]
  have h2:¬ (a:Int) < -((b:Int) + 1):=by omega
  simp [h2]
 | .negSucc a,.ofNat b=>by
  simp only [zlt,kC,ng]
  have h2:-((a:Int) + 1) < (b:Int):=by omega
  simp [h2]
theorem wOu (a b:Int):zle a b=decide (a <= b):=by
 rw [zle,wIO]
 by_cases h:a <= b
 ·simp [h,Int.not_lt.2 h]
 ·simp [h,Int.not_le.1 h]
theorem wBw {a b:IntKind} (h:keq a b=true):a=b:=by cases a <;> cases b <;> first | rfl | cases h
mutual
theorem wOv (μ:Mu):∀ {a:AV} {v:Value},okc a v=true->Rv μ a v
 | .int k n,v,h=>by
  cases v <;> simp only [okc,nA,nY] at h
  rw [wBw h.1,wKt.1 h.2];rfl
 | .bool b,v,h=>by
  cases v <;> simp only [okc,beq_iff_eq,nY] at h
  subst h;rfl
 | .pnil,v,h=>by
  unfold okc at h
  split at h <;> first | rfl | (exfalso;simp_all;done) | simp_all [Rv]
 | .snil,v,h=>by
  unfold okc at h
  split at h <;> first | rfl | (exfalso;simp_all;done) | simp_all [Rv]
 | .mnil,v,h=>by
  unfold okc at h
  split at h <;> first | rfl | (exfalso;simp_all;done) | simp_all [Rv]
 | .fnil,v,h=>by
  cases v <;> simp only [okc,nY] at h
  rfl
 | .agg l,v,h=>by
  cases v <;> simp only [okc,nY] at h
  exact ⟨_,wIP μ h,by simp⟩
 | .tup l,v,h=>by
  cases v <;> simp only [okc,nY] at h
  exact ⟨_,wIP μ h,by simp⟩
 | .ptr _ _,v,h=>by simp [okc] at h
 | .sl _ _ _ _,v,h=>by simp [okc] at h
 | .rw _ _ _ _,v,h=>by simp [okc] at h
 | .rz _ _,v,h=>by simp [okc] at h
 | .map _,v,h=>by simp [okc] at h
 | .fn _ _ _,v,h=>by simp [okc] at h
 | .yld _,v,h=>by simp [okc] at h
theorem wIP (μ:Mu):∀ {l:List AV} {vs:List Value},wQp l vs=true->RvL μ l vs
 | [],[],_=>rfl
 | a :: l,v :: vs,h=>by
  simp only [wQp,nA] at h
  exact wBv (wOv μ h.1) (wIP μ h.2)
 | [],_ :: _,h=>by simp [wQp] at h
 | _ :: _,[],h=>by simp [wQp] at h
end
def wCl:AOd->Operand->Bool
 | .t p,.tmp t=>nD p.nat (t + 1)
 | .c a,.const v=>okc a v
 | .c (.fn f [] []),.func g=>nD f.nat (g + 1)
 | _,_=>false
def wKu:List AOd->List Operand->Bool
 | [],[]=>true
 | x :: l,y :: k=>wCl x y && wKu l k
 | _,_=>false
theorem wAW {μ:Mu} {σA:Tr AV} {σ:Env} {x:AOd} {y:Operand} (h:wCl x y=true) (hE:EnvR μ σA σ):Rv μ (evA σA x) (ev σ y):=by
 unfold wCl at h
 split at h
 ·rename_i p t
  have:=nB h
  have h2:=hE p
  rw [this] at h2
  exact h2
 ·exact wOv μ h
 ·rename_i f g
  have:=nB h
  exact ⟨[],[],rfl,rfl,by show Value.func (.func g) #[] #[]=_;rw [this];rfl⟩
 ·cases h
theorem wHw {μ:Mu} {σA:Tr AV} {σ:Env}:∀ {l:List AOd} {k:List Operand},wKu l k=true->EnvR μ σA σ->RvL μ (evs σA l) (k.map (ev σ))
 | [],[],_,_=>rfl
 | x :: l,y :: k,h,hE=>by
  simp only [wKu,nA] at h
  exact wBv (wAW h.1 hE) (wHw h.2 hE)
 | [],_ :: _,h,_=>by simp [wKu] at h
 | _ :: _,[],h,_=>by simp [wKu] at h
def MR {K:Type} (μ:Mu) (l:List (K × AV)) (t:List (K × Value)):Prop:=l.map (·.1)=t.map (·.1)/\RvL μ (l.map (·.2)) (t.map (·.2))
def mk2 (k:IntKind) (x:Int × Int):Value:=.agg #[.int k x.1,.int k x.2]
def exC:Ex->Exit
 | .nrm=>.normal
 | .exit i=>.exit i
 | .ret=>.ret
def lsC:LS->LoopState × Option Code
 | .ready=>(.ready,none)
 | .busy=>(.busy,none)
 | .done .ret=>(.done,some .ret)
 | .done (.exit i)=>(.done,some (.exit i))
 | .done .nrm=>(.ready,none)
abbrev Chk:=AC->Code->Nat->Prop
structure wNV (C:Chk) (μ:Mu) (w:World) (c:Cl) (σA:Tr AV) (t:List Pos) (asg body:AC) (s:LS):Prop where
 at_:LoopAt w c.1 c.g.N c.g.σ c.g.t c.g.ac c.g.bc c.g.rb c.g.fn (lsC s).1 (lsC s).2
 env:EnvR μ σA c.g.σ
 ht:t.map Pos.nat=c.g.t.map (· + 1)
 tN:∀ x ∈ c.g.t,x < c.g.N
 asg:C asg c.g.ac c.g.N
 body:C body c.g.bc c.g.N
def AbR (C:Chk) (P:Program) (μ:Mu) (w:World) (c:Cl):AB->Prop
 | .cells T l=>∃ vs,RvL μ l vs/\Blk w c.1 T vs
 | .row T sz l=>∃ vs,RvL μ l vs/\RowAt w (some ⟨c.1,0,none⟩) c.2 T sz vs
 | .map0=>∃ ck,w.heap[c.1]?=some (.map #[] ck)
 | .mapI k l=>∃ es ck t,w.heap[c.1]?=some (.map es ck)/\MpR es (fun n:Int=>ky k n) id t/\MR μ l t
 | .map2 k l=>∃ es ck t,w.heap[c.1]?=some (.map es ck)/\MpR es (mk2 k) id t/\MR μ l t
 | .loop σA t asg body s=>wNV C μ w c σA t asg body s
 | .dead=>True
def wNy:AB->Prop
 | .dead=>False
 | _=>True
variable {C:Chk} {P:Program} {μ μ' μ'':Mu} {w w' w'':World} {h h' h'':AH}
theorem MR.mono {K:Type} {l:List (K × AV)} {t:List (K × Value)} (h:MR μ l t) (hm:μ.Le μ'):MR μ' l t:=⟨h.1,h.2.mono hm⟩
theorem AbR.mono {c:Cl} {B:AB} (h:AbR C P μ w c B) (hm:μ.Le μ'):AbR C P μ' w c B:=by
 cases B with
 | cells T l=>obtain ⟨vs,h1,h2⟩:=h;exact ⟨vs,h1.mono hm,h2⟩
 | row T sz l=>obtain ⟨vs,h1,h2⟩:=h;exact ⟨vs,h1.mono hm,h2⟩
 | map0=>exact h
 | mapI k l=>obtain ⟨es,ck,t,h1,h2,h3⟩:=h;exact ⟨es,ck,t,h1,h2,h3.mono hm⟩
 | map2 k l=>obtain ⟨es,ck,t,h1,h2,h3⟩:=h;exact ⟨es,ck,t,h1,h2,h3.mono hm⟩
 | loop σA t asg body s=>exact ⟨h.at_,h.env.mono hm,h.ht,h.tN,h.asg,h.body⟩
 | dead=>trivial
theorem AbR.keep {c:Cl} {B:AB} {X:Nat->Prop} (h:AbR C P μ w c B) (k:Keep w w' X) (hx:¬ X c.1):AbR C P μ w' c B:=by
 cases B with
 | cells T l=>obtain ⟨vs,h1,h2⟩:=h;exact ⟨vs,h1,h2.keep k hx⟩
 | row T sz l =>
  obtain ⟨vs,h1,h2⟩:=h
  refine ⟨vs,h1,?_⟩
  obtain ⟨cur,h3,h4⟩:=RowAt.cells h2
  exact .inr ⟨c.1,cur,rfl,(k.block _ (wAr h3) hx).trans h3,h4⟩
 | map0=>obtain ⟨ck,h1⟩:=h;exact ⟨ck,(k.block _ (wAr h1) hx).trans h1⟩
 | mapI _ l=>obtain ⟨es,ck,t,h1,h2⟩:=h;exact ⟨es,ck,t,(k.block _ (wAr h1) hx).trans h1,h2⟩
 | map2 _ l=>obtain ⟨es,ck,t,h1,h2⟩:=h;exact ⟨es,ck,t,(k.block _ (wAr h1) hx).trans h1,h2⟩
 | loop σA t asg body s=>exact ⟨h.at_.keep k hx,h.env,h.ht,h.tN,h.asg,h.body⟩
 | dead=>trivial
def img (μ:Mu) (fl:Nat) (c:Nat):Prop:=∃ p d,μ p=some d/\d.1=c/\fl <= p.nat
structure Ext (μ:Mu) (fl:Nat) (w:World) (μ':Mu) (w':World):Prop where
 mono:μ.Le μ'
 new:∀ p c,μ' p=some c->μ p=some c \/ img μ fl c.1 \/ w.heap.size <= c.1
 keep:Keep w w' (img μ fl)
theorem Ext.refl (μ:Mu) (fl:Nat) (w:World):Ext μ fl w μ w:=⟨Mu.Le.refl μ,fun _ _ h=>.inl h,Keep.refl w _⟩
theorem Ext.img {fl:Nat} {c:Nat} (E:Ext μ fl w μ' w') (hi:img μ' fl c):KX.img μ fl c \/ w.heap.size <= c:=by
 obtain ⟨p,d,h1,rfl,h2⟩:=hi
 rcases E.new p _ h1 with h3 | h3 | h3
 ·exact .inl ⟨p,d,h3,rfl,h2⟩
 ·exact .inl h3
 ·exact .inr h3
theorem Ext.trans {fl:Nat} (E:Ext μ fl w μ' w') (E':Ext μ' fl w' μ'' w''):Ext μ fl w μ'' w'':=by
 refine ⟨E.mono.trans E'.mono,fun p c hp=>?_,E.keep.step E'.keep fun i hi hm=>?_⟩
 ·rcases E'.new p c hp with h1 | h1 | h1
  ·exact E.new p c h1
  ·exact .inr (E.img h1)
  ·exact .inr (.inr (kO E.keep.size h1))
 ·rcases E.img hm with h1 | h1
  ·exact h1
  ·omega
structure Sim (C:Chk) (P:Program) (μ:Mu) (h:AH) (w:World):Prop where
 nx:∀ p,h.nx.nat <= p.nat->μ p=none
 lt:∀ p c,μ p=some c->c.1 < w.heap.size
 inj:∀ p q a b c d,h.m.get p=some a->h.m.get q=some b->wNy a->wNy b->μ p=some c->μ q=some d->c.1=d.1->p=q
 at_:∀ p b,h.m.get p=some b->∃ c,μ p=some c/\AbR C P μ w c b
theorem Sim.keep (S:Sim C P μ h w) (k:Keep w w' Non):Sim C P μ h w' :=
 ⟨S.nx,fun p c hp=>ni (S.lt p c hp) k.size,S.inj,fun p b hb=>let ⟨c,h1,h2⟩:=S.at_ p b hb;⟨c,h1,h2.keep k id⟩⟩
theorem Sim.floor (S:Sim C P μ h w) (f:Pos):Sim C P μ ⟨h.m,h.nx,f⟩ w:=⟨S.nx,S.lt,S.inj,S.at_⟩
theorem Sim.non (S:Sim C P μ h w) (E:Ext μ h.nx.nat w μ' w') (fl:Nat):Keep w w' Non/\Ext μ fl w μ' w':=by
 have hn:∀ c,¬ img μ h.nx.nat c:=fun c ⟨p,k,h1,_,h2⟩=>by rw [S.nx p h2] at h1;cases h1
 refine ⟨E.keep.weak fun i _ hi=>hn i hi,E.mono,fun p c hp=>?_,E.keep.weak fun i _ hi=>(hn i hi).elim⟩
 rcases E.new p c hp with h1 | h1 | h1
 ·exact .inl h1
 ·exact (hn _ h1).elim
 ·exact .inr (.inr h1)
theorem wMg {h h':AH} {p:Pos} {B:AB} (hp:h.put p B=some h'):h.fl.nat <= p.nat/\h'=⟨h.m.set p B,h.nx,h.fl⟩:=by
 unfold AH.put at hp
 split at hp
 ·cases hp
 ·rename_i hf
  cases hp
  refine ⟨?_,rfl⟩
  rcases nt p.nat h.fl.nat with hlt | hge
  ·rw [(Pos.ltb_iff p h.fl false).2 (.inl hlt)] at hf;cases hf
  ·exact hge
theorem Sim.put {p:Pos} {B B':AB} {c:Cl} (S:Sim C P μ h w) (hp:h.put p B'=some h') (hB:h.m.get p=some B) (hl:wNy B) (hc:μ p=some c) (K:Keep w w' (·=c.1)) (hB':AbR C P μ w' c B') :
  Sim C P μ h' w'/\Ext μ h.fl.nat w μ w'/\h'.fl=h.fl:=by
 obtain ⟨hf,rfl⟩:=wMg hp
 refine ⟨⟨S.nx,fun p c hp=>ni (S.lt p c hp) K.size,?_,?_⟩,⟨Mu.Le.refl μ,fun _ _ h=>.inl h,K.weak fun i _ e=>⟨p,c,hc,e.symm,hf⟩⟩,rfl⟩
 ·intro q r a b d e hq hr la lb hd he hde
  simp only [Tr.get_set] at hq hr
  split at hq <;> split at hr
  ·rename_i h1 h2;rw [h1,h2]
  ·rename_i h1 h2;exact (S.inj q r B b d e (h1 ▸ hB) hr hl lb hd he hde)
  ·rename_i h1 h2;exact (S.inj q r a B d e hq (h2 ▸ hB) la hl hd he hde)
  ·exact S.inj q r a b d e hq hr la lb hd he hde
 ·intro q b hq
  simp only [Tr.get_set] at hq
  split at hq
  ·rename_i h1;subst h1;cases hq;exact ⟨c,hc,hB'⟩
  ·rename_i h1
   obtain ⟨d,h2,h3⟩:=S.at_ q b hq
   refine ⟨d,h2,?_⟩
   by_cases lb:wNy b
   ·exact h3.keep K fun e=>h1 (S.inj q p b B d c hq hB lb hl h2 hc e)
   ·cases b <;> first | trivial | exact (lb trivial).elim
def Mu.add (μ:Mu) (p:Pos) (c:Cl):Mu:=fun q=>if q=p then some c else μ q
theorem Mu.add_le {p:Pos} {c:Cl} (hn:μ p=none):μ.Le (μ.add p c):=by
 intro q d hq
 unfold Mu.add
 by_cases e:q=p
 ·subst e;rw [hn] at hq;cases hq
 ·rw [if_neg e];exact hq
theorem Mu.add_same (μ:Mu) (p:Pos) (c:Cl):μ.add p c p=some c:=by simp [Mu.add]
theorem Sim.pushAt {q0 n':Pos} {c:Cl} {B:AB} (S:Sim C P μ h w) (hn:μ q0=none) (hnn:h.nx.nat <= n'.nat) (hqn:q0.nat < n'.nat) (K:Keep w w' Non) (hc:w.heap.size <= c.1) (hlt:c.1 < w'.heap.size) (hB:AbR C P (μ.add q0 c) w' c B) :
  Sim C P (μ.add q0 c) ⟨h.m.set q0 B,n',h.fl⟩ w'/\Ext μ h.fl.nat w (μ.add q0 c) w'/\(μ.add q0 c) q0=some c:=by
 have hle:=Mu.add_le (c:=c) hn
 refine ⟨⟨?_,?_,?_,?_⟩,⟨hle,?_,K.weak fun _ _ h=>h.elim⟩,Mu.add_same _ _ _⟩
 ·intro p hp
  have hp:n'.nat <= p.nat:=hp
  unfold Mu.add
  rw [if_neg (fun e=>by subst e;omega)]
  exact S.nx p (by omega)
 ·intro p d hd
  unfold Mu.add at hd
  split at hd
  ·cases hd;exact hlt
  ·exact ni (S.lt p d hd) K.size
 ·intro p q a b d e hp hq la lb hd he hde
  simp only [Tr.get_set] at hp hq
  unfold Mu.add at hd he
  split at hd <;> split at he
  ·rename_i h1 h2;rw [h1,h2]
  ·cases hd;have:=S.lt _ _ he;omega
  ·cases he;have:=S.lt _ _ hd;omega
  ·rename_i h1 h2
   rw [if_neg h1] at hp
   rw [if_neg h2] at hq
   exact S.inj p q a b d e hp hq la lb hd he hde
 ·intro p b hb
  simp only [Tr.get_set] at hb
  split at hb
  ·rename_i h1;subst h1;cases hb;exact ⟨c,Mu.add_same _ _ _,hB⟩
  ·obtain ⟨d,h2,h3⟩:=S.at_ p b hb
   exact ⟨d,hle _ _ h2,(h3.mono hle).keep K id⟩
 ·intro p d hd
  unfold Mu.add at hd
  split at hd
  ·cases hd;exact .inr (.inr hc)
  ·exact .inl hd
theorem Sim.push {c:Cl} {B:AB} (S:Sim C P μ h w) (K:Keep w w' Non) (hc:w.heap.size <= c.1) (hlt:c.1 < w'.heap.size) (hB:AbR C P (μ.add h.nx c) w' c B) :
  Sim C P (μ.add h.nx c) (h.push B) w'/\Ext μ h.fl.nat w (μ.add h.nx c) w'/\(h.push B).fl=h.fl/\(μ.add h.nx c) h.nx=some c:=by
 have:=S.pushAt (n':=h.nx.succ) (S.nx h.nx (nN _)) (by rw [Pos.nat_succ];omega) (by rw [Pos.nat_succ];omega) K hc hlt hB
 exact ⟨this.1,this.2.1,rfl,this.2.2⟩
theorem Sim.move {p:Pos} {B B':AB} {c d:Cl} (S:Sim C P μ h w) (hp:h.put p .dead=some h') (hB:h.m.get p=some B) (hl:wNy B) (hc:μ p=some c) (K:Keep w w' (·=c.1)) (hd:d.1=c.1 \/ w.heap.size <= d.1) (hlt:d.1 < w'.heap.size)
  (hB':AbR C P (μ.add h.nx d) w' d B'):Sim C P (μ.add h.nx d) (h'.push B') w'/\Ext μ h.fl.nat w (μ.add h.nx d) w'/\(h'.push B').fl=h.fl/\(μ.add h.nx d) h.nx=some d:=by
 obtain ⟨hf,rfl⟩:=wMg hp
 have hn:=S.nx h.nx (nN _)
 have hle:=Mu.add_le (c:=d) hn
 have hpn:p ≠ h.nx:=fun e=>by rw [e,hn] at hc;cases hc
 refine ⟨⟨?_,?_,?_,?_⟩,⟨hle,?_,K.weak fun i _ e=>⟨p,c,hc,e.symm,hf⟩⟩,rfl,Mu.add_same _ _ _⟩
 ·intro q hq
  have hq:h.nx.succ.nat <= q.nat:=hq
  rw [Pos.nat_succ] at hq
  unfold Mu.add
  rw [if_neg (fun e=>by subst e;omega)]
  exact S.nx q (by omega)
 ·intro q e he
  unfold Mu.add at he
  split at he
  ·cases he;exact hlt
  ·exact ni (S.lt q e he) K.size
 ·have key:∀ q b e,q ≠ h.nx->((h.m.set p .dead).set h.nx B').get q=some b->wNy b->(μ.add h.nx d) q=some e->e.1 ≠ d.1:=by
   intro q b e hq hb lb he hed
   simp only [Tr.get_set,if_neg hq] at hb
   unfold Mu.add at he
   rw [if_neg hq] at he
   split at hb
   ·cases hb;exact lb
   ·rename_i hqp
    rcases hd with h1 | h1
    ·exact hqp (S.inj q p b B e c hb hB lb hl he hc (hed.trans h1))
    ·have:=S.lt _ _ he;omega
  intro q r a b e f hq hr la lb he hf hef
  by_cases e1:q=h.nx <;> by_cases e2:r=h.nx
  ·rw [e1,e2]
  ·subst e1;rw [Mu.add_same] at he;cases he;exact absurd hef.symm (key r b f e2 hr lb hf)
  ·subst e2;rw [Mu.add_same] at hf;cases hf;exact absurd hef (key q a e e1 hq la he)
  ·simp only [AH.push,Tr.get_set,if_neg e1,if_neg e2] at hq hr
   unfold Mu.add at he hf
   rw [if_neg e1] at he
   rw [if_neg e2] at hf
   split at hq
   ·cases hq;exact la.elim
   ·split at hr
    ·cases hr;exact lb.elim
    ·exact S.inj q r a b e f hq hr la lb he hf hef
 ·intro q b hb
  simp only [AH.push,Tr.get_set] at hb
  split at hb
  ·rename_i h1;subst h1;cases hb;exact ⟨d,Mu.add_same _ _ _,hB'⟩
  ·split at hb
   ·rename_i h1 h2;subst h2;cases hb;exact ⟨c,hle _ _ hc,trivial⟩
   ·rename_i h1 h2
    obtain ⟨e,h3,h4⟩:=S.at_ q b hb
    refine ⟨e,hle _ _ h3,?_⟩
    by_cases lb:wNy b
    ·exact (h4.mono hle).keep K fun e'=>h2 (S.inj q p b B e c hb hB lb hl h3 hc e')
    ·cases b <;> first | trivial | exact (lb trivial).elim
 ·intro q e he
  unfold Mu.add at he
  split at he
  ·cases he
   rcases hd with h1 | h1
   ·exact .inr (.inl ⟨p,c,hc,h1.symm,hf⟩)
   ·exact .inr (.inr h1)
  ·exact .inl he
end
noncomputable section
open Go.RowKit Go.KL
def aggD:TypeDesc->Bool
 | .struct _ | .array _ _=>true
 | _=>false
def wFp (P:Program) (t:TypeId) (f:TypeDesc->Bool):Bool:=match P.underlying t with
 | some d=>f d
 | none=>false
def szT (P:Program) (t n:Nat):Bool:=match P.info? t with
 | some i=>nD i.size n
 | none=>false
def byT (P:Program) (t n:Nat):Bool:=match P.info? t with
 | some i=>nD i.bytes n
 | none=>false
def zT (P:Program) (t:TypeId) (z:List AV):Bool:=match P.info? t with
 | some i=>match i.zero with
  | some v=>wQp z v.cells.toList
  | none=>false
 | none=>false
section
variable {C:Chk} {P:Program} {μ μ':Mu} {w w':World} {h h':AH} {σ:Env} {σA:Tr AV} {t e:TypeId} {o:Oper}
theorem wBL {f:TypeDesc->Bool} (hc:wFp P t f=true):∃ d,P.underlying t=some d/\f d=true:=by
 unfold wFp at hc
 split at hc
 ·exact ⟨_,by assumption,hc⟩
 ·cases hc
theorem wBY {d:TypeDesc} (hu:P.underlying t=some d) (w:World):(underlying t).run P w=.ok d w:=run_underlying hu w
theorem wFQ {n:Nat} (hc:szT P t n=true) (w:World):(sizeOf t).run P w=.ok n w:=by
 unfold szT at hc
 split at hc
 ·rename_i i hi
  rw [<- nB hc]
  simp [sizeOf,typeInfo,hi]
 ·cases hc
theorem wJu {n:Nat} (hc:szT P t n=true):∃ i,P.info? t=some i/\i.size=n:=by
 unfold szT at hc
 split at hc
 ·rename_i i hi;exact ⟨i,hi,nB hc⟩
 ·cases hc
theorem wJv {n:Nat} (hc:byT P t n=true):∃ i,P.info? t=some i/\i.bytes=n:=by
 unfold byT at hc
 split at hc
 ·rename_i i hi;exact ⟨i,hi,nB hc⟩
 ·cases hc
theorem wIQ {z:List AV} (hc:zT P t z=true):∃ i v,P.info? t=some i/\i.zero=some v/\∀ μ,RvL μ z v.cells.toList:=by
 unfold zT at hc
 split at hc
 ·rename_i i hi
  split at hc
  ·rename_i v hv;exact ⟨i,v,hi,hv,fun μ=>wIP μ hc⟩
  ·cases hc
 ·cases hc
theorem wGL {i:TypeInfo} {z:Value} (hi:P.info? t=some i) (hz:i.zero=some z) (w:World):(zeroValue t).run P w=.ok z w:=by
 simp [zeroValue,typeInfo,hi,hz]
theorem wIR {d:TypeDesc} (hu:P.underlying t=some d) (w:World):(isAgg t).run P w=.ok (aggD d) w:=by
 simp only [isAgg,Sem.run_bind,wBY hu,Result.andThen_ok]
 cases d <;> rfl
def wQq (P:Program) (t:TypeId) (b:Bool):Bool:=wFp P t fun d=>aggD d == b
theorem wGB {b:Bool} (hc:wQq P t b=true) (w:World):(isAgg t).run P w=.ok b w:=by
 obtain ⟨d,h1,h2⟩:=wBL hc
 rw [wIR h1,eq_of_beq h2]
def OkP (P:Program) (op:Op) (f:Tr AV->AH->Option (AV × AH)):Prop :=
 ∀ σA h v h',f σA h=some (v,h')->h'=h/\∀ μ σ,EnvR μ σA σ->∃ cv,Rv μ v cv/\∀ (o:Oper) (w:World),o.op=op->Runs P σ w o cv w
def c_mv (x:AOd):Op->Bool
 | .move y | .assign y=>wCl x y
 | _=>false
theorem p_mv {x:AOd} {op:Op} (hc:c_mv x op=true):OkP P op (o_mv x):=by
 intro σA h v h' hr
 cases hr
 refine ⟨rfl,fun μ σ hE=>?_⟩
 unfold c_mv at hc
 split at hc
 ·exact ⟨_,wAW hc hE,fun o w ho=>Runs.mv ho rfl⟩
 ·exact ⟨_,wAW hc hE,fun o w ho=>Runs.as ho rfl⟩
 ·cases hc
def wOw (c x y:AOd):Op->Bool
 | .pick c' x' y'=>wCl c c' && (wCl x x' && wCl y y')
 | _=>false
theorem wVI {c x y:AOd} {op:Op} (hc:wOw c x y op=true):OkP P op (wKn c x y):=by
 intro σA h v h' hr
 unfold wOw at hc
 split at hc
 ·rename_i c' x' y'
  simp only [nA] at hc
  unfold wKn at hr
  split at hr
  ·rename_i hb;cases hr
   exact ⟨rfl,fun μ σ hE=>⟨_,wAW hc.2.1 hE,fun o w ho=>Runs.pickT ho (by have:=wAW hc.1 hE;rw [hb] at this;exact this) rfl⟩⟩
  ·rename_i hb;cases hr
   exact ⟨rfl,fun μ σ hE=>⟨_,wAW hc.2.2 hE,fun o w ho=>Runs.pickF ho (by have:=wAW hc.1 hE;rw [hb] at this;exact this) rfl⟩⟩
  ·cases hr
 ·cases hc
def wOx (x:AOd):Op->Bool
 | .nilCheck y=>wCl x y
 | _=>false
theorem wVJ {x:AOd} {op:Op} (hc:wOx x op=true):OkP P op (wKo x):=by
 intro σA h v h' hr
 unfold wOx at hc
 split at hc
 ·unfold wKo at hr
  split at hr
  ·rename_i hb;cases hr
   refine ⟨rfl,fun μ σ hE=>?_⟩
   have:=wAW hc hE;rw [hb] at this
   refine ⟨_,this,fun o w ho=>?_⟩
   obtain ⟨c,h1,h2⟩:=this
   rw [h2];exact Runs.nilp ho h2
  ·rename_i hb;cases hr
   refine ⟨rfl,fun μ σ hE=>?_⟩
   have:=wAW hc hE;rw [hb] at this
   refine ⟨_,this,fun o w ho=>?_⟩
   obtain ⟨fv,cv,_,_,h2⟩:=this
   rw [h2];exact Runs.nilf ho h2
  ·rename_i hb;cases hr
   refine ⟨rfl,fun μ σ hE=>?_⟩
   have:=wAW hc hE;rw [hb] at this
   refine ⟨_,this,fun o w ho=>?_⟩
   obtain ⟨c,h1,h2⟩:=this
   rw [h2];exact Runs.nily ho h2
  ·cases hr
 ·cases hc
theorem wJw {k:IntKind} {n:Int} (hk:inK k n=true):k.wrap n=n:=by
 unfold inK at hk
 split at hk <;> (try simp only [nP] at hk) <;> (try simp only [IntKind.wrap_i64,IntKind.wrap_u8,IntKind.wrap_u32,Go.IntKind.wrap_u64,kC,ng]) <;> first | omega | cases hk
theorem wBz {x:Option AV} {v:AV} (hr:okV h x=some (v,h')):x=some v/\h'=h:=by
 cases x <;> cases hr;exact ⟨rfl,rfl⟩
theorem wCA {α:Type} {b:Bool} {x:Option α} {v:α} (hr:ifO b x=some v):b=true/\x=some v:=by
 cases b
 ·cases hr
 ·exact ⟨rfl,hr⟩
theorem wJV {f:Int->Int->Int} {x y v:AV} (hr:wLl f x y=some v):∃ k a b,x=.int k a/\y=.int k b/\v=.int k (f a b)/\k.wrap (f a b)=f a b:=by
 unfold wLl at hr
 split at hr
 ·rename_i k a k' b
  split at hr
  ·rename_i hk
   split at hr
   ·rename_i hi;cases hr;exact ⟨k,a,b,rfl,by rw [wBw hk],rfl,wJw hi⟩
   ·cases hr
  ·cases hr
 ·cases hr
theorem wQr {f:Int->Int->Int} {x y v:AV} (hr:div f x y=some v):∃ k a b,x=.int k a/\y=.int k b/\v=.int k (f a b)/\k.wrap (f a b)=f a b/\b ≠ 0:=by
 unfold div at hr
 split at hr
 ·rename_i k a k' b
  split at hr
  ·rename_i hk
   split at hr
   ·cases hr
   ·rename_i hz
    split at hr
    ·rename_i hi;cases hr
     exact ⟨k,a,b,rfl,by rw [wBw hk],rfl,wJw hi,fun e=>by rw [wKt.2 e] at hz;cases hz⟩
    ·cases hr
  ·cases hr
 ·cases hr
theorem wOy {f:Int->Int->Bool} {x y v:AV} (hr:wQg f x y=some v):∃ k a b,x=.int k a/\y=.int k b/\v=.bool (f a b):=by
 unfold wQg at hr
 split at hr
 ·rename_i k a k' b
  split at hr
  ·rename_i hk;cases hr;exact ⟨k,a,b,rfl,by rw [wBw hk],rfl⟩
  ·cases hr
 ·cases hr
def wDm (b:BinOp) (x y:AOd):Op->Bool
 | .binOp b' _ x' y' _=>(b' == b) && (wCl x x' && wCl y y')
 | _=>false
theorem wHI {b:BinOp} {x y:AOd} {op:Op} (hc:wDm b x y op=true):∃ t x' y' t',op=.binOp b t x' y' t'/\wCl x x'=true/\wCl y y'=true:=by
 unfold wDm at hc
 split at hc
 ·rename_i b' t x' y' t'
  simp only [nA,beq_iff_eq] at hc
  obtain ⟨rfl,h1,h2⟩:=hc
  exact ⟨t,x',y',t',rfl,h1,h2⟩
 ·cases hc
theorem wLs {b:BinOp} {f:Int->Int->Int} {x y:AOd} {op:Op} (hc:wDm b x y op=true)
  (hrun:∀ (o:Oper) (σ:Env) (w:World) t x' y' t' k m n,o.op=.binOp b t x' y' t'->ev σ x'=.int k m->ev σ y'=.int k n->Runs P σ w o (.int k (k.wrap (f m n))) w) :
  OkP P op (fun σ h=>okV h (wLl f (evA σ x) (evA σ y))):=by
 intro σA h v h' hr
 obtain ⟨t,x',y',t',rfl,h1,h2⟩:=wHI hc
 obtain ⟨hr2,rfl⟩:=wBz hr
 obtain ⟨k,m,n,e1,e2,rfl,e3⟩:=wJV hr2
 refine ⟨rfl,fun μ σ hE=>⟨_,rfl,fun o w ho=>?_⟩⟩
 have g1:=wAW h1 hE;rw [e1] at g1
 have g2:=wAW h2 hE;rw [e2] at g2
 have:=hrun o σ w t x' y' t' k m n ho g1 g2
 rwa [e3] at this
theorem p_add {x y:AOd} {op:Op} (hc:wDm .add x y op=true):OkP P op (wSc x y) :=
 wLs hc fun o σ w t x' y' t' k m n ho h1 h2=>⟨by rw [ho];rfl,by simp [execOp,ho,h1,h2,binOp,eqGuard,Op.intArith]⟩
theorem p_sub {x y:AOd} {op:Op} (hc:wDm .sub x y op=true):OkP P op (wSd x y) :=
 wLs hc fun o σ w t x' y' t' k m n ho h1 h2=>⟨by rw [ho];rfl,by simp [execOp,ho,h1,h2,binOp,eqGuard,Op.intArith];rfl⟩
theorem p_mul {x y:AOd} {op:Op} (hc:wDm .mul x y op=true):OkP P op (wSe x y) :=
 wLs hc fun o σ w t x' y' t' k m n ho h1 h2=>⟨by rw [ho];rfl,by simp [execOp,ho,h1,h2,binOp,eqGuard,Op.intArith]⟩
theorem wVK {b:BinOp} {f:Int->Int->Int} {x y:AOd} {op:Op} (hc:wDm b x y op=true)
  (hrun:∀ (o:Oper) (σ:Env) (w:World) t x' y' t' k m n,o.op=.binOp b t x' y' t'->ev σ x'=.int k m->ev σ y'=.int k n->n ≠ 0->k.wrap (f m n)=f m n->Runs P σ w o (.int k (f m n)) w) :
  OkP P op (fun σ h=>okV h (div f (evA σ x) (evA σ y))):=by
 intro σA h v h' hr
 obtain ⟨t,x',y',t',rfl,h1,h2⟩:=wHI hc
 obtain ⟨hr2,rfl⟩:=wBz hr
 obtain ⟨k,m,n,e1,e2,rfl,e3,e4⟩:=wQr hr2
 refine ⟨rfl,fun μ σ hE=>⟨_,rfl,fun o w ho=>?_⟩⟩
 have g1:=wAW h1 hE;rw [e1] at g1
 have g2:=wAW h2 hE;rw [e2] at g2
 exact hrun o σ w t x' y' t' k m n ho g1 g2 e4 e3
theorem p_quo {x y:AOd} {op:Op} (hc:wDm .quo x y op=true):OkP P op (wSf x y) :=
 wVK hc fun o σ w t x' y' t' k m n ho h1 h2 h3 h4=>⟨by rw [ho];rfl,by simp [execOp,ho,h1,h2,binOp,eqGuard,Op.intDiv,h3,h4]⟩
theorem p_rem {x y:AOd} {op:Op} (hc:wDm .rem x y op=true):OkP P op (wSg x y) :=
 wVK hc fun o σ w t x' y' t' k m n ho h1 h2 h3 h4=>⟨by rw [ho];rfl,by simp [execOp,ho,h1,h2,binOp,eqGuard,Op.intDiv,h3]⟩
theorem wNW {b:BinOp} {f:Int->Int->Bool} {x y:AOd} {op:Op} (hc:wDm b x y op=true)
  (hrun:∀ (o:Oper) (σ:Env) (w:World) t x' y' t' k m n,o.op=.binOp b t x' y' t'->ev σ x'=.int k m->ev σ y'=.int k n->Runs P σ w o (.bool (f m n)) w) :
  OkP P op (fun σ h=>okV h (wQg f (evA σ x) (evA σ y))):=by
 intro σA h v h' hr
 obtain ⟨t,x',y',t',rfl,h1,h2⟩:=wHI hc
 obtain ⟨hr2,rfl⟩:=wBz hr
 obtain ⟨k,m,n,e1,e2,rfl⟩:=wOy hr2
 refine ⟨rfl,fun μ σ hE=>⟨_,rfl,fun o w ho=>?_⟩⟩
 have g1:=wAW h1 hE;rw [e1] at g1
 have g2:=wAW h2 hE;rw [e2] at g2
 exact hrun o σ w t x' y' t' k m n ho g1 g2
theorem p_lss {x y:AOd} {op:Op} (hc:wDm .lss x y op=true):OkP P op (wSh x y) :=
 wNW hc fun o σ w t x' y' t' k m n ho h1 h2=>(Runs.lss ho h1 h2).to (by rw [wIO])
theorem p_leq {x y:AOd} {op:Op} (hc:wDm .leq x y op=true):OkP P op (wSi x y) :=
 wNW hc fun o σ w t x' y' t' k m n ho h1 h2=>(Runs.leq ho h1 h2).to (by rw [wOu])
theorem p_gtr {x y:AOd} {op:Op} (hc:wDm .gtr x y op=true):OkP P op (wSj x y) :=
 wNW hc fun o σ w t x' y' t' k m n ho h1 h2=>(Runs.gtr ho h1 h2).to (by rw [wIO])
theorem p_geq {x y:AOd} {op:Op} (hc:wDm .geq x y op=true):OkP P op (wSk x y) :=
 wNW hc fun o σ w t x' y' t' k m n ho h1 h2=>(Runs.geq ho h1 h2).to (by rw [wOu])
theorem p_eql {x y:AOd} {op:Op} (hc:wDm .eql x y op=true):OkP P op (wSl x y) :=
 wNW hc fun o σ w t x' y' t' k m n ho h1 h2=>(Runs.eql ho h1 h2).to (by rw [wFj])
theorem p_neq {x y:AOd} {op:Op} (hc:wDm .neq x y op=true):OkP P op (wSm x y) :=
 wNW hc fun o σ w t x' y' t' k m n ho h1 h2=>(Runs.neq ho h1 h2).to (by rw [wFj];simp)
def wSy (x:AOd):Op->Bool
 | .unOp .neg _ y=>wCl x y
 | _=>false
theorem p_neg {x:AOd} {op:Op} (hc:wSy x op=true):OkP P op (wSn x):=by
 intro σA h v h' hr
 unfold wSy at hc
 split at hc
 ·obtain ⟨hr2,rfl⟩:=wBz hr
  obtain ⟨k,m,n,e1,e2,rfl,e3⟩:=wJV hr2
  rw [e2] at e1
  simp only at e1
  cases e1
  refine ⟨rfl,fun μ σ hE=>⟨_,rfl,fun o w ho=>?_⟩⟩
  have g2:=wAW hc hE;rw [e2] at g2
  refine ⟨by rw [ho];rfl,?_⟩
  have:ev σ _=.int k n:=g2
  simp only [execOp,ho,this,Op.unary,Op.intArith,Sem.run_bind,Sem.run_pure,Result.andThen_ok]
  rw [show (0:Int) - n=Int.sub 0 n from rfl,e3]
 ·cases hc
def wSz (x:AOd):Op->Bool
 | .unOp .not _ y=>wCl x y
 | _=>false
theorem p_not {x:AOd} {op:Op} (hc:wSz x op=true):OkP P op (wOf x):=by
 intro σA h v h' hr
 unfold wSz at hc
 split at hc
 ·unfold wOf at hr
  split at hr
  ·rename_i hb;cases hr
   refine ⟨rfl,fun μ σ hE=>⟨_,rfl,fun o w ho=>?_⟩⟩
   have g:=wAW hc hE;rw [hb] at g
   exact Runs.not ho g
  ·cases hr
 ·cases hc
def wOz:TypeDesc->Option IntKind
 | .int k=>some k
 | _=>none
def wTA (k:IntKind) (x:AOd):Op->Bool
 | .convert s t y=>wFp P s (fun d=>(wOz d).isSome) && (wFp P t (fun d=>match wOz d with | some k'=>keq k k' | none=>false) && wCl x y)
 | _=>false
theorem p_cvt {k:IntKind} {x:AOd} {op:Op} (hc:wTA (P:=P) k x op=true):OkP P op (wOg k x):=by
 intro σA h v h' hr
 unfold wTA at hc
 split at hc
 ·simp only [nA] at hc
  obtain ⟨c1,c2,c3⟩:=hc
  unfold wOg at hr
  split at hr
  ·rename_i k0 n hb
   obtain ⟨hi,hr⟩:=wCA hr
   cases hr
   refine ⟨rfl,fun μ σ hE=>⟨_,rfl,fun o w ho=>?_⟩⟩
   have g:=wAW c3 hE;rw [hb] at g
   obtain ⟨d,d1,d2⟩:=wBL c1
   obtain ⟨e,e1,e2⟩:=wBL c2
   cases d <;> first | (cases d2;done) | skip
   cases e <;> first | (cases e2;done) | skip
   have:=wBw e2
   subst this
   have g':ev σ _=.int k0 n:=g
   exact ⟨by rw [ho];rfl,by simp [execOp,ho,g',convert,wBY d1,wBY e1,Conv.intToInt,wJw hi]⟩
  ·cases hr
 ·cases hc
def wTB (f:Pos) (fi ca:List AOd):Op->Bool
 | .makeFunc (.func g) fi' ca'=>nD f.nat (g + 1) && (wKu fi fi'.toList && wKu ca ca'.toList)
 | _=>false
theorem p_mkf {f:Pos} {fi ca:List AOd} {op:Op} (hc:wTB f fi ca op=true):OkP P op (wNS f fi ca):=by
 intro σA h v h' hr
 cases hr
 unfold wTB at hc
 split at hc
 ·simp only [nA] at hc
  obtain ⟨c1,c2,c3⟩:=hc
  refine ⟨rfl,fun μ σ hE=>⟨_,⟨_,_,wHw c2 hE,wHw c3 hE,rfl⟩,fun o w ho=>?_⟩⟩
  have e:=nB c1
  refine ⟨by rw [ho];rfl,?_⟩
  simp [execOp,ho,Instr.makeFunc,e,<- kR]
 ·cases hc
def wTC (i:Nat) (x:AOd):Op->Bool
 | .extract y j=>nD i j && wCl x y
 | _=>false
theorem p_ext {i:Nat} {x:AOd} {op:Op} (hc:wTC i x op=true):OkP P op (wOm i x):=by
 intro σA h v h' hr
 unfold wTC at hc
 split at hc
 ·simp only [nA] at hc
  have e:=nB hc.1
  subst e
  unfold wOm at hr
  split at hr
  ·rename_i l hb
   obtain ⟨hr2,rfl⟩:=wBz hr
   refine ⟨rfl,fun μ σ hE=>?_⟩
   have g:=wAW hc.2 hE;rw [hb] at g
   obtain ⟨vs,g1,g2⟩:=g
   rw [wHp] at hr2
   obtain ⟨cv,g3,g4⟩:=wGh g1 hr2
   exact ⟨cv,g4,fun o w ho=>Runs.ext ho g2 (by simpa using g3)⟩
  ·cases hr
 ·cases hc
end
end
noncomputable section
open Go.RowKit Go.KL
section
variable {C:Chk} {P:Program} {μ μ':Mu} {w w':World} {h h':AH} {σ:Env} {σA:Tr AV} {t e:TypeId} {o:Oper}
def wTD (P:Program) (ne:Bool) (x y:AOd):Op->Bool
 | .binOp b t x' y' _=>(match ne with | true=>b == .neq | false=>b == .eql) && (wFp P t (fun d=>match d with | .bool=>true | _=>false) && (wCl x x' && wCl y y'))
 | _=>false
theorem wJW (ne b:Bool):(ne != b)=(match ne with | true=>!b | false=>b):=by cases ne <;> cases b <;> rfl
theorem p_eqb {ne:Bool} {x y:AOd} {op:Op} (hc:wTD P ne x y op=true):OkP P op (wOc ne x y):=by
 intro σA h v h' hr
 unfold wTD at hc
 split at hc
 ·simp only [nA] at hc
  obtain ⟨c0,c1,c2,c3⟩:=hc
  unfold wOc at hr
  split at hr
  ·rename_i a b e1 e2
   cases hr
   refine ⟨rfl,fun μ σ hE=>⟨_,rfl,fun o w ho=>?_⟩⟩
   have g1:=wAW c2 hE;rw [e1] at g1
   have g2:=wAW c3 hE;rw [e2] at g2
   obtain ⟨d,d1,d2⟩:=wBL c1
   cases d <;> first | (cases d2;done) | skip
   cases ne
   ·have:=eq_of_beq c0;subst this
    exact (Runs.eqB ho g1 g2 (wBY d1)).to (by rw [wJW])
   ·have:=eq_of_beq c0;subst this
    exact (Runs.neB ho g1 g2 (wBY d1)).to (by rw [wJW])
  ·cases hr
 ·cases hc
def nilD (k:Nat) (d:TypeDesc):Bool:=match k,d with
 | 0,.pointer _=>true
 | 1,.slice _=>true
 | 2,.map _ _=>true
 | 3,.func _ _ _=>true
 | _,_=>false
theorem wPA {k:Nat} {d:TypeDesc} {a b:AV} {r:Bool} {x y:Value} (hu:P.underlying t=some d) (hd:nilD k d=true) (hr:wNP k a b=some r) (hx:Rv μ a x) (hy:Rv μ b y) (w:World):(Op.equal t x y).run P w=.ok r w:=by
 unfold Op.equal Op.maxDepth
 rw [show (10000:Nat)=9999 + 1 from rfl,Op.equalIn]
 unfold wNP at hr
 split at hr <;> cases hr <;> simp only [Rv] at hx hy <;> (cases d <;> first | (cases hd;done) | skip) <;>
  (try obtain ⟨_,_,_,_,_,rfl⟩:=hx) <;> (try obtain ⟨_,_,_,_,rfl⟩:=hx) <;> (try obtain ⟨_,_,_,rfl⟩:=hx) <;> (try obtain ⟨_,_,rfl⟩:=hx) <;> (try subst hx) <;>
  (try obtain ⟨_,_,_,_,_,rfl⟩:=hy) <;> (try obtain ⟨_,_,_,_,rfl⟩:=hy) <;> (try obtain ⟨_,_,_,rfl⟩:=hy) <;> (try obtain ⟨_,_,rfl⟩:=hy) <;> (try subst hy) <;>
  simp only [Sem.run_bind,wBY hu,Result.andThen_ok,Sem.run_pure] <;> rfl
theorem wLt {k:Nat} {a b:AV} {r:Bool} {x y:Value} (hr:wNP k a b=some r) (hx:Rv μ a x) (hy:Rv μ b y) (op:BinOp) (p q:Operand) (w:World):(eqGuard op t p q x y).run P w=.ok () w:=by
 unfold wNP at hr
 split at hr <;> cases hr <;> simp only [Rv] at hx hy <;>
  (try obtain ⟨_,_,_,_,_,rfl⟩:=hx) <;> (try obtain ⟨_,_,_,_,rfl⟩:=hx) <;> (try obtain ⟨_,_,_,rfl⟩:=hx) <;> (try obtain ⟨_,_,rfl⟩:=hx) <;> (try subst hx) <;>
  (try obtain ⟨_,_,_,_,_,rfl⟩:=hy) <;> (try obtain ⟨_,_,_,_,rfl⟩:=hy) <;> (try obtain ⟨_,_,_,rfl⟩:=hy) <;> (try obtain ⟨_,_,rfl⟩:=hy) <;> (try subst hy) <;>
  simp only [eqGuard] <;> (cases op <;> rfl)
def wTE (P:Program) (k:Nat) (ne:Bool) (x y:AOd):Op->Bool
 | .binOp b t x' y' _=>(match ne with | true=>b == .neq | false=>b == .eql) && (wFp P t (nilD k) && (wCl x x' && wCl y y'))
 | _=>false
theorem p_eqn {k:Nat} {ne:Bool} {x y:AOd} {op:Op} (hc:wTE P k ne x y op=true):OkP P op (wOd k ne x y):=by
 intro σA h v h' hr
 unfold wTE at hc
 split at hc
 ·rename_i b t x' y' t'
  simp only [nA] at hc
  obtain ⟨c0,c1,c2,c3⟩:=hc
  unfold wOd at hr
  split at hr
  ·rename_i r e1
   cases hr
   refine ⟨rfl,fun μ σ hE=>⟨_,rfl,fun o w ho=>?_⟩⟩
   have g1:=wAW c2 hE
   have g2:=wAW c3 hE
   obtain ⟨d,d1,d2⟩:=wBL c1
   have g3:=wPA d1 d2 e1 g1 g2
   have g4:=fun op=>wLt (P:=P) (t:=t) e1 g1 g2 op x' y'
   refine ⟨by rw [ho];rfl,?_⟩
   generalize hX:ev σ x'=X at g1 g3 g4
   generalize hY:ev σ y'=Y at g2 g3 g4
   have nint:(∀ k n,X ≠ .int k n)/\(∀ k n,X ≠ .float k n)/\(∀ k n m,X ≠ .complex k n m)/\(∀ s,X ≠ .string s):=by
    unfold wNP at e1
    split at e1 <;> cases e1 <;> rename_i e2 e3 <;> rw [e2] at g1 <;> simp only [Rv] at g1 <;>
     (try obtain ⟨_,_,_,_,_,rfl⟩:=g1) <;> (try obtain ⟨_,_,_,_,rfl⟩:=g1) <;> (try obtain ⟨_,_,_,rfl⟩:=g1) <;> (try obtain ⟨_,_,rfl⟩:=g1) <;> (try subst g1) <;>
     exact ⟨by simp,by simp,by simp,by simp⟩
   obtain ⟨n1,n2,n3,n4⟩:=nint
   cases ne
   ·have:=eq_of_beq c0;subst this
    simp only [execOp,ho,Sem.run_bind,hX,hY,g4 .eql w,Result.andThen_ok]
    have:(binOp .eql t X Y).run P w=.ok (.bool r) w:=by
     cases X <;> first | exact absurd rfl (n1 _ _) | exact absurd rfl (n2 _ _) | exact absurd rfl (n3 _ _ _) | exact absurd rfl (n4 _) | (simp only [binOp,Sem.run_bind,g3 w,Result.andThen_ok];rfl)
    rw [this]
    simp [wJW]
   ·have:=eq_of_beq c0;subst this
    simp only [execOp,ho,Sem.run_bind,hX,hY,g4 .neq w,Result.andThen_ok]
    have:(binOp .neq t X Y).run P w=.ok (.bool (!r)) w:=by
     cases X <;> first | exact absurd rfl (n1 _ _) | exact absurd rfl (n2 _ _) | exact absurd rfl (n3 _ _ _) | exact absurd rfl (n4 _) | (simp only [binOp,Sem.run_bind,g3 w,Result.andThen_ok];rfl)
    rw [this]
    simp [wJW]
  ·cases hr
 ·cases hc
mutual
def Sh.depth:Sh->Nat
 | .int=>1
 | .bool=>1
 | .str fs=>wMh fs + 1
def wMh:List (Nat × Nat × Sh)->Nat
 | []=>0
 | (_,_,s) :: fs=>Nat.max s.depth (wMh fs)
end
mutual
def wLu (P:Program):Sh->TypeId->Bool
 | .int,t=>wFp P t fun d=>(wOz d).isSome
 | .bool,t=>wFp P t fun d=>match d with | .bool=>true | _=>false
 | .str fs,t=>(!P.stoodInHeld t) && wFp P t fun d=>match d with | .struct gs=>wNX P fs gs.toList | _=>false
def wNX (P:Program):List (Nat × Nat × Sh)->List Field->Bool
 | [],[]=>true
 | (off, sz, s) :: fs, g :: gs => (g.name != "_") && (nD g.offset off && (szT P g.type sz && (wLu P s g.type && wNX P fs gs)))
 | _,_=>false
end
theorem wPB {s:Sh} (hc:wLu P s t=true) (w:World):(isAgg t).run P w=.ok (match s with | .str _=>true | _=>false) w:=by
 cases s with
 | int =>
  obtain ⟨d,h1,h2⟩:=wBL hc
  rw [wIR h1];cases d <;> first | rfl | cases h2
 | bool =>
  obtain ⟨d,h1,h2⟩:=wBL hc
  rw [wIR h1];cases d <;> first | rfl | cases h2
 | str fs =>
  simp only [wLu,nA] at hc
  obtain ⟨d,h1,h2⟩:=wBL hc.2
  rw [wIR h1];cases d <;> first | rfl | cases h2
theorem wKv {s:Sh} {l:List AV} {vs:List Value} {off sz:Nat} {a:AV} (hc:wLu P s t=true) (hz:szT P t sz=true) (hp:wQh s l off sz=some a) (hl:RvL μ l vs):∃ v,Rv μ a v/\∀ w,(part t vs.toArray off).run P w=.ok v w:=by
 have hag:=wPB hc
 unfold wQh at hp
 split at hp
 ·split at hp
  ·rename_i r hs
   cases hp
   obtain ⟨h1,h2⟩:=wGi hs hl
   exact ⟨_,⟨_,h1,rfl⟩,fun w=>wDh hag (wFQ hz) rfl⟩
  ·cases hp
 ·rename_i hne
  rw [wHp] at hp
  obtain ⟨v,h1,h2⟩:=wGh hl hp
  refine ⟨v,h2,fun w=>wFx (fun w=>?_) h1⟩
  rw [hag w]
  cases s <;> first | rfl | exact absurd rfl (hne _)
mutual
theorem wMi:∀ (s:Sh) (t:TypeId) (d:Nat) (a b:AV) (x y:Value) (r:Bool),wLu P s t=true->s.depth <= d->wQi s a b=some r->Rv μ a x->Rv μ b y->∀ w,(Op.equalIn d t x y).run P w=.ok r w
 | .int,t,d,a,b,x,y,r,hc,hd,hr,hx,hy,w=>by
  obtain ⟨d,rfl⟩:∃ e,d=e + 1:=⟨d - 1,by simp only [Sh.depth] at hd;omega⟩
  unfold wQi at hr
  split at hr <;> first | (cases hr;done) | skip
  all_goals (try (rename_i h0;cases h0))
  split at hr <;> cases hr
  rename_i hk
  obtain ⟨dd,d1,d2⟩:=wBL hc
  cases dd <;> first | (cases d2;done) | skip
  simp only [Rv] at hx hy
  subst hx hy
  have:=wBw hk;subst this
  simp [Op.equalIn,wBY d1,wFj,wLX]
 | .bool,t,d,a,b,x,y,r,hc,hd,hr,hx,hy,w=>by
  obtain ⟨d,rfl⟩:∃ e,d=e + 1:=⟨d - 1,by simp only [Sh.depth] at hd;omega⟩
  unfold wQi at hr
  split at hr <;> first | (cases hr;done) | skip
  all_goals (try (rename_i h0;cases h0))
  cases hr
  obtain ⟨dd,d1,d2⟩:=wBL hc
  cases dd <;> first | (cases d2;done) | skip
  simp only [Rv] at hx hy
  subst hx hy
  simp [Op.equalIn,wBY d1]
 | .str fs,t,d,a,b,x,y,r,hc,hd,hr,hx,hy,w=>by
  simp only [Sh.depth] at hd
  obtain ⟨d,rfl⟩:∃ e,d=e + 1:=⟨d - 1,by omega⟩
  unfold wQi at hr
  split at hr <;> first | (cases hr;done) | skip
  all_goals (try (rename_i h0;cases h0))
  simp only [wLu,nA,kJ] at hc
  obtain ⟨dd,d1,d2⟩:=wBL hc.2
  cases dd <;> first | (cases d2;done) | skip
  rename_i gs
  obtain ⟨xs,h1,rfl⟩:=hx
  obtain ⟨ys,h2,rfl⟩:=hy
  have hf:P.fieldsOf t=gs:=by unfold Program.fieldsOf;rw [d1]
  rw [run_equalIn_agg w d t _ _ (by rw [hf];exact d1) hc.1,hf]
  exact wMj fs gs.toList d _ _ xs ys r d2 (by omega) hr h1 h2 w
theorem wMj:∀ (fs:List (Nat × Nat × Sh)) (gs:List Field) (d:Nat) (l k:List AV) (xs ys:List Value) (r:Bool),wNX P fs gs=true->wMh fs <= d->wUz fs l k=some r->RvL μ l xs->RvL μ k ys ->
  ∀ w,(Op.eqFields d xs.toArray ys.toArray gs).run P w=.ok r w
 | [],[],d,l,k,xs,ys,r,hc,hd,hr,hx,hy,w=>by
  simp only [wUz] at hr;cases hr;rfl
 | (off,sz,s) :: fs,g :: gs,d,l,k,xs,ys,r,hc,hd,hr,hx,hy,w=>by
  simp only [wNX,nA] at hc
  obtain ⟨c1,c2,c3,c4,c5⟩:=hc
  have e:=nB c2
  subst e
  simp only [wUz] at hr
  split at hr
  ·rename_i a b ha hb
   obtain ⟨u,u1,u2⟩:=wKv c4 c3 ha hx
   obtain ⟨v,v1,v2⟩:=wKv c4 c3 hb hy
   have hne : g.name ≠ "_" := by simpa using c1
   have hd1:s.depth <= d:=kO (Nat.le_max_left _ _) hd
   have hd2:wMh fs <= d:=kO (Nat.le_max_right _ _) hd
   cases hq:wQi s a b with
   | none=>rw [hq] at hr;cases hr
   | some q =>
    have hE:=wMi s g.type d a b u v q c4 hd1 hq u1 v1
    rw [hq] at hr
    cases q with
    | true =>
     simp only at hr
     have hF:=wMj fs gs d l k xs ys r c5 hd2 hr hx hy
     simp [Op.eqFields,hne,u2,v2,hE,hF,Result.andThen]
    | false =>
     simp only [nj] at hr
     subst hr
     simp [Op.eqFields,hne,u2,v2,hE,Result.andThen]
  ·cases hr
 | [],_ :: _,d,l,k,xs,ys,r,hc,hd,hr,hx,hy,w=>by simp [wNX] at hc
 | _ :: _,[],d,l,k,xs,ys,r,hc,hd,hr,hx,hy,w=>by simp [wNX] at hc
end
theorem wQs {fs:List (Nat × Nat × Sh)} {r:Bool}:∀ {a b:AV},wQi (.str fs) a b=some r->∃ l k,a=.agg l/\b=.agg k:=by
 intro a b h
 cases a <;> cases b <;> first | exact ⟨_,_,rfl,rfl⟩ | (simp [wQi] at h;done)
def wTF (P:Program) (ne:Bool) (s:Sh) (x y:AOd):Op->Bool
 | .binOp b t x' y' _=>(match ne with | true=>b == .neq | false=>b == .eql) && (nO s.depth 10000 && (wLu P s t && ((match s with | .str _=>true | _=>false) && ((!P.eqGuardType P.depth t) && (wCl x x' && wCl y y')))))
 | _=>false
theorem p_eqs {ne:Bool} {s:Sh} {x y:AOd} {op:Op} (hc:wTF P ne s x y op=true):OkP P op (wOe ne s x y):=by
 intro σA h v h' hr
 unfold wTF at hc
 split at hc
 ·rename_i b t x' y' t'
  simp only [nA,kJ] at hc
  obtain ⟨c0,c1,c2,c3,c4,c5,c6⟩:=hc
  unfold wOe at hr
  split at hr
  ·rename_i r e1
   cases hr
   refine ⟨rfl,fun μ σ hE=>⟨_,rfl,fun o w ho=>?_⟩⟩
   have g1:=wAW c5 hE
   have g2:=wAW c6 hE
   have g3:∀ w,(Op.equal t (ev σ x') (ev σ y')).run P w=.ok r w:=wMi s t 10000 _ _ _ _ r c2 (Nat.le_of_ble_eq_true c1) e1 g1 g2
   cases s <;> first | (cases c3;done) | skip
   obtain ⟨l,k,h1,h2⟩:=wQs e1
   rw [h1] at g1;rw [h2] at g2
   obtain ⟨xs,_,g1⟩:=g1
   obtain ⟨ys,_,g2⟩:=g2
   rw [g1,g2] at g3
   refine ⟨by rw [ho];rfl,?_⟩
   cases ne
   ·have:=eq_of_beq c0;subst this
    simp [execOp,ho,g1,g2,binOp,eqGuard,c4,g3,wJW]
   ·have:=eq_of_beq c0;subst this
    simp [execOp,ho,g1,g2,binOp,eqGuard,c4,g3,wJW]
  ·cases hr
 ·cases hc
end
end
noncomputable section
open Go.RowKit Go.KL
section
variable {C:Chk} {P:Program} {μ μ':Mu} {w w':World} {h h':AH} {σ:Env} {σA:Tr AV} {t e:TypeId} {o:Oper}
def wTG (P:Program) (off:Nat) (x:AOd):Op->Bool
 | .fieldAddr t y i=>wFp P t (fun d=>match d with
   | .struct fs=>match fs[i]? with
    | some f=>nD f.offset off && (match P.info? f.type with | some j=>nQ 0 j.size | none=>false)
    | none=>false
   | _=>false) && wCl x y
 | _=>false
theorem p_fad {off:Nat} {x:AOd} {op:Op} (hc:wTG P off x op=true):OkP P op (wOi off x):=by
 intro σA h v h' hr
 unfold wTG at hc
 split at hc
 ·rename_i t y i
  simp only [nA] at hc
  obtain ⟨c1,c2⟩:=hc
  unfold wOi at hr
  split at hr
  ·rename_i b oo hb
   cases hr
   refine ⟨rfl,fun μ σ hE=>?_⟩
   have g:=wAW c2 hE;rw [hb] at g
   obtain ⟨c,g1,g2⟩:=g
   refine ⟨_,⟨c,g1,rfl⟩,fun o w ho=>?_⟩
   obtain ⟨d,d1,d2⟩:=wBL c1
   split at d2
   ·rename_i fs
    split at d2
    ·rename_i f hf
     simp only [nA] at d2
     have e:=nB d2.1
     subst e
     have d3:=d2.2
     split at d3
     ·rename_i j hj
      have hpos:0 < j.size:=by simpa [nP] using d3
      obtain ⟨n,hn⟩:∃ n,j.size=n + 1:=⟨j.size - 1,by omega⟩
      exact Runs.fa (n:=n) ho g2 (wBY d1) hf (fun w=>by rw [<- hn];simp [sizeOf,typeInfo,hj])
     ·cases d3
    ·cases d2
   ·cases d2
  ·cases hr
 ·cases hc
def wTH (P:Program) (off:Nat) (x:AOd):Op->Bool
 | .field t y i=>wFp P t (fun d=>match d with
   | .struct fs=>match fs[i]? with
    | some f=>nD f.offset off && wQq P f.type false
    | none=>false
   | _=>false) && wCl x y
 | _=>false
def wPC (P:Program) (off n:Nat) (x:AOd):Op->Bool
 | .field t y i=>wFp P t (fun d=>match d with
   | .struct fs=>match fs[i]? with
    | some f=>nD f.offset off && (wQq P f.type true && szT P f.type n)
    | none=>false
   | _=>false) && wCl x y
 | _=>false
theorem p_fld {off:Nat} {x:AOd} {op:Op} (hc:wTH P off x op=true):OkP P op (wOj off x):=by
 intro σA h v h' hr
 unfold wTH at hc
 split at hc
 ·rename_i t y i
  simp only [nA] at hc
  obtain ⟨c1,c2⟩:=hc
  unfold wOj at hr
  split at hr
  ·rename_i l hb
   obtain ⟨hr2,rfl⟩:=wBz hr
   refine ⟨rfl,fun μ σ hE=>?_⟩
   have g:=wAW c2 hE;rw [hb] at g
   obtain ⟨vs,g1,g2⟩:=g
   rw [wHp] at hr2
   obtain ⟨cv,g3,g4⟩:=wGh g1 hr2
   refine ⟨cv,g4,fun o w ho=>?_⟩
   obtain ⟨d,d1,d2⟩:=wBL c1
   split at d2
   ·split at d2
    ·rename_i f hf
     simp only [nA] at d2
     have e:=nB d2.1
     subst e
     exact Runs.fld ho g2 (wBY d1) hf (wFx (wGB d2.2) g3)
    ·cases d2
   ·cases d2
  ·cases hr
 ·cases hc
theorem wFH {x:Option (List AV)} {v:AV} (hr:wJT x=some v):∃ l,x=some l/\v=.agg l:=by
 cases x <;> cases hr;exact ⟨_,rfl,rfl⟩
theorem wVL {off n:Nat} {x:AOd} {op:Op} (hc:wPC P off n x op=true):OkP P op (wKp off n x):=by
 intro σA h v h' hr
 unfold wPC at hc
 split at hc
 ·rename_i t y i
  simp only [nA] at hc
  obtain ⟨c1,c2⟩:=hc
  unfold wKp at hr
  split at hr
  ·rename_i l hb
   obtain ⟨hr2,rfl⟩:=wBz hr
   obtain ⟨r,hr3,rfl⟩:=wFH hr2
   refine ⟨rfl,fun μ σ hE=>?_⟩
   have g:=wAW c2 hE;rw [hb] at g
   obtain ⟨vs,g1,g2⟩:=g
   obtain ⟨g3,g4⟩:=wGi hr3 g1
   refine ⟨_,⟨_,g3,rfl⟩,fun o w ho=>?_⟩
   obtain ⟨d,d1,d2⟩:=wBL c1
   split at d2
   ·split at d2
    ·rename_i f hf
     simp only [nA] at d2
     have e:=nB d2.1
     subst e
     exact Runs.fld ho g2 (wBY d1) hf (wDh (wGB d2.2.1) (wFQ d2.2.2) rfl)
    ·cases d2
   ·cases d2
  ·cases hr
 ·cases hc
theorem wDY {a:AV} {n:Nat} (hr:wIJ a=some n):a=.int .i64 n:=by
 unfold wIJ at hr
 split at hr
 ·cases hr;rfl
 ·cases hr
def wTI (P:Program) (sz:Nat) (x y:AOd):Op->Bool
 | .indexAddr t x' y'=>wFp P t (fun d=>match d with
   | .slice e=>szT P e sz
   | _=>false) && (wCl x x' && wCl y y')
 | _=>false
theorem p_iad {sz:Nat} {x y:AOd} {op:Op} (hc:wTI P sz x y op=true):OkP P op (wOk sz x y):=by
 intro σA h v h' hr
 unfold wTI at hc
 split at hc
 ·rename_i t x' y'
  simp only [nA] at hc
  obtain ⟨c1,c2,c3⟩:=hc
  obtain ⟨d,d1,d2⟩:=wBL c1
  split at d2
  ·rename_i e
   unfold wOk at hr
   split at hr
   ·rename_i b off n c i hb hi
    obtain ⟨hlt,hr⟩:=wCA hr
    cases hr
    have hlt:i < n:=by simpa [nP] using hlt
    have hi:=wDY hi
    refine ⟨rfl,fun μ σ hE=>?_⟩
    have g:=wAW c2 hE;rw [hb] at g
    have k:=wAW c3 hE;rw [hi] at k
    obtain ⟨m,g1,g2,g3⟩:=g
    refine ⟨_,⟨m,g1,rfl⟩,fun o w ho=>?_⟩
    have:=Runs.ia (P:=P) (o:=o) (w:=w) (i:=(i:Int)) ho g3 k (wBY d1) (wFQ d2) (by omega) (by omega)
    simpa using this
   ·rename_i b eo co n i hb hi
    obtain ⟨hlt,hr⟩:=wCA hr
    cases hr
    have hlt:i < n:=by simpa [nP] using hlt
    have hi:=wDY hi
    refine ⟨rfl,fun μ σ hE=>?_⟩
    have g:=wAW c2 hE;rw [hb] at g
    have k:=wAW c3 hE;rw [hi] at k
    obtain ⟨m,g1,g2,g3⟩:=g
    refine ⟨_,⟨m,g1,rfl⟩,fun o w ho=>?_⟩
    have:=Runs.ia (P:=P) (o:=o) (w:=w) (i:=(i:Int)) ho g3 k (wBY d1) (wFQ d2) (by omega) (by omega)
    simpa using this
   ·cases hr
  ·cases d2
 ·cases hc
def wPD (P:Program) (sz n:Nat) (x y:AOd):Op->Bool
 | .indexAddr t x' y'=>wFp P t (fun d=>match d with
   | .array m e=>nD m n && szT P e sz
   | _=>false) && (wCl x x' && wCl y y')
 | _=>false
theorem wVM {sz n:Nat} {x y:AOd} {op:Op} (hc:wPD P sz n x y op=true):OkP P op (wKq sz n x y):=by
 intro σA h v h' hr
 unfold wPD at hc
 split at hc
 ·rename_i t x' y'
  simp only [nA] at hc
  obtain ⟨c1,c2,c3⟩:=hc
  obtain ⟨d,d1,d2⟩:=wBL c1
  split at d2
  ·rename_i m e
   simp only [nA] at d2
   have em:=nB d2.1
   subst em
   unfold wKq at hr
   split at hr
   ·rename_i b off i hb hi
    obtain ⟨hlt,hr⟩:=wCA hr
    cases hr
    have hlt:i < m:=by simpa [nP] using hlt
    have hi:=wDY hi
    refine ⟨rfl,fun μ σ hE=>?_⟩
    have g:=wAW c2 hE;rw [hb] at g
    have k:=wAW c3 hE;rw [hi] at k
    obtain ⟨q,g1,g3⟩:=g
    refine ⟨_,⟨q,g1,rfl⟩,fun o w ho=>?_⟩
    have:=Runs.iaA (P:=P) (o:=o) (w:=w) (i:=(i:Int)) ho g3 k (wBY d1) (wFQ d2.2) (by omega) (by omega)
    simpa using this
   ·cases hr
  ·cases d2
 ·cases hc
def c_ix (P:Program) (n:Nat) (x y:AOd):Op->Bool
 | .index t x' y'=>wFp P t (fun d=>match d with
   | .array m e=>nD m n && (szT P e 1 && wQq P e false)
   | _=>false) && (wCl x x' && wCl y y')
 | _=>false
theorem p_ix {n:Nat} {x y:AOd} {op:Op} (hc:c_ix P n x y op=true):OkP P op (wVD n x y):=by
 intro σA h v h' hr
 unfold c_ix at hc
 split at hc
 ·rename_i t x' y'
  simp only [nA] at hc
  obtain ⟨c1,c2,c3⟩:=hc
  obtain ⟨d,d1,d2⟩:=wBL c1
  split at d2
  ·rename_i m e
   simp only [nA] at d2
   have em:=nB d2.1
   subst em
   unfold wVD at hr
   split at hr
   ·rename_i l i hb hi
    obtain ⟨hlt,hr⟩:=wCA hr
    obtain ⟨hr2,rfl⟩:=wBz hr
    have hlt:i < m:=by simpa [nP] using hlt
    have hi:=wDY hi
    refine ⟨rfl,fun μ σ hE=>?_⟩
    have g:=wAW c2 hE;rw [hb] at g
    have k:=wAW c3 hE;rw [hi] at k
    obtain ⟨vs,g1,g2⟩:=g
    rw [wHp] at hr2
    obtain ⟨cv,g3,g4⟩:=wGh g1 hr2
    refine ⟨cv,g4,fun o w ho=>?_⟩
    exact Runs.ixA (P:=P) (o:=o) (w:=w) (i:=(i:Int)) ho g2 k (wBY d1) (wFQ d2.2.1) (by omega) (by omega) (wFx (wGB d2.2.2) (by simpa using g3))
   ·cases hr
  ·cases d2
 ·cases hc
def wTJ (P:Program) (sz n:Nat) (x y:AOd):Op->Bool
 | .index t x' y'=>wFp P t (fun d=>match d with
   | .array m e=>nD m n && (szT P e sz && wQq P e true)
   | _=>false) && (wCl x x' && wCl y y')
 | _=>false
theorem p_ixA {sz n:Nat} {x y:AOd} {op:Op} (hc:wTJ P sz n x y op=true):OkP P op (wOl sz n x y):=by
 intro σA h v h' hr
 unfold wTJ at hc
 split at hc
 ·rename_i t x' y'
  simp only [nA] at hc
  obtain ⟨c1,c2,c3⟩:=hc
  obtain ⟨d,d1,d2⟩:=wBL c1
  split at d2
  ·rename_i m e
   simp only [nA] at d2
   have em:=nB d2.1
   subst em
   unfold wOl at hr
   split at hr
   ·rename_i l i hb hi
    obtain ⟨hlt,hr⟩:=wCA hr
    obtain ⟨hr2,rfl⟩:=wBz hr
    obtain ⟨r,hr3,rfl⟩:=wFH hr2
    have hlt:i < m:=by simpa [nP] using hlt
    have hi:=wDY hi
    refine ⟨rfl,fun μ σ hE=>?_⟩
    have g:=wAW c2 hE;rw [hb] at g
    have k:=wAW c3 hE;rw [hi] at k
    obtain ⟨vs,g1,g2⟩:=g
    obtain ⟨g3,g4⟩:=wGi hr3 g1
    refine ⟨_,⟨_,g3,rfl⟩,fun o w ho=>?_⟩
    exact Runs.ixA (P:=P) (o:=o) (w:=w) (i:=(i:Int)) ho g2 k (wBY d1) (wFQ d2.2.1) (by omega) (by omega) (wDh (wGB d2.2.2) (wFQ d2.2.1) (by simp))
   ·cases hr
  ·cases d2
 ·cases hc
def wRs:Option AOd->Option Operand->Bool
 | none,none=>true
 | some x,some y=>wCl x y
 | _,_=>false
theorem wPE {x:Option AOd} {y:Option Operand} {r:Option Nat} (hr:bnd σA x=some r) (hc:wRs x y=true) (hE:EnvR μ σA σ):(r=none/\y=none) \/ ∃ n z,r=some n/\y=some z/\ev σ z=.int .i64 n:=by
 cases x with
 | none =>
  cases y with
  | none=>cases hr;exact .inl ⟨rfl,rfl⟩
  | some _=>cases hc
 | some x =>
  cases y with
  | none=>cases hc
  | some y =>
   simp only [bnd] at hr
   split at hr
   ·rename_i n hn
    cases hr
    have:=wAW (show wCl x y=true from hc) hE
    rw [wDY hn] at this
    exact .inr ⟨n,y,rfl,rfl,this⟩
   ·cases hr
def vI (n:Nat):Value:=.int .i64 (n:Int)
theorem wIS {P:Program} {n y:Nat} {code:BoundsCode} (hle:n <= y) (w:World):(Instr.sliceBound (vI n) y code).run P w=.ok n w:=by
 have h1:(n:Int) <= y:=by omega
 simp [Instr.sliceBound,vI,asIntOf,h1]
theorem wGM {P:Program} {s:Bool} {len cap:Nat} {lo hi mx:Option Nat} {l hh m:Nat} (hm:m=mx.getD cap) (hh':hh=hi.getD len) (hl:l=lo.getD 0) (h1:l <= hh) (h2:hh <= m) (h3:m <= cap) (hmh:mx.isSome=true->hi.isSome=true) (w:World) :
  (Instr.sliceBounds s len cap (lo.map vI) (hi.map vI) (mx.map vI)).run P w=.ok (l,hh,m) w:=by
 subst hm hh' hl
 unfold Instr.sliceBounds
 cases mx <;> cases hi <;> cases lo <;> simp only [kr,ku] at h1 h2 h3 <;> (try (simp at hmh;done)) <;> simp [wIS h1,wIS h2,wIS h3]
theorem wIT {x:Option AOd} {y:Option Operand} {r:Option Nat} (hr:bnd σA x=some r) (hc:wRs x y=true) (hE:EnvR μ σA σ):y.map (ev σ)=r.map vI:=by
 rcases wPE hr hc hE with ⟨rfl,rfl⟩ | ⟨n,z,rfl,rfl,h1⟩
 ·rfl
 ·simp [h1,vI]
theorem wGj (b off n:Nat):(Addr.add ⟨b,off,none⟩ n)=⟨b,off + n,none⟩:=wEZ b off n
theorem wPF {P:Program} {sz:Nat} {a v:AV} {x:Value} {lo hi mx:Option Nat} (hr0:wVA sz a (orD lo 0) hi mx=some v) (hx:Rv μ a x) (hmh:mx.isSome=true->hi.isSome=true) :
  ∃ A len cap cv l hh m,x=.slice A len cap/\Rv μ v cv/\(∀ s w,(Instr.sliceBounds s len cap (lo.map vI) (hi.map vI) (mx.map vI)).run P w=.ok (l,hh,m) w) /\
   cv=.slice (if m=l then A else A.map (·.add (l * sz))) (hh - l) (m - l):=by
 obtain ⟨l,hl,hr⟩:∃ l,lo.getD 0=l/\wVA sz a l hi mx=some v:=⟨_,rfl,by rw [<- wOb];exact hr0⟩
 clear hr0
 unfold wVA at hr
 split at hr
 ·obtain ⟨hb,hr⟩:=wCA hr
  cases hr
  simp only [nA] at hb
  obtain ⟨⟨b1,b2⟩,b3⟩:=hb
  have l0:=nB b1
  have hx:x=.slice none 0 0:=hx
  subst hx
  have h2:hi.getD 0=0:=by cases hi with | none=>rfl | some n=>exact nB b2
  have h3:mx.getD 0=0:=by cases mx with | none=>rfl | some n=>exact nB b3
  refine ⟨none,0,0,_,0,0,0,rfl,(rfl:Rv μ .snil _),fun s w=>wGM h3.symm h2.symm (by rw [hl,l0]) (nN _) (nN _) (nN _) hmh w,by simp⟩
 ·rename_i b off n c
  obtain ⟨d,g1,g2,rfl⟩:=hx
  simp only [wOb] at hr
  obtain ⟨hb,hr⟩:=wCA hr
  cases hr
  simp only [nA,ny] at hb
  obtain ⟨⟨b1,b2⟩,b3⟩:=hb
  refine ⟨_,n,c,_,l,hi.getD n,mx.getD c,rfl,⟨d,g1,by omega,rfl⟩,fun s w=>wGM rfl rfl hl.symm b1 b2 b3 hmh w,?_⟩
  by_cases e:mx.getD c=l
  ·simp [e]
  ·have:nD (mx.getD c) l=false:=by
    cases hq:nD (mx.getD c) l with
    | false=>rfl
    | true=>exact absurd (nB hq) e
   simp [e,this,wGj]
 ·rename_i b eo co n
  obtain ⟨d,g1,g2,rfl⟩:=hx
  simp only [wOb] at hr
  split at hr
  ·obtain ⟨hb,hr⟩:=wCA hr
   simp only [nA,ny] at hb
   obtain ⟨b1,b2⟩:=hb
   have fin:∀ cv,cv=kb (if d.2 - eo=l then some ⟨d.1,co,none⟩ else (some (⟨d.1,co,none⟩:Addr)).map (·.add (l * sz))) (hi.getD n - l) (d.2 - eo - l)->Rv μ v cv ->
     ∃ A len cap cv l hh m,kb (some ⟨d.1,co,none⟩) n (d.2 - eo)=.slice A len cap/\Rv μ v cv/\(∀ s w,(Instr.sliceBounds s len cap (lo.map vI) (hi.map vI) ((none:Option Nat).map vI)).run P w=.ok (l,hh,m) w) /\
      cv=.slice (if m=l then A else A.map (·.add (l * sz))) (hh - l) (m - l):=fun cv e hv =>
    ⟨_,n,d.2 - eo,cv,l,hi.getD n,d.2 - eo,rfl,hv,fun s w=>wGM rfl rfl hl.symm b1 (by simp only [kr];omega) (nN _) hmh w,e⟩
   split at hr
   ·cases hr
    refine fin _ rfl ⟨d,g1,by omega,?_⟩
    simp [Addr.add]
   ·rename_i l0
    split at hr
    ·rename_i hlt
     cases hr
     have hlt:l < n:=by simpa [nP] using hlt
     refine fin _ rfl ⟨d,g1,by omega,?_⟩
     rw [if_neg (by omega)]
     simp [wGj,Nat.sub_sub]
    ·rename_i hlt
     cases hr
     have hlt:¬ l < n:=by
      intro hq
      have:nQ l n=true:=by rw [nP];exact hq
      rw [this] at hlt;cases hlt
     have e1:hi.getD n - l=0:=by omega
     refine fin _ rfl ?_
     rw [e1]
     by_cases e2:d.2 - eo=l
     ·rw [if_pos e2];exact ⟨d,g1,co,by congr 1;omega⟩
     ·rw [if_neg e2];exact ⟨d,g1,co + l * sz,by simp only [Option.map_some,wGj];congr 1;omega⟩
  ·rename_i m
   obtain ⟨hb,hr⟩:=wCA hr
   cases hr
   simp only [nA,ny] at hb
   obtain ⟨⟨b1,b2⟩,b3⟩:=hb
   refine ⟨_,n,d.2 - eo,_,l,hi.getD n,m,rfl,⟨d,g1,by omega,rfl⟩,fun s w=>wGM (mx:=some m) rfl rfl hl.symm b1 b2 (by simp only [ku];omega) hmh w,?_⟩
   by_cases e:m=l
   ·simp [e]
   ·have:nD m l=false:=by
     cases hq:nD m l with
     | false=>rfl
     | true=>exact absurd (nB hq) e
    simp [e,this,wGj]
 ·cases hr
def wTK (P:Program) (sz:Nat) (x:AOd) (lo hi mx:Option AOd):Op->Bool
 | .slice t y l m n=>wFp P t (fun d=>match d with
   | .slice e=>szT P e sz
   | _=>false) && (wCl x y && (wRs lo l && (wRs hi m && (wRs mx n && (!mx.isSome || hi.isSome)))))
 | _=>false
theorem p_slc {sz:Nat} {x:AOd} {lo hi mx:Option AOd} {op:Op} (hc:wTK P sz x lo hi mx op=true):OkP P op (wLn sz x lo hi mx):=by
 intro σA h v h' hr
 unfold wTK at hc
 split at hc
 ·rename_i t y l m n
  simp only [nA] at hc
  obtain ⟨c1,c2,c3,c4,c5,c6⟩:=hc
  obtain ⟨d,d1,d2⟩:=wBL c1
  split at d2
  ·rename_i e
   unfold wLn at hr
   split at hr
   ·rename_i rl rh rm h1 h2 h3
    obtain ⟨hr2,rfl⟩:=wBz hr
    refine ⟨rfl,fun μ σ hE=>?_⟩
    have hmh:rm.isSome=true->rh.isSome=true:=by
     intro hs
     rcases wPE h3 c5 hE with ⟨rfl,_⟩ | ⟨_,z,rfl,rfl,_⟩
     ·cases hs
     ·cases mx with
      | none=>simp [bnd] at h3
      | some _ =>
       cases hi with
       | none=>simp at c6
       | some _ =>
        rcases wPE h2 c4 hE with ⟨rfl,e0⟩ | ⟨_,_,rfl,_⟩
        ·subst e0;simp [wRs] at c4
        ·rfl
    obtain ⟨A,len,cap,cv,ll,hh,mm,e1,e2,e3,e4⟩:=wPF (P:=P) hr2 (wAW c2 hE) hmh
    refine ⟨cv,e2,fun o w ho=>⟨by rw [ho];rfl,?_⟩⟩
    have b1:=wIT h1 c3 hE
    have b2:=wIT h2 c4 hE
    have b3:=wIT h3 c5 hE
    simp [execOp,ho,Instr.sliceAt,Instr.slice,wBY d1,e1,b1,b2,b3,e3,wFQ d2,e4]
   ·cases hr
  ·cases d2
 ·cases hc
def wPG (P:Program) (sz n:Nat) (x:AOd) (lo hi:Option AOd):Op->Bool
 | .slice t y l m none=>wFp P t (fun d=>match d with
   | .array k e=>nD k n && szT P e sz
   | _=>false) && (wCl x y && (wRs lo l && wRs hi m))
 | _=>false
theorem wVN {sz n:Nat} {x:AOd} {lo hi:Option AOd} {op:Op} (hc:wPG P sz n x lo hi op=true):OkP P op (wIL sz n x lo hi):=by
 intro σA h v h' hr
 unfold wPG at hc
 split at hc
 ·rename_i t y l m
  simp only [nA] at hc
  obtain ⟨c1,c2,c3,c4⟩:=hc
  obtain ⟨d,d1,d2⟩:=wBL c1
  split at d2
  ·rename_i k e
   simp only [nA] at d2
   have ek:=nB d2.1
   subst ek
   unfold wIL at hr
   split at hr
   ·rename_i rl rh b off h1 h2 hb
    obtain ⟨hr2,rfl⟩:=wBz hr
    refine ⟨rfl,fun μ σ hE=>?_⟩
    have g:=wAW c2 hE;rw [hb] at g
    obtain ⟨c,g1,g2⟩:=g
    obtain ⟨A,len,cap,cv,ll,hh,mm,e1,e2,e3,e4⟩:=wPF (P:=P) (μ:=μ) (x:=.slice (some ⟨c.1,off,none⟩) k k) hr2 ⟨c,g1,nN _,rfl⟩ (by intro hs;cases hs)
    cases e1
    refine ⟨cv,e2,fun o w ho=>⟨by rw [ho];rfl,?_⟩⟩
    have b1:=wIT h1 c3 hE
    have b2:=wIT h2 c4 hE
    have e3':=e3 false
    simp only [Option.map_none] at e3'
    simp [execOp,ho,Instr.sliceAt,wBY d1,g2,Instr.sureAddr,b1,b2,e3',wFQ d2.2,e4]
    split <;> simp
   ·cases hr
  ·cases d2
 ·cases hc
end
end
noncomputable section
open Go.RowKit Go.KL
section
variable {C:Chk} {P:Program} {μ μ':Mu} {w w':World} {h h':AH} {σ:Env} {σA:Tr AV} {t e:TypeId} {o:Oper}
def wKw (place:Nat->Option (Nat × Nat)):List (Nat × Nat × AOd)->List (Nat × Operand)->Bool
 | [],[]=>true
 | (off,n,x) :: ps,(i,y) :: qs=>(match place i with | some (o,s)=>nD o off && nD s n | none=>false) && (wCl x y && wKw place ps qs)
 | _,_=>false
theorem wJx {place:Nat->Option (Nat × Nat)} (hE:EnvR μ σA σ):∀ {ps:List (Nat × Nat × AOd)} {qs:List (Nat × Operand)} {cs r:List AV} {CS:List Value},wJo σA cs ps=some r->wKw place ps qs=true->RvL μ cs CS ->
  ∃ R,lay place CS (qs.map fun (p:Nat × Operand)=>(p.1,ev σ p.2))=some R/\RvL μ r R/\R.length=CS.length
 | [],[],cs,r,CS,hr,_,hl=>by
  simp only [wJo] at hr;cases hr;exact ⟨CS,rfl,hl,rfl⟩
 | (off,n,x) :: ps,(i,y) :: qs,cs,r,CS,hr,hc,hl=>by
  simp only [wKw,nA] at hc
  obtain ⟨c1,c2,c3⟩:=hc
  split at c1
  ·rename_i o s hp
   simp only [nA] at c1
   have e1:=nB c1.1
   have e2:=nB c1.2
   subst e1 e2
   simp only [wJo] at hr
   split at hr
   ·rename_i hn
    have hn:=nB hn
    split at hr
    ·rename_i cs' ho
     obtain ⟨vs,v1,v2⟩:=wJt (wAW c2 hE)
     obtain ⟨g1,g2⟩:=wJs ho hl v1
     have hlen:vs.length=s:=by rw [wEu v1,<- wGW,hn]
     obtain ⟨R,r1,r2,r3⟩:=wJx hE hr c3 g2
     refine ⟨R,?_,r2,by rw [r3,wCF]⟩
     rw [List.map_cons,lay,hp]
     simp only [v2,ko,hlen,beq_self_eq_true,Bool.true_and]
     rw [if_pos (by rw [ny];omega)]
     exact r1
    ·cases hr
   ·cases hr
  ·cases c1
 | [],_ :: _,cs,r,CS,hr,hc,hl=>by simp [wKw] at hc
 | _ :: _,[],cs,r,CS,hr,hc,hl=>by simp [wKw] at hc
def plL (P:Program):List Field->Option (List (Nat × Nat))
 | []=>some []
 | f :: fs=>match P.info? f.type,plL P fs with
  | some i,some l=>some ((f.offset,i.size) :: l)
  | _,_=>none
theorem wVO:∀ {fs:List Field} {pl:List (Nat × Nat)},plL P fs=some pl->wRd P fs.toArray pl:=by
 intro fs pl hp w
 rw [List.mapM_toArray]
 have key:∀ (fs:List Field) (pl:List (Nat × Nat)),plL P fs=some pl->((fs.mapM fun f=>do pure (f.offset,<- sizeOf f.type):Sem (List (Nat × Nat)))).run P w=.ok pl w:=by
  intro fs
  induction fs with
  | nil=>intro pl hp;cases hp;simp
  | cons f fs ih =>
   intro pl hp
   unfold plL at hp
   split at hp
   ·rename_i i l h1 h2
    cases hp
    have hs:(sizeOf f.type).run P w=.ok i.size w:=by simp [sizeOf,typeInfo,h1]
    simp only [List.mapM_cons,Sem.run_bind,hs,Result.andThen_ok,Sem.run_pure,ih l h2]
   ·cases hp
 have:=key fs pl hp
 simp only [Sem.run_map,this,Result.andThen_ok]
def wTL (P:Program) (z:List AV) (ps:List (Nat × Nat × AOd)):Op->Bool
 | .build t qs=>zT P t z && wFp P t (fun d=>match d with
   | .struct fs=>match plL P fs.toList with
    | some pl=>wKw (fun i=>pl[i]?) ps qs.toList
    | none=>false
   | .array _ e=>match P.info? e with
    | some j=>wKw (fun i=>some (i * j.size,j.size)) ps qs.toList
    | none=>false
   | _=>false)
 | _=>false
theorem p_bld {z:List AV} {ps:List (Nat × Nat × AOd)} {op:Op} (hc:wTL P z ps op=true):OkP P op (wOn z ps):=by
 intro σA h v h' hr
 unfold wTL at hc
 split at hc
 ·rename_i t qs
  simp only [nA] at hc
  obtain ⟨c1,c2⟩:=hc
  obtain ⟨hr2,rfl⟩:=wBz hr
  obtain ⟨r,hr3,rfl⟩:=wFH hr2
  obtain ⟨i,zv,z1,z2,z3⟩:=wIQ c1
  obtain ⟨d,d1,d2⟩:=wBL c2
  refine ⟨rfl,fun μ σ hE=>?_⟩
  split at d2
  ·rename_i fs
   split at d2
   ·rename_i pl hpl
    obtain ⟨R,r1,r2,_⟩:=wJx hE hr3 d2 (z3 μ)
    refine ⟨_,⟨R,r2,rfl⟩,fun o w ho=>?_⟩
    exact Runs.build (P:=P) (ps:=qs.toList) (z:=zv.cells.toList) ho rfl (wGL z1 z2) ⟨fs,wBY d1,wVO hpl⟩ (by simp) r1
   ·cases d2
  ·rename_i n e
   split at d2
   ·rename_i j hj
    obtain ⟨R,r1,r2,_⟩:=wJx hE hr3 d2 (z3 μ)
    refine ⟨_,⟨R,r2,rfl⟩,fun o w ho=>?_⟩
    exact Runs.buildA (P:=P) (ps:=qs.toList) (z:=zv.cells.toList) ho rfl (wGL z1 z2) (wBY d1) (fun w=>by simp [sizeOf,typeInfo,hj]) (by simp) r1
   ·cases d2
  ·cases d2
 ·cases hc
def wNY (P:Program) (b:Builtin) (x:AOd):Op->Bool
 | .call c=>match c.callee with
  | .builtin b'=>(b' == b) && (match c.args.toList,c.argTypes.toList with
   | [y],[t]=>wFp P t (fun d=>match d with | .slice _=>true | _=>false) && wCl x y
   | _,_=>false)
  | _=>false
 | _=>false
theorem wMk {b:Builtin} {x:AOd} {op:Op} (hc:wNY P b x op=true):∃ y t e,op=.call { callee:=.builtin b,args:=#[y],argTypes:=#[t] }/\P.underlying t=some (.slice e)/\wCl x y=true:=by
 unfold wNY at hc
 split at hc
 ·rename_i c
  obtain ⟨ce,args,tys⟩:=c
  simp only at hc
  split at hc
  ·rename_i b'
   simp only [nA,beq_iff_eq] at hc
   obtain ⟨rfl,h2⟩:=hc
   split at h2
   ·rename_i y t h3 h4
    simp only [nA] at h2
    obtain ⟨d,d1,d2⟩:=wBL h2.1
    cases d <;> first | (cases d2;done) | skip
    refine ⟨y,t,_,?_,d1,h2.2⟩
    congr 2
    ·exact nw (by simpa using h3)
    ·exact nw (by simpa using h4)
   ·cases h2
  ·cases hc
 ·cases hc
theorem p_len {x:AOd} {op:Op} (hc:wNY P .len x op=true):OkP P op (wOo x):=by
 intro σA h v h' hr
 obtain ⟨y,t,e,rfl,d1,c2⟩:=wMk hc
 unfold wOo at hr
 split at hr <;> cases hr <;> rename_i hb
 ·refine ⟨rfl,fun μ σ hE=>⟨_,rfl,fun o w ho=>?_⟩⟩
  have g:=wAW c2 hE;rw [hb] at g
  exact Runs.len ho g (wBY d1)
 ·refine ⟨rfl,fun μ σ hE=>⟨_,rfl,fun o w ho=>?_⟩⟩
  have g:=wAW c2 hE;rw [hb] at g
  obtain ⟨c,_,_,g⟩:=g
  exact Runs.len ho g (wBY d1)
 ·refine ⟨rfl,fun μ σ hE=>⟨_,rfl,fun o w ho=>?_⟩⟩
  have g:=wAW c2 hE;rw [hb] at g
  obtain ⟨c,_,_,g⟩:=g
  exact Runs.len ho g (wBY d1)
 ·refine ⟨rfl,fun μ σ hE=>⟨_,rfl,fun o w ho=>?_⟩⟩
  have g:=wAW c2 hE;rw [hb] at g
  obtain ⟨c,_,q,g⟩:=g
  exact Runs.len ho g (wBY d1)
theorem Runs.cap {t e:TypeId} {x:Operand} {a:Option Addr} {n c:Nat} (ho:o.op=.call { callee:=.builtin .cap,args:=#[x],argTypes:=#[t] }) (hx:ev σ x=.slice a n c)
  (ht:∀ w,(underlying t).run P w=.ok (.slice e) w):Runs P σ w o (.int .i64 c) w :=
 ⟨by rw [ho];rfl,by simp [execOp,ho,resolve,invoke,builtin,Builtin.cap_,hx,ht,goInt]⟩
theorem p_cap {x:AOd} {op:Op} (hc:wNY P .cap x op=true):OkP P op (wOp x):=by
 intro σA h v h' hr
 obtain ⟨y,t,e,rfl,d1,c2⟩:=wMk hc
 unfold wOp at hr
 split at hr <;> cases hr <;> rename_i hb
 ·refine ⟨rfl,fun μ σ hE=>⟨_,rfl,fun o w ho=>?_⟩⟩
  have g:=wAW c2 hE;rw [hb] at g
  exact Runs.cap ho g (wBY d1)
 ·refine ⟨rfl,fun μ σ hE=>⟨_,rfl,fun o w ho=>?_⟩⟩
  have g:=wAW c2 hE;rw [hb] at g
  obtain ⟨c,_,_,g⟩:=g
  exact Runs.cap ho g (wBY d1)
def wUe (b:Builtin) (x y:AOd):Op->Bool
 | .call c=>match c.callee with
  | .builtin b'=>(b' == b) && (match c.args.toList with
   | [x',y']=>wCl x x' && wCl y y'
   | _=>false)
  | _=>false
 | _=>false
theorem wPH {b:Builtin} {x y:AOd} {op:Op} (hc:wUe b x y op=true):∃ x' y' tys,op=.call { callee:=.builtin b,args:=#[x',y'],argTypes:=tys }/\wCl x x'=true/\wCl y y'=true:=by
 unfold wUe at hc
 split at hc
 ·rename_i c
  obtain ⟨ce,args,tys⟩:=c
  simp only at hc
  split at hc
  ·rename_i b'
   simp only [nA,beq_iff_eq] at hc
   obtain ⟨rfl,h2⟩:=hc
   split at h2
   ·rename_i x' y' h3
    simp only [nA] at h2
    refine ⟨x',y',tys,?_,h2.1,h2.2⟩
    congr 2
    exact nw (by simpa using h3)
   ·cases h2
  ·cases hc
 ·cases hc
theorem p_min {x y:AOd} {op:Op} (hc:wUe .min x y op=true):OkP P op (wSo x y):=by
 intro σA h v h' hr
 obtain ⟨x',y',tys,rfl,c1,c2⟩:=wPH hc
 obtain ⟨hr2,rfl⟩:=wBz hr
 split at hr2
 ·rename_i a b e1 e2
  cases hr2
  refine ⟨rfl,fun μ σ hE=>⟨_,rfl,fun o w ho=>?_⟩⟩
  have g1:=wAW c1 hE;rw [e1] at g1
  have g2:=wAW c2 hE;rw [e2] at g2
  refine (Runs.min ho g1 g2).to ?_
  have:(match zlt b a with | true=>b | false=>a)=Min.min a b:=by
   rw [wIO,Int.min_def]
   by_cases hq:b < a
   ·simp [hq,Int.not_le.2 hq]
   ·simp [hq,Int.not_lt.1 hq]
  exact congrArg (ky .i64) this.symm
 ·cases hr2
theorem p_max {x y:AOd} {op:Op} (hc:wUe .max x y op=true):OkP P op (wSp x y):=by
 intro σA h v h' hr
 obtain ⟨x',y',tys,rfl,c1,c2⟩:=wPH hc
 obtain ⟨hr2,rfl⟩:=wBz hr
 split at hr2
 ·rename_i a b e1 e2
  cases hr2
  refine ⟨rfl,fun μ σ hE=>⟨_,rfl,fun o w ho=>?_⟩⟩
  have g1:=wAW c1 hE;rw [e1] at g1
  have g2:=wAW c2 hE;rw [e2] at g2
  refine (Runs.max ho g1 g2).to ?_
  have:(match zlt a b with | true=>b | false=>a)=Max.max a b:=by
   rw [wIO,Int.max_def]
   by_cases hq:a < b
   ·simp [hq,Int.le_of_lt hq]
   ·by_cases hq2:a <= b
    ·have:a=b:=by omega
     simp [this]
    ·simp [hq,hq2]
  exact congrArg (ky .i64) this.symm
 ·cases hr2
def OkL (C:Chk) (P:Program) (op:Op) (f:Tr AV->AH->Option (AV × AH)):Prop :=
 ∀ σA h v h',f σA h=some (v,h')->h'=h/\∀ μ σ w,EnvR μ σA σ->Sim C P μ h w->∃ cv,Rv μ v cv/\∀ (o:Oper),o.op=op->RunsK P σ w o cv
theorem wGN {b:Pos} {l:List AV} (hr:wGA h b=some l) (S:Sim C P μ h w):∃ c vs,μ b=some c/\RvL μ l vs/\∀ w',Keep w w' Non->∀ j v,vs[j]?=some v->w'.cell? ⟨c.1,j,none⟩=some v:=by
 unfold wGA at hr
 split at hr
 ·rename_i B hB
  obtain ⟨c,h1,h2⟩:=S.at_ b B hB
  cases B <;> simp only [wMa] at hr <;> first | (cases hr;done) | cases hr
  ·obtain ⟨vs,h3,h4⟩:=h2
   exact ⟨c,vs,h1,h3,fun w' K j v hv=>(h4.non K).cell hv⟩
  ·obtain ⟨vs,h3,h4⟩:=h2
   refine ⟨c,vs,h1,h3,fun w' K j v hv=>?_⟩
   obtain ⟨cur,g1,g2,g3,g4,g5⟩:=RowAt.cells h4
   have g1':=(K.block _ (wAr g1) id).trans g1
   have:cur.toList[j]?=some v:=by
    rw [<- g5,List.getElem?_take] at hv
    split at hv
    ·exact hv
    ·cases hv
   simp only [World.cell?,g1']
   simpa using this
 ·cases hr
def c_ld (P:Program) (x:AOd):Op->Bool
 | .load t y=>wQq P t false && wCl x y
 | _=>false
theorem l_ld {x:AOd} {op:Op} (hc:c_ld P x op=true):OkL C P op (o_ld x):=by
 intro σA h v h' hr
 unfold c_ld at hc
 split at hc
 ·simp only [nA] at hc
  unfold o_ld at hr
  split at hr
  ·rename_i b off hb
   split at hr
   ·rename_i l hl
    obtain ⟨hr2,rfl⟩:=wBz hr
    refine ⟨rfl,fun μ σ w hE S=>?_⟩
    obtain ⟨c,vs,h1,h2,h3⟩:=wGN hl S
    have g:=wAW hc.2 hE;rw [hb] at g
    obtain ⟨c',g1,g2⟩:=g
    rw [h1] at g1;cases g1
    rw [wHp] at hr2
    obtain ⟨cv,g3,g4⟩:=wGh h2 hr2
    exact ⟨cv,g4,fun o ho w' K=>Runs.ld ho g2 (wGB hc.1) (h3 w' K _ _ g3)⟩
   ·cases hr
  ·cases hr
 ·cases hc
def wTM (P:Program) (n:Nat) (x:AOd):Op->Bool
 | .load t y=>(wQq P t true && szT P t n) && wCl x y
 | _=>false
theorem l_ldA {n:Nat} {x:AOd} {op:Op} (hc:wTM P n x op=true):OkL C P op (wQj n x):=by
 intro σA h v h' hr
 unfold wTM at hc
 split at hc
 ·simp only [nA] at hc
  unfold wQj at hr
  split at hr
  ·rename_i b off hb
   split at hr
   ·rename_i l hl
    obtain ⟨hr2,rfl⟩:=wBz hr
    obtain ⟨r,hr3,rfl⟩:=wFH hr2
    refine ⟨rfl,fun μ σ w hE S=>?_⟩
    obtain ⟨c,vs,h1,h2,h3⟩:=wGN hl S
    have g:=wAW hc.2 hE;rw [hb] at g
    obtain ⟨c',g1,g2⟩:=g
    rw [h1] at g1;cases g1
    obtain ⟨g3,g4⟩:=wGi hr3 h2
    refine ⟨_,⟨_,g3,rfl⟩,fun o ho w' K=>Runs.ldA ho g2 (wGB hc.1.1) (wFQ hc.1.2) (by simp;omega) fun j u hu=>?_⟩
    exact h3 w' K _ _ (wFy rfl j u hu)
   ·cases hr
  ·cases hr
 ·cases hc
def OkE (C:Chk) (P:Program) (op:Op) (f:Tr AV->AH->Option (AV × AH)):Prop :=
 ∀ σA h v h',f σA h=some (v,h')->∀ μ σ w,EnvR μ σA σ->Sim C P μ h w->∀ (o:Oper),o.op=op->∃ μ' w' cv,Ext μ h.fl.nat w μ' w'/\Sim C P μ' h' w'/\Rv μ' v cv/\h'.fl=h.fl/\Runs P σ w o cv w'
def OkU (C:Chk) (P:Program) (op:Op) (f:Tr AV->AH->Option (AV × AH)):Prop :=
 ∀ σA h v h',f σA h=some (v,h')->∀ μ σ w,EnvR μ σA σ->Sim C P μ h w->∀ (o:Oper),o.op=op->∃ μ' w',Ext μ h.fl.nat w μ' w'/\Sim C P μ' h' w'/\v=u/\h'.fl=h.fl/\Does P σ w o w'
theorem OkP.toL {op:Op} {f:Tr AV->AH->Option (AV × AH)} (hp:OkP P op f):OkL C P op f:=by
 intro σA h v h' hr
 obtain ⟨h1,h2⟩:=hp σA h v h' hr
 exact ⟨h1,fun μ σ w hE _=>let ⟨cv,g1,g2⟩:=h2 μ σ hE;⟨cv,g1,fun o ho w' _=>g2 o w' ho⟩⟩
theorem OkL.toE {op:Op} {f:Tr AV->AH->Option (AV × AH)} (hp:OkL C P op f):OkE C P op f:=by
 intro σA h v h' hr μ σ w hE S o ho
 obtain ⟨rfl,h2⟩:=hp σA h v h' hr
 obtain ⟨cv,g1,g2⟩:=h2 μ σ w hE S
 exact ⟨μ,w,cv,Ext.refl μ _ w,S,g1,rfl,g2 o ho w (Keep.refl w _)⟩
def wTN (P:Program) (T:Nat) (z:List AV):Op->Bool
 | .alloc t=>nD T t && zT P t z
 | _=>false
def wTO (T:Nat) (x:AOd):Op->Bool
 | .box t y=>nD T t && wCl x y
 | _=>false
def wTP:Op->Bool
 | .makeMap _ none=>true
 | _=>false
theorem wIU {zc:Array Value} {n:Nat}:∀ c,((kD (c * zc.size)).map (zc[· % zc.size]!)).toList=(nJ c zc.toList).flatten \/ False:=by
 intro c
 left
 induction c with
 | zero=>simp
 | succ c ih =>
  rw [kR,km] at ih ⊢
  rw [Nat.succ_mul,List.range_add,List.map_append,ih,List.replicate_succ',List.flatten_append]
  congr 1
  simp only [List.map_map,List.flatten_singleton]
  apply List.ext_getElem
  ·simp
  ·intro i h1 h2
   simp at h1
   simp [Nat.add_mul_mod_self_right,Nat.mod_eq_of_lt h1,Nat.add_comm (c * zc.size) i,h1]
def wTQ (P:Program) (T sz by_:Nat) (z:List AV) (x y:AOd):Op->Bool
 | .makeSlice t x' y'=>wFp P t (fun d=>match d with | .slice e=>nD e T | _=>false) && (szT P T sz && (byT P T by_ && (zT P T z && (nD (len z) sz && (wCl x x' && wCl y y')))))
 | _=>false
def wPI (P:Program) (T n:Nat) (z:List AV) (ps:List (Nat × Nat × AOd)):Op->Bool
 | .buildSlice t m qs=>nD m n && (wFp P t (fun d=>match d with | .slice e=>nD e T | _=>false) && (match P.info? T with
   | some i=>nO (n * i.size) 16777216 && (wKw (fun k=>some (k * i.size,i.size)) ps qs.toList && (match i.zero with
    | some v=>wQp z ((nH (n * i.size)).map fun k=>v.cells[k % v.cells.size]!)
    | none=>false))
   | none=>false))
 | _=>false
def OkA (C:Chk) (P:Program) (op:Op) (f:Tr AV->AH->Option (AV × AH)):Prop :=
 ∀ σA h v h',f σA h=some (v,h')->∃ (B:AB) (vf:Pos->AV),h'=h.push B/\v=vf h.nx/\(∀ h2:AH,f σA h2=some (vf h2.nx,h2.push B))/\wNy B/\∀ μ σ,EnvR μ σA σ->∀ o:Oper,o.op=op ->
 ∃ (ob:Obj) (val:Nat->Value),(∀ w:World,Runs P σ w o (val w.heap.size) (w.alloc ob)) /\
 (∀ μ' (w:World) b,μ.Le μ'->w.heap[b]?=some ob->AbR C P μ' w ⟨b,0,g0⟩ B)/\∀ μ' p b,μ' p=some ⟨b,0,g0⟩->Rv μ' (vf p) (val b)
theorem wNZ {α:Type} {b:Bool} {x:Option α} (h:b=true):ifO b x=x:=by subst h;rfl
theorem wVP {T:Nat} {z:List AV} {op:Op} (hc:wTN P T z op=true):OkA C P op (wVB T z):=by
 intro σA h v h' hr
 cases hr
 unfold wTN at hc
 split at hc
 ·simp only [nA] at hc
  have e:=nB hc.1
  subst e
  obtain ⟨i,zv,z1,z2,z3⟩:=wIQ hc.2
  refine ⟨.cells T z,fun p=>.ptr p 0,rfl,rfl,fun h2=>rfl,trivial,fun μ σ hE o ho=>?_⟩
  refine ⟨_,fun b=>.pointer (some ⟨b,0,none⟩),fun w=>⟨by rw [ho];rfl,?_⟩,fun μ' w b hm hb=>⟨_,z3 μ',hb⟩,fun μ' p b hp=>⟨_,hp,rfl⟩⟩
  simp [execOp,ho,Instr.alloc,wGL z1 z2,newVar,newRow,newObj,Sem.run]
 ·cases hc
theorem wVQ {T:Nat} {x:AOd} {op:Op} (hc:wTO T x op=true):OkA C P op (wSb T x):=by
 intro σA h v h' hr
 cases hr
 unfold wTO at hc
 split at hc
 ·simp only [nA] at hc
  have e:=nB hc.1
  subst e
  refine ⟨.cells T _,fun p=>.ptr p 0,rfl,rfl,fun h2=>rfl,trivial,fun μ σ hE o ho=>?_⟩
  obtain ⟨vs,v1,v2⟩:=wJt (wAW hc.2 hE)
  refine ⟨.cells vs.toArray T,fun b=>.pointer (some ⟨b,0,none⟩),fun w=>⟨by rw [ho];rfl,?_⟩,fun μ' w b hm hb=>⟨vs,v1.mono hm,hb⟩,fun μ' p b hp=>⟨_,hp,rfl⟩⟩
  simp [execOp,ho,Instr.box,newVar,newRow,newObj,v2,Sem.run]
 ·cases hc
theorem wVR {op:Op} (hc:wTP op=true):OkA C P op wVC:=by
 intro σA h v h' hr
 cases hr
 unfold wTP at hc
 split at hc
 ·refine ⟨.map0,fun p=>.map p,rfl,rfl,fun h2=>rfl,trivial,fun μ σ hE o ho=>?_⟩
  refine ⟨.map #[] 0,fun b=>.map (some b),fun w=>⟨by rw [ho];rfl,?_⟩,fun μ' w b hm hb=>⟨0,hb⟩,fun μ' p b hp=>⟨_,hp,rfl⟩⟩
  simp [execOp,ho,Instr.makeMap,newObj,Sem.run,Result.andThen]
 ·cases hc
theorem wVS {T sz by_:Nat} {z:List AV} {x y:AOd} {op:Op} (hc:wTQ P T sz by_ z x y op=true):OkA C P op (wOh T sz by_ z x y):=by
 intro σA h v h' hr
 unfold wTQ at hc
 split at hc
 ·rename_i t x' y'
  simp only [nA] at hc
  obtain ⟨c1,c2,c3,c4,c5,c6,c7⟩:=hc
  obtain ⟨d,d1,d2⟩:=wBL c1
  split at d2 <;> first | (cases d2;done) | skip
  have e:=nB d2
  subst e
  rename_i e
  obtain ⟨i,i1,i2⟩:=wJu c2
  obtain ⟨i',j1,j2⟩:=wJv c3
  obtain ⟨i'',zv,k1,k2,k3⟩:=wIQ c4
  rw [i1] at j1 k1;cases j1;cases k1
  have hz:=nB c5
  unfold wOh at hr
  split at hr
  ·rename_i l c hl hcc
   obtain ⟨hb,hr⟩:=wCA hr
   cases hr
   simp only [nA,ny] at hb
   obtain ⟨⟨⟨b1,b2⟩,b3⟩,b4⟩:=hb
   refine ⟨.cells e (rep c z),fun p=>.sl p 0 l c,rfl,rfl,fun h2=>(by simp only [wOh,hl,hcc];exact wNZ (by simp [b1,b2,b3,b4])),trivial,fun μ σ hE o ho=>?_⟩
   have hx:=wAW c6 hE;rw [wDY hl] at hx
   have hy:=wAW c7 hE;rw [wDY hcc] at hy
   have hx:ev σ x'=.int .i64 (l:Int):=hx
   have hy:ev σ y'=.int .i64 (c:Int):=hy
   have zlen:zv.cells.size=sz:=by rw [<- hz,wGW,<- wEu (k3 μ)];simp
   have hcells:(madeCells zv.cells (c * sz))=((nJ c zv.cells.toList).flatten).toArray:=by
    apply nw
    have:=wIU (zc:=zv.cells) (n:=0) c
    simp only [or_false] at this
    rw [zlen] at this
    show ((kD (c * sz)).map (zv.cells[· % zv.cells.size]!)).toList=_
    rw [zlen,this]
   refine ⟨.cells ((nJ c zv.cells.toList).flatten).toArray e,fun b=>.slice (some ⟨b,0,none⟩) l c,fun w=>⟨by rw [ho];rfl,?_⟩,fun μ' w b hm hb=>⟨_,wJr (k3 μ') c,hb⟩,fun μ' p b hp=>⟨_,hp,b1,rfl⟩⟩
   have hrun:=run_makeSlice (P:=P) w t e i zv d1 i1 k2 .i64 .i64 (l:Int) (c:Int) (by omega) (by omega) (by rw [i2,nl];exact b2) (by rw [j2];have hb:=Int.ofNat_le.2 b3;rw [Int.natCast_mul] at hb;exact hb) (by omega)
   simp only [nl,i2] at hrun
   rw [hcells] at hrun
   simp [execOp,ho,hx,hy,hrun,Result.andThen]
  ·cases hr
 ·cases hc
theorem wRt {T n:Nat} {z:List AV} {ps:List (Nat × Nat × AOd)} {op:Op} (hc:wPI P T n z ps op=true):OkA C P op (wIM T n z ps):=by
 intro σA h v h' hr
 unfold wPI at hc
 split at hc
 ·rename_i t m qs
  simp only [nA] at hc
  obtain ⟨c1,c2,c3⟩:=hc
  have e:=nB c1
  subst e
  obtain ⟨d,d1,d2⟩:=wBL c2
  split at d2 <;> first | (cases d2;done) | skip
  have e:=nB d2
  subst e
  rename_i e
  split at c3
  ·rename_i i hi
   simp only [nA,ny] at c3
   obtain ⟨c3,c4,c5⟩:=c3
   split at c5
   ·rename_i zv hz
    unfold wIM at hr
    split at hr
    ·rename_i r hr3
     cases hr
     refine ⟨.cells e r,fun p=>.sl p 0 m m,rfl,rfl,fun h2=>by simp only [wIM,hr3],trivial,fun μ σ hE o ho=>?_⟩
     obtain ⟨R,r1,r2,r3⟩:=wJx hE hr3 c4 (wIP μ c5)
     have hf:=wFb _ _ _ _ r1
     refine ⟨.cells R.toArray e,fun b=>.slice (some ⟨b,0,none⟩) m m,fun w=>⟨by rw [ho];rfl,?_⟩,fun μ' w b hm hb=>⟨_,r2.mono hm,hb⟩,fun μ' p b hp=>⟨_,hp,nN _,rfl⟩⟩
     have hs:∀ w,(sizeOf e).run P w=.ok i.size w:=fun w=>by simp [sizeOf,typeInfo,hi]
     have hn':¬ m * i.size > 2 ^ 24:=by omega
     have hq:(qs.map fun (p:Nat × Operand)=>(p.1,ev σ p.2)).toList=qs.toList.map fun (p:Nat × Operand)=>(p.1,ev σ p.2):=by simp
     by_cases h0:m * i.size=0
     ·rw [h0] at hf
      simp only [List.range_zero,List.map_nil] at hf
      have hr0:(kD 0).map (fun x=>(#[]:Array Value)[x % (#[]:Array Value).size]!)=#[]:=by rw [show (kD 0)=#[] from rfl,Array.map_empty]
      have hn0:¬ (0:Nat) > 2 ^ 24:=by decide
      simp only [execOp,ho,Instr.buildSlice,Sem.run_bind,wBY d1,hs,Result.andThen_ok,h0,if_neg hn0,if_true,Sem.run_pure,hq,hr0,hf]
      simp [newRow,newObj,Sem.run,Result.andThen]
     ·have hzs:(kD (m * i.size)).map (zv.cells[· % zv.cells.size]!)=((nH (m * i.size)).map fun k=>zv.cells[k % zv.cells.size]!).toArray:=by rw [<- List.toArray_range,List.map_toArray]
      simp only [execOp,ho,Instr.buildSlice,Sem.run_bind,wBY d1,hs,wGL hi hz,Result.andThen_ok,if_neg hn',if_neg h0,Sem.run_pure,hq,hzs,hf]
      simp [newRow,newObj,Sem.run,Result.andThen]
    ·cases hr
   ·cases c5
  ·cases c3
 ·cases hc
theorem OkA.toE {op:Op} {f:Tr AV->AH->Option (AV × AH)} (hp:OkA C P op f):OkE C P op f:=by
 intro σA h v h' hr μ σ w hE S o ho
 obtain ⟨B,vf,rfl,rfl,_,_,hh⟩:=hp σA h v h' hr
 obtain ⟨ob,val,g1,g2,g3⟩:=hh μ σ hE o ho
 have hle:=Mu.add_le (c:=⟨w.heap.size,0,g0⟩) (S.nx h.nx (nN _))
 obtain ⟨h1,h2,h3,h4⟩:=S.push (w':=w.alloc ob) (c:=⟨w.heap.size,0,g0⟩) (B:=B) (wBB w _) (nN _) (by rw [wJQ];exact Nat.lt_succ_self _) (g2 _ _ _ hle (heap_alloc_new w _))
 exact ⟨_,_,_,h2,h1,g3 _ _ _ h4,h3,g1 w⟩
end
end
end Go.KX
