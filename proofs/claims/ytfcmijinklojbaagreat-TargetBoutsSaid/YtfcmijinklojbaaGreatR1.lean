import Derived.Test.YtfcmijinklojbaaGreatR0
import Derived.Lib.AppendZerosOnto
import Derived.Lib.AppendZeros
set_option linter.all false
open Bool renaming and_eq_true->hH,false_eq_true->nZ,eq_false_iff->nz,not_eq_true'->kA,or_eq_true->kK
open Nat renaming eq_of_beq_eq_true->nA,beq->nB,le_refl->nD,blt_eq->nK,le_of_ble_eq_true->nO,ble_eq->nQ,le_trans->nR,lt_of_lt_of_le->nY,mul_le_mul_right->nh,le_of_mul_le_mul_right->nj,lt_or_ge->nt,blt->nu,le_mul_of_pos_right->kE,min_eq_left->kH,add_mul->kM
open Option.some renaming injEq->nE
open List renaming getElem?_cons_zero->nG,map_cons->nH,mem_of_getElem?->nL,mem_cons->nM,getElem?_eq_some_iff->nN,replicate->nP,mem_append->nS,getElem?_append_left->nT,getElem?_of_mem->nU,flatMap->nX,eq_nil_of_length_eq_zero->na,mem_append_right->nc,mem_append_left->ng,getElem?_append_right->ni,length->nk,getElem?_eq_getElem->nl,append_assoc->np,getElem?_map->nr,length_append->ny,zipWith->kB,map_nil->kC,map_append->kG,getElem?_eq_none->kO,mem_cons_of_mem->kQ,map_eq_nil_iff->kS,mem_cons_self->kU,getElem?_take->kV,toArray_range->kW,size_toArray->kX,set->kZ,range->kh
open Array renaming ext'->nI,range->nW,getD_eq_getD_getElem?->nf,getElem?_replicate->kD,replicate->kL,getElem?_toList->kP,toList_append->kR,size_append->kY,toList_map->kc
open List.cons renaming injEq->nJ
open Int renaming ofNat_eq_natCast->nV,toNat_natCast->nq,negSucc_eq->nv,ofNat->kJ
open Go.Value renaming int->nw
open Option renaming getD_none->ke,getD_some->kf,map_some->kg
namespace Go.Proofs.YtfcmijinklojbaaGreat
open Go.KL
structure wAC where
 Skier:Int
 Lane:Int
deriving DecidableEq,Inhabited,Repr
structure wAB where
 Shots:List Int
 Down:List Int
 Across:List wAC
deriving DecidableEq,Inhabited,Repr
structure wAU where
 Skier:Int
 Lane:Int
deriving DecidableEq,Inhabited,Repr
structure wAE where
 Shots:List Int
 Down:List Int
 Across:List wAU
deriving DecidableEq,Inhabited,Repr
structure wAF where
 Bout:wAB
 may:List (wAC × Bool)
 hits:Arr Int 64
 used:Arr Int 8
 met:Arr Bool 16
def wAv (p0:wAB) (p1:Int):Option (Bool) :=
 if p1 < (↑p0.Shots.length:Int) then
  if (↑p0.Shots.length:Int) <= 8 then
   some true
  else
   if 12 < (↑p0.Shots.length:Int) then
    some true
   else
    if 12 < (↑p0.Down.length:Int) then
     some true
    else
     some (decide (70 < (↑p0.Across.length:Int)))
 else
  if 12 < (↑p0.Shots.length:Int) then
   some true
  else
   if 12 < (↑p0.Down.length:Int) then
    some true
   else
    some (decide (70 < (↑p0.Across.length:Int)))
def wAc:Option Bool:=some true
def wAb (p0:List Int):Option ((List Int)) :=
 (app 8 ([]:List Int) p0).bind fun x4 =>
 some x4
def wAf (p0:List wAC):Option ((List wAC)) :=
 (app 16 ([]:List wAC) p0).bind fun x4 =>
 some x4
def wBl (p0:wAB):Option (wAB) :=
 (wAb p0.Shots).bind fun x11 =>
 (wAb p0.Down).bind fun x25 =>
 (wAf p0.Across).bind fun x40 =>
 some (⟨x11,x25,x40⟩:wAB)
def wBC (p0:List (List Int)):Option ((List (List Int))) :=
 (wEk 0 (↑p0.length:Int) (fun k24 l18 =>
  (idx p0 (↑k24:Int)).bind fun x50 =>
  (wAb x50).bind fun x63 =>
  (app 24 l18 [x63]).bind fun x88 =>
  some x88) []).bind fun y29 =>
 some y29
def wBu (p0:wAB):Option (wAE) :=
 (wEk 0 (↑p0.Across.length:Int) (fun k33 l29 =>
  (idx p0.Across (↑k33:Int)).bind fun x57 =>
  (app 16 l29 [(⟨x57.Skier,x57.Lane⟩:wAU)]).bind fun x77 =>
  some x77) []).bind fun y38 =>
 some (⟨p0.Shots,p0.Down,y38⟩:wAE)
def wAL (p0:Int) (p1:Int) (p2:Int):Option (Bool) :=
 if p0 < p1 then
  some true
 else
  some (decide (p2 < p0))
def wAk (p0:wAE):Option (Int) :=
 if (↑p0.Shots.length:Int) < 1 then
  some 2
 else
  if 8 < (↑p0.Shots.length:Int) then
   some 2
  else
   if (↑p0.Down.length:Int)=(↑p0.Shots.length:Int) then
    jn (wDu 0 (↑p0.Shots.length:Int) (fun k14 _ =>
     (idx p0.Shots (↑k14:Int)).bind fun x33 =>
     (wAL x33 0 8).bind fun x41 =>
     if x41=true then
      esc (some 3)
     else
      (idx p0.Down (↑k14:Int)).bind fun x57 =>
      (wAL x57 0 5).bind fun x66 =>
      if x66=true then
       esc (some 3)
      else
       some (.inl ())) ()) fun _ =>
    iter (fun x96 =>
     if x96 < (↑p0.Across.length:Int) then
      (idx p0.Across x96).bind fun x112 =>
      (wAL x112.Skier 0 (w64 ((↑p0.Shots.length:Int) - 1))).bind fun x128 =>
      if x128=true then
       esc (some 1)
      else
       (wAL x112.Lane 0 (w64 ((↑p0.Shots.length:Int) - 1))).bind fun x144 =>
       if x144=true then
        esc (some 1)
       else
        if x112.Skier=x112.Lane then
         esc (some 1)
        else
         some (.inl (w64 (x96 + 1)))
     else
      esc (iter (fun x174 =>
       if x174 < (↑p0.Across.length:Int) then
        (idx p0.Across x174).bind fun x191 =>
        (idx p0.Across (w64 (x174 - 1))).bind fun x205 =>
        if (w64 ((w64 (100 * x191.Skier)) + x191.Lane)) <= (w64 ((w64 (100 * x205.Skier)) + x205.Lane)) then
         esc (some 4)
        else
         some (.inl (w64 (x174 + 1)))
       else
        esc (some 0)) big 1)) big 0
   else
    some 2
def wBD (p0:Int) (p1:Int) (p2:Int):Option (Bool) :=
 if p1 <= p0 then
  some (decide (p0 <= p2))
 else
  some false
def wBg (p0:Int) (p1:(Int->Option Bool)):Option (Bool) :=
 (p1 p0).bind fun x1 =>
 some (!x1)
def wAt (p0:List Int) (p1:(Int->Option Bool)):Option (Int) :=
 jn (wDu 0 (↑p0.length:Int) (fun k2 _ =>
  (idx p0 (↑k2:Int)).bind fun x22 =>
  (p1 x22).bind fun x30 =>
  if x30=true then
   esc (some (↑k2:Int))
  else
   some (.inl ())) ()) fun _ =>
 some (-1)
def wAR (p0:List Int) (p1:(Int->Option Bool)):Option (Bool) :=
 (wAt p0 p1).bind fun x1 =>
 some (decide (0 <= x1))
def wAd (p0:List Int) (p1:(Int->Option Bool)):Option (Bool) :=
 (wAR p0 (fun x=>wBg x p1)).bind fun x13 =>
 some (!x13)
def wBF (p0:Int):Option (Bool) :=
 (wBD p0 0 8).bind fun x1 =>
 some x1
def wBG (p0:Int):Option (Bool) :=
 (wBD p0 0 5).bind fun x1 =>
 some x1
def wBH (p0:wAC) (p1:Int):Option (Bool) :=
 (wBD p0.Skier 0 (w64 (p1 - 1))).bind fun x5 =>
 if x5=true then
  (wBD p0.Lane 0 (w64 (p1 - 1))).bind fun x18 =>
  if x18=true then
   some (decide (¬ (p0.Skier=p0.Lane)))
  else
   some false
 else
  some false
def wAh (p0:wAC) (p1:(wAC->Option Bool)):Option (Bool) :=
 (p1 p0).bind fun x5 =>
 some (!x5)
def wAT (p0:List wAC) (p1:(wAC->Option Bool)):Option (Int) :=
 jn (wDu 0 (↑p0.length:Int) (fun k2 _ =>
  (idx p0 (↑k2:Int)).bind fun x22 =>
  (p1 x22).bind fun x30 =>
  if x30=true then
   esc (some (↑k2:Int))
  else
   some (.inl ())) ()) fun _ =>
 some (-1)
def wAP (p0:List wAC) (p1:(wAC->Option Bool)):Option (Bool) :=
 (wAT p0 p1).bind fun x1 =>
 some (decide (0 <= x1))
def wBM (p0:List wAC) (p1:(wAC->Option Bool)):Option (Bool) :=
 (wAP p0 (fun x=>wAh x p1)).bind fun x13 =>
 some (!x13)
def wCB (p0:wAC) (p1:wAC):Option (Bool) :=
 if p0.Skier < p1.Skier then
  some true
 else
  if p0.Skier=p1.Skier then
   some (decide (p0.Lane < p1.Lane))
  else
   some false
def wBs (p0:wAB):Option (Int) :=
 (wBD (↑p0.Shots.length:Int) 1 8).bind fun x12 =>
 if x12=true then
  if (↑p0.Down.length:Int)=(↑p0.Shots.length:Int) then
   (wAd p0.Shots wBF).bind fun x28 =>
   if x28=true then
    (wAd p0.Down wBG).bind fun x43 =>
    if x43=true then
     (wBM p0.Across (fun x=>wBH x (↑p0.Shots.length:Int))).bind fun x65 =>
     if x65=true then
      iter (fun x80 =>
       if x80 < (↑p0.Across.length:Int) then
        (idx p0.Across (w64 (x80 - 1))).bind fun x97 =>
        (idx p0.Across x80).bind fun x106 =>
        (wCB x97 x106).bind fun x113 =>
        if x113=true then
         some (.inl (w64 (x80 + 1)))
        else
         esc (some 4)
       else
        esc (some 0)) big 1
     else
      some 1
    else
     some 3
   else
    some 3
  else
   some 2
 else
  some 2
def wCX (p0:wAB):Option (wAF) :=
 (wEk 0 (↑p0.Shots.length:Int) (fun k28 l25 =>
  some (mput l25 (⟨(↑k28:Int),(↑k28:Int)⟩:wAC) true)) ([]:List (wAC × Bool))).bind fun y33 =>
 (wEk 0 (↑p0.Across.length:Int) (fun k90 l87 =>
  (idx p0.Across (↑k90:Int)).bind fun x112 =>
  some (mput l87 x112 true)) y33).bind fun y95 =>
 some (⟨p0,y95,(⟨[0,0,0,0,0,0,0,0,0,0,0,0,0,0,0,0,0,0,0,0,0,0,0,0,0,0,0,0,0,0,0,0,0,0,0,0,0,0,0,0,0,0,0,0,0,0,0,0,0,0,0,0,0,0,0,0,0,0,0,0,0,0,0,0],rfl⟩:Arr Int 64),(⟨[0,0,0,0,0,0,0,0],rfl⟩:Arr Int 8),(⟨[false,false,false,false,false,false,false,false,false,false,false,false,false,false,false,false],rfl⟩:Arr Bool 16)⟩:wAF)
def wBQ (p0:wAB):Option ((Option wAF) × Int) :=
 (wBs p0).bind fun x5 =>
 if x5=0 then
  (wCX p0).bind fun x20 =>
  some ((some x20),0)
 else
  some (none,x5)
def wBE (p0:List Int) (p1:Int):Option (Bool) :=
 some (decide ((↑p0.length:Int)=p1))
def wBN (p0:List Int) (p1:((List Int)->Option Bool)):Option (Bool) :=
 (p1 p0).bind fun x1 =>
 some (!x1)
def wAy (p0:List (List Int)) (p1:((List Int)->Option Bool)):Option (Int) :=
 jn (wDu 0 (↑p0.length:Int) (fun k2 _ =>
  (idx p0 (↑k2:Int)).bind fun x22 =>
  (p1 x22).bind fun x35 =>
  if x35=true then
   esc (some (↑k2:Int))
  else
   some (.inl ())) ()) fun _ =>
 some (-1)
def wAq (p0:List (List Int)) (p1:((List Int)->Option Bool)):Option (Bool) :=
 (wAy p0 p1).bind fun x1 =>
 some (decide (0 <= x1))
def wBa (p0:List (List Int)) (p1:((List Int)->Option Bool)):Option (Bool) :=
 (wAq p0 (fun x=>wBN x p1)).bind fun x13 =>
 some (!x13)
def wAW (p0:List Int):Option ((List Int)) :=
 (app 8 ([]:List Int) p0).bind fun x11 =>
 some x11
def wAj (p0:wAF) (p1:Int) (p2:Int):Option (Bool) :=
 some (wEP p0.may (⟨p1,p2⟩:wAC) false)
def wCE (p0:wAF) (p1:Int) (p2:Int):Option (Bool) :=
 some (wEP p0.may (⟨p1,p2⟩:wAC) false)
def wBR (p0:Int):Option (Bool) :=
 some (decide (0 <= p0))
def wBS (p0:Int):Option (Bool) :=
 some (decide (p0=0))
def wBc (p0:wAB) (p1:List (List Int)):Option (Bool × Int) :=
 (wBQ p0).bind fun (x5,x6) =>
 match x5 with
 | none =>
  if x6=0 then
   if (↑p1.length:Int)=(↑p0.Shots.length:Int) then
    (wBa p1 (fun x=>wBE x (↑p0.Shots.length:Int))).bind fun x47 =>
    if x47=true then
     (wAW p0.Shots).bind fun x64 =>
     (wAW p0.Down).bind fun x81 =>
     jn (wDu 0 (↑p1.length:Int) (fun k104 (l102,l103) =>
      (idx p1 (↑k104:Int)).bind fun x128 =>
      jn (wDu 0 (↑x128.length:Int) (fun k154 (l152,l153) =>
       (idx x128 (↑k154:Int)).bind fun x182 =>
       if x182 < 0 then
        esc (esc (some (false,0)))
       else
        if 5 < x182 then
         esc (esc (some (false,0)))
        else
         if 0 < x182 then
          none
         else
          (chk (↑k104:Int) l152.length).bind fun _ =>
          (chk (↑k154:Int) l153.length).bind fun _ =>
          some (.inl ((kZ l152 k104 (w64 ((gd l152 k104) - x182))),(kZ l153 k154 (w64 ((gd l153 k154) - x182)))))) (l102,l103)) fun (y237,y238) =>
      some (.inl (y237,y238))) (x64,x81)) fun (y261,y262) =>
     (wAd y261 wBR).bind fun x281 =>
     if x281=true then
      (wAd y262 wBS).bind fun x299 =>
      some (x299,0)
     else
      some (false,0)
    else
     some (false,2)
   else
    some (false,2)
  else
   some (false,x6)
 | some x26 =>
  if x6=0 then
   if (↑p1.length:Int)=(↑p0.Shots.length:Int) then
    (wBa p1 (fun x=>wBE x (↑p0.Shots.length:Int))).bind fun x339 =>
    if x339=true then
     (wAW p0.Shots).bind fun x356 =>
     (wAW p0.Down).bind fun x373 =>
     jn (wDu 0 (↑p1.length:Int) (fun k396 (l394,l395) =>
      (idx p1 (↑k396:Int)).bind fun x420 =>
      jn (wDu 0 (↑x420.length:Int) (fun k446 (l444,l445) =>
       (idx x420 (↑k446:Int)).bind fun x474 =>
       (if x474 < 0 then
        some true
       else
        if 5 < x474 then
         some true
        else
         if 0 < x474 then
          (wAj x26 (↑k396:Int) (↑k446:Int)).bind fun x514 =>
          some (!x514)
         else
          some false).bind fun b482 =>
       if b482=true then
        esc (esc (some (false,0)))
       else
        (chk (↑k396:Int) l444.length).bind fun _ =>
        (chk (↑k446:Int) l445.length).bind fun _ =>
        some (.inl ((kZ l444 k396 (w64 ((gd l444 k396) - x474))),(kZ l445 k446 (w64 ((gd l445 k446) - x474)))))) (l394,l395)) fun (y580,y581) =>
      some (.inl (y580,y581))) (x356,x373)) fun (y604,y605) =>
     (wAd y604 wBR).bind fun x624 =>
     if x624=true then
      (wAd y605 wBS).bind fun x642 =>
      some (x642,0)
     else
      some (false,0)
    else
     some (false,2)
   else
    some (false,2)
  else
   some (false,x6)
def wAz (p0:wAE) (p1:Int) (p2:Int):Option (Bool) :=
 iter (fun x8 =>
  if x8 < (↑p0.Across.length:Int) then
   (idx p0.Across x8).bind fun x25 =>
   if x25=(⟨p1,p2⟩:wAU) then
    esc (some true)
   else
    some (.inl (w64 (x8 + 1)))
  else
   esc (some (decide (p1=p2)))) big 0
def wAV (p0:wAE) (p1:List (List Int)):Option (Bool × Int) :=
 (wAk p0).bind fun x5 =>
 if x5=0 then
  if (↑p1.length:Int)=(↑p0.Shots.length:Int) then
   jn (wDu 0 (↑p0.Shots.length:Int) (fun k20 _ =>
    (idx p1 (↑k20:Int)).bind fun x40 =>
    if (↑x40.length:Int)=(↑p0.Shots.length:Int) then
     some (.inl ())
    else
     esc (some (false,2))) ()) fun _ =>
   jn (wDu 0 (↑p0.Shots.length:Int) (fun k73 _ =>
    jn (wDu 0 (↑p0.Shots.length:Int) (fun k103 (x101,x102) =>
     ((idx p1 (↑k73:Int)).bind fun x130 =>
     (idx x130 (↑k103:Int)).bind fun x146 =>
     (wAL x146 0 5).bind fun x153 =>
     if x153=true then
      some true
     else
      (idx p1 (↑k103:Int)).bind fun x167 =>
      (idx x167 (↑k73:Int)).bind fun x180 =>
      (wAL x180 0 5).bind fun x187 =>
      if x187=true then
       some true
      else
       if 0 < x146 then
        (wAz p0 (↑k73:Int) (↑k103:Int)).bind fun x235 =>
        some (!x235)
       else
        some false).bind fun b126 =>
     if b126=true then
      esc (esc (some (false,0)))
     else
      (idx p1 (↑k73:Int)).bind fun x270 =>
      (idx x270 (↑k103:Int)).bind fun x287 =>
      (idx p1 (↑k103:Int)).bind fun x294 =>
      (idx x294 (↑k73:Int)).bind fun x306 =>
      some (.inl (w64 (x101 + x287),w64 (x102 + x306)))) (0,0)) fun (y319,y320) =>
    (idx p0.Shots (↑k73:Int)).bind fun x332 =>
    if x332 < y319 then
     esc (some (false,0))
    else
     (idx p0.Down (↑k73:Int)).bind fun x349 =>
     if y320=x349 then
      some (.inl ())
     else
      esc (some (false,0))) ()) fun _ =>
   some (true,0)
  else
   some (false,2)
 else
  some (false,x5)
def wAl (p0:Int) (p1:wAF):Option (Bool) :=
 (wBD p0 0 (w64 ((↑p1.Bout.Down.length:Int) - 1))).bind fun x1 =>
 some x1
def wBm (p0:wAF) (p1:List Int):Option (Int) :=
 (wAd p1 (fun x=>wAl x p0)).bind fun x40 =>
 if x40=true then
  jn (wDu 1 (↑p1.length:Int) (fun k61 _ =>
   (idx p1 (1 + ↑k61:Int)).bind fun x81 =>
   (idx p1 (w64 ((1 + ↑k61:Int) - 1))).bind fun x91 =>
   if x81 <= x91 then
    esc (some 4)
   else
    some (.inl ())) ()) fun _ =>
  some 0
 else
  some 1
def wAw (p0:Int) (p1:wAF) (p2:Int):Option (Bool) :=
 (wCE p1 p2 p0).bind fun x1 =>
 some x1
def wCC (p0:wAF) (p1:Int) (p2:List Int):Option (Bool) :=
 (wAR p2 (fun x=>wAw x p0 p1)).bind fun x56 =>
 some x56
def wBf (p0:wAF) (p1:List Int) (p2:Int):Option (Int) :=
 (wEk 0 (↑p1.length:Int) (fun k9 x8 =>
  (idx p1 (↑k9:Int)).bind fun x33 =>
  (idx p0.Bout.Down x33).bind fun x41 =>
  some (w64 (x8 + x41))) 0).bind fun y14 =>
 (wEk 0 (↑p0.Bout.Shots.length:Int) (fun k71 x70 =>
  (idx p0.Bout.Shots (↑k71:Int)).bind fun x95 =>
  if (↑k71:Int)=p2 then
   some x70
  else
   (wCC p0 (↑k71:Int) p1).bind fun x114 =>
   if x114=true then
    some (w64 (x70 - x95))
   else
    some x70) y14).bind fun y76 =>
 some y76
def wBv (p0:wAB) (p1:List Int):Option (Int × Int) :=
 (wBQ p0).bind fun (x5,x6) =>
 match x5 with
 | none =>
  if x6=0 then
   none
  else
   some (0,x6)
 | some x26 =>
  if x6=0 then
   (wBm x26 p1).bind fun x41 =>
   if x41=0 then
    (wBf x26 p1 (-1)).bind fun x57 =>
    if x57 <= 0 then
     some (0,8)
    else
     some (x57,0)
   else
    some (0,x41)
  else
   some (0,x6)
def wBn (p0:wAE) (p1:List Int):Option (Int × Int) :=
 jn (wDu 0 (↑p1.length:Int) (fun k6 _ =>
  (idx p1 (↑k6:Int)).bind fun x27 =>
  (wAL x27 0 (w64 ((↑p0.Down.length:Int) - 1))).bind fun x35 =>
  if x35=true then
   esc (some (0,1))
  else
   some (.inl ())) ()) fun _ =>
 jn (wDu 0 (↑p1.length:Int) (fun k68 x67 =>
  (if 0 < (↑k68:Int) then
   (idx p1 (↑k68:Int)).bind fun x95 =>
   (idx p1 (w64 ((↑k68:Int) - 1))).bind fun x104 =>
   some (decide (x95 <= x104))
  else
   some false).bind fun b87 =>
  if b87=true then
   esc (some (0,4))
  else
   iter (fun (x135,x136) =>
    (idx p1 (↑k68:Int)).bind fun x152 =>
    if x136 < x152 then
     some (.inl (w64 (2 * x135),w64 (x136 + 1)))
    else
     esc (some (.inl (w64 (x67 + x135))))) big (1,0)) 0) fun y176 =>
 some (y176,0)
def wBA (p0:Int) (p1:Int):Option (Bool) :=
 (wEk 0 p1 (fun k7 x6 =>
  (quo x6 2).bind fun x27 =>
  some x27) p0).bind fun y12 =>
 (rem y12 2).bind fun x42 =>
 some (decide (x42=1))
def wBB (p0:wAE) (p1:Int) (p2:Int) (p3:Int) (p4:Int):Option (Int) :=
 iter (fun (x11,x12) =>
  if x12 < (↑p0.Shots.length:Int) then
   ((wBA p1 x12).bind fun x36 =>
   if x36=true then
    (idx p0.Down x12).bind fun x48 =>
    iter (fun (b63,x64) =>
     if x64 < (↑p0.Down.length:Int) then
      (if b63=true then
       some true
      else
       (wBA p1 x64).bind fun x94 =>
       if x94=true then
        (wAz p0 x12 x64).bind fun x116 =>
        if x116=true then
         if x12=p3 then
          some (decide (¬ (x64=p4)))
         else
          some true
        else
         some false
       else
        some false).bind fun b86 =>
      some (.inl (b86,w64 (x64 + 1)))
     else
      esc (if b63=true then
       if x12=p2 then
        some (w64 (x11 + x48))
       else
        (idx p0.Shots x12).bind fun x163 =>
        some (w64 ((w64 (x11 + x48)) - x163))
      else
       some (w64 (x11 + x48)))) big (false,0)
   else
    iter (fun (b183,x184) =>
     if x184 < (↑p0.Down.length:Int) then
      (if b183=true then
       some true
      else
       (wBA p1 x184).bind fun x214 =>
       if x214=true then
        (wAz p0 x12 x184).bind fun x238 =>
        if x238=true then
         if x12=p3 then
          some (decide (¬ (x184=p4)))
         else
          some true
        else
         some false
       else
        some false).bind fun b206 =>
      some (.inl (b206,w64 (x184 + 1)))
     else
      esc (if b183=true then
       if x12=p2 then
        some x11
       else
        (idx p0.Shots x12).bind fun x285 =>
        some (w64 (x11 - x285))
      else
       some x11)) big (false,0)).bind fun x32 =>
   some (.inl (x32,w64 (x12 + 1)))
  else
   esc (some x11)) big (0,0)
def wAX (p0:wAE) (p1:List Int):Option (Int × Int) :=
 (wAk p0).bind fun x5 =>
 if x5=0 then
  (wBn p0 p1).bind fun (x21,x22) =>
  if x22=0 then
   (wBB p0 x21 (-1) (-1) (-1)).bind fun x37 =>
   if x37 < 1 then
    some (0,8)
   else
    some (x37,0)
  else
   some (0,x22)
 else
  some (0,x5)
def wAr {S E:Type} (f:S->Int->Option (S ⊕ E)) (s0:S) (p1:wAF) (p2:Unit) (p3:Int):Option (S ⊕ E) :=
 jn (wDu 0 (↑p1.Bout.Down.length:Int) (fun k19 s17 =>
  (wAj p1 p3 (↑k19:Int)).bind fun x55 =>
  if x55=true then
   (f s17 (↑k19:Int)).bind fun yr64 =>
   match yr64 with
   | .inl s74 =>
    some (.inl s74)
   | .inr s74 =>
    esc (some (.inr s74))
  else
   some (.inl s17)) s0) fun y91 =>
 some (.inl y91)
def wBw (p0:Unit) (p1:Int):Option (Unit) :=
 some ()
def wBT (rec_:Int->wAF->Unit->Option (Bool × (Arr Int 64 × Arr Int 8 × Arr Bool 16))) (p0:Int) (p1:wAF) (p2:Unit):Option (Bool × (Arr Int 64 × Arr Int 8 × Arr Bool 16)) :=
 (chk p0 8).bind fun _ =>
 jn (wDu 0 (↑p1.Bout.Shots.length:Int) (fun k39 (a36,a37,a38) =>
  (chk (↑k39:Int) 8).bind fun _ =>
  if (a38.get k39)=true then
   some (.inl (a36,a37,a38))
  else
   (wAj (⟨p1.Bout,p1.may,a36,a37,a38⟩:wAF) (↑k39:Int) p0).bind fun x84 =>
   if x84=true then
    (idx p1.Bout.Shots (↑k39:Int)).bind fun x107 =>
    if (a37.get k39) < x107 then
     esc (some (true,((a36.set (k39 * 8 + p0.toNat) (w64 ((a36.get (k39 * 8 + p0.toNat)) + 1))),(a37.set k39 (w64 ((a37.get k39) + 1))),(a38.set k39 true))))
    else
     (wBw () (↑k39:Int)).bind fun _ =>
     (wAr (S:=(Arr Int 64) × (Arr Int 8) × (Arr Bool 16)) (E:=(Arr Int 64) × (Arr Int 8) × (Arr Bool 16) × Bool) (fun (a303,a304,a305) x332 =>
      if x332=p0 then
       some (.inl (a303,a304,a305))
      else
       (chk x332 8).bind fun _ =>
       if 0 < (a303.get (k39 * 8 + x332.toNat)) then
        (rec_ x332 (⟨p1.Bout,p1.may,a303,a304,a305⟩:wAF) ()).bind fun (x383,x384) =>
        if x383=true then
         some (.inr (((x384.1.set (k39 * 8 + x332.toNat) (w64 ((x384.1.get (k39 * 8 + x332.toNat)) - 1))).set (k39 * 8 + p0.toNat) (w64 (((x384.1.set (k39 * 8 + x332.toNat) (w64 ((x384.1.get (k39 * 8 + x332.toNat)) - 1))).get (k39 * 8 + p0.toNat)) + 1))),x384.2.1,x384.2.2,true))
        else
         some (.inl (x384.1,x384.2.1,x384.2.2))
       else
        some (.inl (a303,a304,a305))) (a36,a37,(a38.set k39 true)) (⟨p1.Bout,p1.may,a36,a37,(a38.set k39 true)⟩:wAF) () (↑k39:Int)).bind fun rr321 =>
     match rr321 with
     | .inl (y439,y440,y441) =>
      some (.inl (y439,y440,y441))
     | .inr (y442,y443,y444,y445) =>
      esc (some (y445,(y442,y443,y444)))
   else
    some (.inl (a36,a37,a38))) (p1.hits,p1.used,(p1.met.set (8 + p0.toNat) true))) fun (y471,y472,y473) =>
 some (false,(y471,y472,y473))
def wAS:Nat->Int->wAF->Unit->Option (Bool × (Arr Int 64 × Arr Int 8 × Arr Bool 16))
 | 0=>fun _ _ _=>none
 | n_ + 1=>wBT (wAS n_)
def wAx (p0:wAF):Option ((List Int)) :=
 (wEk 0 (↑p0.Bout.Down.length:Int) (fun k20 l16 =>
  (chk (↑k20:Int) 8).bind fun _ =>
  if (p0.met.get (8 + k20))=true then
   (app 8 l16 [(↑k20:Int)]).bind fun x53 =>
   some x53
  else
   some l16) []).bind fun y25 =>
 some y25
def wBJ (p0:wAF):Option ((List Int) × (Arr Int 64 × Arr Int 8 × Arr Bool 16)) :=
 jn (wDu 0 (↑p0.Bout.Down.length:Int) (fun k39 (a36,a37,a38) =>
  (idx p0.Bout.Down (↑k39:Int)).bind fun x60 =>
  jn (wDu 0 x60 (fun k84 (a81,a82,a83) =>
   (wAS 1000 (↑k39:Int) (⟨p0.Bout,p0.may,a81,a82,(Arr.fill 16 false)⟩:wAF) ()).bind fun (x125,x126) =>
   if x125=true then
    some (.inl (x126.1,x126.2.1,x126.2.2))
   else
    (wAx (⟨p0.Bout,p0.may,x126.1,x126.2.1,x126.2.2⟩:wAF)).bind fun x146 =>
    esc (esc ((wMR x146).bind fun x165 =>
    some (x146,(x126.1,x126.2.1,x126.2.2))))) (a36,a37,a38)) fun (y172,y173,y174) =>
  some (.inl (y172,y173,y174))) (p0.hits,p0.used,p0.met)) fun (y194,y195,y196) =>
 some ([],(y194,y195,y196))
def wCY (p0:wAB):Option ((Option wAF) × Int) :=
 (wBQ p0).bind fun (x5,x6) =>
 match x5 with
 | none =>
  if x6=0 then
   none
  else
   some (none,x6)
 | some x26 =>
  if x6=0 then
   (wBJ x26).bind fun (x40,x41) =>
   if x40=[] then
    some ((some (⟨x26.Bout,x26.may,x41.1,x41.2.1,x41.2.2⟩:wAF)),x6)
   else
    some ((some (⟨x26.Bout,x26.may,x41.1,x41.2.1,x41.2.2⟩:wAF)),7)
  else
   some ((some x26),x6)
def wBx (p0:wAB):Option ((List (List Int)) × Int) :=
 (wCY p0).bind fun (x5,x6) =>
 match x5 with
 | none =>
  if x6=0 then
   none
  else
   some ([],x6)
 | some x26 =>
  if x6=0 then
   (wEk 0 (↑x26.Bout.Shots.length:Int) (fun k63 l58 =>
    (chk (↑k63:Int) 8).bind fun _ =>
    (cut (List.take 8 (List.drop (k63 * 8) x26.hits.l)) 0 (↑x26.Bout.Down.length:Int)).bind fun x91 =>
    (wAW x91).bind fun x105 =>
    (app 24 l58 [x105]).bind fun x133 =>
    some x133) []).bind fun y68 =>
   some (y68,0)
  else
   some ([],x6)
def wBy (p0:wAE):Option (Int) :=
 iter (fun (x11,x12) =>
  if x12 < (↑p0.Down.length:Int) then
   some (.inl (w64 (2 * x11),w64 (x12 + 1)))
  else
   esc (some x11)) big (1,0)
def wBU (p0:wAE) (p1:Int) (p2:Int):Option (Bool) :=
 iter (fun x8 =>
  (wBy p0).bind fun x26 =>
  if x8 < x26 then
   (wBB p0 x8 (-1) p1 p2).bind fun x41 =>
   if 0 < x41 then
    esc (some false)
   else
    some (.inl (w64 (x8 + 1)))
  else
   esc (some true)) big 0
def wAY (p0:wAE):Option (Int) :=
 (wAk p0).bind fun x5 =>
 if x5=0 then
  (wBU p0 (-1) (-1)).bind fun x20 =>
  if x20=true then
   some 0
  else
   some 7
 else
  some x5
def wBd (p0:wAB):Option ((List Int) × Int) :=
 (wBQ p0).bind fun (x5,x6) =>
 match x5 with
 | none =>
  if x6=0 then
   none
  else
   some ([],x6)
 | some x26 =>
  if x6=0 then
   (wBJ x26).bind fun (x42,x43) =>
   if x42=[] then
    some ([],6)
   else
    some (x42,0)
  else
   some ([],x6)
def wAQ (p0:List Int) (p1:List Int):Option (Bool) :=
 if (↑p0.length:Int)=(↑p1.length:Int) then
  jn (wDu 0 (↑p0.length:Int) (fun k4 _ =>
   (idx p0 (↑k4:Int)).bind fun x26 =>
   (idx p1 (↑k4:Int)).bind fun x34 =>
   if x26=x34 then
    some (.inl ())
   else
    esc (some false)) ()) fun _ =>
  some true
 else
  some false
def wAg (p0:List wAC) (p1:List wAC):Option (Bool) :=
 if (↑p0.length:Int)=(↑p1.length:Int) then
  jn (wDu 0 (↑p0.length:Int) (fun k4 _ =>
   (idx p0 (↑k4:Int)).bind fun x26 =>
   (idx p1 (↑k4:Int)).bind fun x34 =>
   if x26=x34 then
    some (.inl ())
   else
    esc (some false)) ()) fun _ =>
  some true
 else
  some false
def wBK (p0:wAB) (p1:wAB):Option (Bool) :=
 (wAQ p0.Shots p1.Shots).bind fun x9 =>
 if x9=true then
  (wAQ p0.Down p1.Down).bind fun x23 =>
  if x23=true then
   (wAg p0.Across p1.Across).bind fun x39 =>
   some x39
  else
   some false
 else
  some false
def wAa (p0:List (List Int)) (p1:List (List Int)):Option (Bool) :=
 if (↑p0.length:Int)=(↑p1.length:Int) then
  jn (wDu 0 (↑p0.length:Int) (fun k4 _ =>
   (idx p0 (↑k4:Int)).bind fun x26 =>
   (idx p1 (↑k4:Int)).bind fun x39 =>
   (wAQ x26 x39).bind fun x52 =>
   if x52=true then
    some (.inl ())
   else
    esc (some false)) ()) fun _ =>
  some true
 else
  some false
def wBX (p0:wAB) (p1:List (List Int)) (p2:List Int):Option (Bool) :=
 (wAv p0 8).bind fun x5 =>
 if x5=true then
  (wAc).bind fun x17 =>
  some x17
 else
  if 12 < (↑p1.length:Int) then
   (wAc).bind fun x30 =>
   some x30
  else
   if 12 < (↑p2.length:Int) then
    (wAc).bind fun x43 =>
    some x43
   else
    jn (wDu 0 (↑p1.length:Int) (fun k55 _ =>
     (idx p1 (↑k55:Int)).bind fun x77 =>
     if 12 < (↑x77.length:Int) then
      (wAc).bind fun x93 =>
      esc (some x93)
     else
      some (.inl ())) ()) fun _ =>
    ((wBl p0).bind fun x354 =>
    (wBC p1).bind fun x376 =>
    (wAb p2).bind fun x401 =>
    (wBu p0).bind fun x426 =>
    some (x354.Shots,x354.Down,x354.Across,x376,x401,x426.Shots,x426.Down,x426.Across)).bind fun (l123,l126,l129,l132,l135,l140,l143,l146) =>
    (wAk (⟨l140,l143,l146⟩:wAE)).bind fun x2623 =>
    (wBs (⟨l123,l126,l129⟩:wAB)).bind fun x2651 =>
    if x2651=x2623 then
     (wBc (⟨l123,l126,l129⟩:wAB) l132).bind fun (x2672,x2673) =>
     (wAV (⟨l140,l143,l146⟩:wAE) p1).bind fun (x2711,x2712) =>
     if (x2672 == x2711)=true then
      if x2673=x2712 then
       (wBv (⟨l123,l126,l129⟩:wAB) l135).bind fun (x2740,x2741) =>
       (wAX (⟨l140,l143,l146⟩:wAE) p2).bind fun (x2785,x2786) =>
       if x2740=x2785 then
        if x2741=x2786 then
         (wBx (⟨l123,l126,l129⟩:wAB)).bind fun (x2806,x2807) =>
         (wAY (⟨l140,l143,l146⟩:wAE)).bind fun x2828 =>
         (if x2807=x2828 then
          if x2807=0 then
           some false
          else
           some (decide (0 < (↑x2806.length:Int)))
         else
          some true).bind fun b2838 =>
         if b2838=true then
          some false
         else
          if x2807=0 then
           (wAV (⟨l140,l143,l146⟩:wAE) x2806).bind fun (x2888,x2889) =>
           if x2889=0 then
            if x2888=true then
             (wBd (⟨l123,l126,l129⟩:wAB)).bind fun (x2918,x2919) =>
             jn (if x2828=0 then
              if x2919=6 then
               if 0 < (↑x2918.length:Int) then
                esc (some false)
               else
                some (.inl ())
              else
               esc (some false)
             else
              if x2828=7 then
               (wAX (⟨l140,l143,l146⟩:wAE) x2918).bind fun (x2965,x2966) =>
               if x2919=0 then
                if x2966=0 then
                 if x2965 < 1 then
                  esc (some false)
                 else
                  some (.inl ())
                else
                 esc (some false)
               else
                esc (some false)
              else
               if x2919=x2828 then
                if 0 < (↑x2918.length:Int) then
                 esc (some false)
                else
                 some (.inl ())
               else
                esc (some false)) fun _ =>
             (wBK (⟨l123,l126,l129⟩:wAB) p0).bind fun x3100 =>
             if x3100=true then
              (wAa l132 p1).bind fun x3137 =>
              if x3137=true then
               (wAQ l135 p2).bind fun x3170 =>
               if x3170=true then
                (wAc).bind fun x3182 =>
                some x3182
               else
                some false
              else
               some false
             else
              some false
            else
             some false
           else
            some false
          else
           (wBd (⟨l123,l126,l129⟩:wAB)).bind fun (x3207,x3208) =>
           jn (if x2828=0 then
            if x3208=6 then
             if 0 < (↑x3207.length:Int) then
              esc (some false)
             else
              some (.inl ())
            else
             esc (some false)
           else
            if x2828=7 then
             (wAX (⟨l140,l143,l146⟩:wAE) x3207).bind fun (x3257,x3258) =>
             if x3208=0 then
              if x3258=0 then
               if x3257 < 1 then
                esc (some false)
               else
                some (.inl ())
              else
               esc (some false)
             else
              esc (some false)
            else
             if x3208=x2828 then
              if 0 < (↑x3207.length:Int) then
               esc (some false)
              else
               some (.inl ())
             else
              esc (some false)) fun _ =>
           (wBK (⟨l123,l126,l129⟩:wAB) p0).bind fun x3375 =>
           if x3375=true then
            (wAa l132 p1).bind fun x3408 =>
            if x3408=true then
             (wAQ l135 p2).bind fun x3437 =>
             if x3437=true then
              (wAc).bind fun x3449 =>
              some x3449
             else
              some false
            else
             some false
           else
            some false
        else
         some false
       else
        some false
      else
       some false
     else
      some false
    else
     some false
end Go.Proofs.YtfcmijinklojbaaGreat
namespace Go.KL
open Go.RowKit
section
variable {B:Base} {U U':PHeap} {L:List Res} {w w':World}
theorem Res.At.agree {w2:World} {r:Res} (h:r.At w) (he:∀ b,r.has b->w2.heap[b]?=w.heap[b]?):r.At w2:=by
 cases r with
 | blk b T cs=>exact (he b rfl).trans h
 | obj b o=>exact (he b rfl).trans h
 | abs fp P=>exact ⟨h.2.2 w2 he,fun b hb=>wAM ((he b hb).trans (Array.getElem?_eq_getElem (h.2.1 b hb))),fun w3 h3=>h.2.2 w3 fun b hb=>(h3 b hb).trans (he b hb)⟩
 | row A c T sz cs =>
  rcases h with h | ⟨b,cur,rfl,h1,h2⟩
  ·exact .inl h
  ·exact .inr ⟨b,cur,rfl,(he b rfl).trans h1,h2⟩
def DjL (rs:List Res):Prop:=∀ (i j:Nat) (r s:Res) (b:Nat),rs[i]?=some r->rs[j]?=some s->r.has b->s.has b->i=j
def pack (p:Prop) (rs:List Res):Res:=.abs (fun b=>∃ r ∈ rs,r.has b) (fun w=>p/\(∀ r ∈ rs,r.At w)/\DjL rs)
theorem wPh {p:Prop} {rs:List Res} (hp:p) (ha:∀ r ∈ rs,r.At w) (hd:DjL rs):(pack p rs).At w :=
 ⟨⟨hp,ha,hd⟩,fun b ⟨r,hr,hb⟩=>(ha r hr).lt hb,fun w2 h2=>⟨hp,fun r hr=>(ha r hr).agree fun b hb=>h2 b ⟨r,hr,hb⟩,hd⟩⟩
theorem wMT {α:Type} {X Y:List α} {i:Nat} {r:α} (h:(X ++ Y)[i]?=some r):X[i]?=some r \/ (X.length <= i/\Y[i - X.length]?=some r):=by
 rcases nt i X.length with h1 | h1
 ·rw [nT h1] at h;exact .inl h
 ·rw [ni h1] at h;exact .inr ⟨h1,h⟩
theorem St.unpack {p:Prop} {rs:List Res} (h:St B U (pack p rs :: L) w):p/\St B U (rs ++ L) w:=by
 obtain ⟨⟨hp,ha,hd⟩,_⟩:=h.at_ _ (kU ..)
 have ho:=h.own _ (kU ..)
 refine ⟨hp,h.os,h.tape,h.output,h.size,h.old,h.fro,h.le,h.src,fun r hr=>?_,fun r hr b hb=>?_,fun i j r s b hi hj hr hs=>?_⟩
 ·rcases nS.1 hr with hr | hr
  ·exact ha r hr
  ·exact h.at_ r (kQ _ hr)
 ·rcases nS.1 hr with hr | hr
  ·exact ho b ⟨r,hr,hb⟩
  ·exact h.own r (kQ _ hr) b hb
 ·rcases wMT hi with hi | ⟨h1,hi⟩ <;> rcases wMT hj with hj | ⟨h2,hj⟩
  ·exact hd i j r s b hi hj hr hs
  ·have:=h.dj 0 (j - rs.length + 1) _ s b rfl (by simpa using hj) ⟨r,nL hi,hr⟩ hs;omega
  ·have:=h.dj (i - rs.length + 1) 0 r _ b (by simpa using hi) rfl hr ⟨s,nL hj,hs⟩;omega
  ·have:=h.dj (i - rs.length + 1) (j - rs.length + 1) r s b (by simpa using hi) (by simpa using hj) hr hs;omega
theorem St.pack {p:Prop} {rs:List Res} (hp:p) (h:St B U (rs ++ L) w):St B U (pack p rs :: L) w:=by
 refine ⟨h.os,h.tape,h.output,h.size,h.old,h.fro,h.le,h.src,fun r hr=>?_,fun r hr b hb=>?_,fun i j r s b hi hj hr hs=>?_⟩
 ·rcases nM.1 hr with rfl | hr
  ·refine wPh hp (fun r hr=>h.at_ r (ng _ hr)) fun i j r s b hi hj hr hs=>?_
   exact h.dj i j r s b (by rw [nT (nN.1 hi).1];exact hi) (by rw [nT (nN.1 hj).1];exact hj) hr hs
  ·exact h.at_ r (nc _ hr)
 ·rcases nM.1 hr with rfl | hr
  ·obtain ⟨r,hr,hb⟩:=hb
   exact h.own r (ng _ hr) b hb
  ·exact h.own r (nc _ hr) b hb
 ·have up:∀ (q:Nat) (t:Res),L[q]?=some t->(rs ++ L)[rs.length + q]?=some t:=fun q t hq=>by rw [ni (by omega)];simpa using hq
  have lo:∀ (q:Nat) (t:Res),rs[q]?=some t->(rs ++ L)[q]?=some t:=fun q t hq=>by rw [nT (nN.1 hq).1];exact hq
  cases i with
  | zero =>
   simp only [nG,nE] at hi;subst hi
   cases j with
   | zero=>rfl
   | succ j =>
    obtain ⟨r,hr,hb⟩:=hr
    obtain ⟨q,hq⟩:=nU hr
    have:=h.dj q (rs.length + j) r s b (lo q r hq) (up j s (by simpa using hj)) hb hs
    have:=(nN.1 hq).1;omega
  | succ i =>
   cases j with
   | zero =>
    simp only [nG,nE] at hj;subst hj
    obtain ⟨s,hs,hb⟩:=hs
    obtain ⟨q,hq⟩:=nU hs
    have:=h.dj (rs.length + i) q r s b (up i r (by simpa using hi)) (lo q s hq) hr hb
    have:=(nN.1 hq).1;omega
   | succ j =>
    have:=h.dj (rs.length + i) (rs.length + j) r s b (up i r (by simpa using hi)) (up j s (by simpa using hj)) hr hs;omega
structure Hd where
 A:Option Addr
 n:Nat
 c:Nat
instance:Inhabited Hd:=⟨⟨none,0,0⟩⟩
def wFr (h:Hd):List Value:=[.slice h.A h.n h.c]
variable {α:Type} {T sz:Nat} {enc:α->List Value} {hs hs2:List Hd} {m m2:List (List α)}
def inR (T sz:Nat) (enc:α->List Value) (h:Hd) (l:List α):Res:=.row h.A h.c T sz (nX enc l)
def Fit (hs:List Hd) (m:List (List α)):Prop:=hs.map (·.n)=m.map nk
def inn (T sz:Nat) (enc:α->List Value) (hs:List Hd) (m:List (List α)):Res:=pack (Fit hs m) (kB (inR T sz enc) hs m)
theorem Fit.len (h:Fit hs m):hs.length=m.length:=by simpa using congrArg nk h
theorem St.innFit {j:Nat} (h:St B U L w) (hk:L[j]?=some (inn T sz enc hs m)):Fit hs m:=(h.at_ _ (nL hk)).1.1
theorem St.innNil (T sz:Nat) (enc:α->List Value) (h:St B U L w):St B U (inn T sz enc [] [] :: L) w:=St.pack (p:=Fit [] ([]:List (List α))) (rs:=[]) rfl h
theorem St.innOne {A:Option Addr} {c:Nat} {l:List α} (h:St B U (.row A c T sz (nX enc l) :: L) w):St B U (inn T sz enc [⟨A,l.length,c⟩] [l] :: L) w:=St.pack (p:=Fit [⟨A,l.length,c⟩] [l]) (rs:=[.row A c T sz (nX enc l)]) rfl h
theorem St.swap {r s:Res} (h:St B U (r :: s :: L) w):St B U (s :: r :: L) w:=by
 have:=h.front (k:=1) (r:=s) rfl
 exact this
theorem St.innApp (h:St B U (inn T sz enc hs m :: inn T sz enc hs2 m2 :: L) w):St B U (inn T sz enc (hs ++ hs2) (m ++ m2) :: L) w:=by
 obtain ⟨p1,h1⟩:=h.swap.unpack
 have h2:St B U (inn T sz enc hs m :: (kB (inR T sz enc) hs2 m2 ++ L)) w:=by
  have:=h1.front (k:=(kB (inR T sz enc) hs2 m2).length) (r:=inn T sz enc hs m) (by rw [ni (nD _)];simp)
  rw [List.eraseIdx_append_of_length_le (nD _)] at this
  simpa using this
 obtain ⟨p2,h3⟩:=h2.unpack
 refine St.pack (by unfold Fit at *;rw [kG,kG,p1,p2]) ?_
 rw [List.zipWith_append p2.len]
 rw [np]
 exact h3
theorem St.innFreeze {R:Rl (List α)} (hR:∀ U A c l,Sl U sz A c l.length (nX enc l)->R.r U l [.slice A l.length c]) (he:∀ x,(enc x).length=sz) (hz:0 < sz):∀ {hs:List Hd} {m:List (List α)} {U:PHeap} {L:List Res},Fit hs m->St B U (kB (inR T sz enc) hs m ++ L) w->∃ U',PHeap.Le U U'/\RlL U' R m (nX wFr hs)/\St B U' L w
 | [],[],U,L,_,h=>⟨U,PHeap.Le.refl U,RlL.nil,h⟩
 | [],_ :: _,_,_,p,_=>by cases p
 | _ :: _,[],_,_,p,_=>by cases p
 | a :: hs,l :: m,U,L,p,h=>by
  have p1:a.n=l.length/\Fit hs m:=by simpa [Fit] using p
  obtain ⟨U1,g1,g2,g3⟩:=St.freezeR (n:=l.length) (sz:=sz) h (k:=0) rfl (wAJ he l) hz
  obtain ⟨U2,k1,k2,k3⟩:=St.innFreeze hR he hz p1.2 g3
  refine ⟨U2,g1.trans k1,?_,k3⟩
  have:=RlL.cons (hR U2 a.A a.c l (g2.le k1)) k2
  rw [<- p1.1] at this
  exact this
theorem St.freezeN {R:Rl (List α)} {A:Option Addr} {c S:Nat} (h:St B U (.row A c S 1 (nX wFr hs) :: inn T sz enc hs m :: L) w) (hR:∀ U A c l,Sl U sz A c l.length (nX enc l)->R.r U l [.slice A l.length c]) (he:∀ x,(enc x).length=sz) (hz:0 < sz) (hR1:R.sz=1) :
  ∃ U',PHeap.Le U U'/\SlR U' R A c m/\St B U' L w:=by
 obtain ⟨p,h1⟩:=h.swap.unpack
 obtain ⟨U1,g1,g2,g3⟩:=St.innFreeze hR he hz p h1
 obtain ⟨U2,k1,k2,k3⟩:=g3.freezeRR (k:=0) rfl g2 hR1 (by decide)
 exact ⟨U2,g1.trans k1,k2,k3⟩
theorem wRU {bytes:Nat} {z:List (List α)} (h:app bytes m m2=some z) (p:Fit hs m) (p2:Fit hs2 m2):app bytes hs hs2=some (hs ++ hs2)/\z=m ++ m2:=by
 obtain ⟨rfl,hb⟩:=wLh h
 refine ⟨?_,rfl⟩
 unfold app
 rw [p.len,p2.len,if_pos hb]
theorem slen {σ:Env} {x:Operand} {A:Option Addr} {c:Nat} (h:ev σ x=.slice A m.length c) (p:Fit hs m):ev σ x=.slice A hs.length c:=by rw [h,p.len]
end
end Go.KL
namespace Go.KL
open Go.RowKit
section
variable {K V:Type} [DecidableEq K] {P:Program} {σ:Env} {o:Oper} {B:Base} {U U':PHeap} {L:List Res} {w:World} {m ck:Nat} {es:Array MapEntry} {mk:K->Value} {mv:V->Value} {t:List (K × V)}
def MpF {K V:Type} (U:PHeap) (m:Nat) (es:Array MapEntry) (ck:Nat) (mk:K->Value) (mv:V->Value) (l:List (K × V)):Prop:=U m=some (.map es ck)/\MpR es mk mv l
theorem MpF.le {K V:Type} {mk:K->Value} {mv:V->Value} {t:List (K × V)} (h:MpF U m es ck mk mv t) (l:PHeap.Le U U'):MpF U' m es ck mk mv t:=⟨l _ _ h.1,h.2⟩
theorem St.lookupF1 {mt kt et:TypeId} {x y:Operand} {a:K} {z:V} (hS:St B U L w) (hF:MpF U m es ck mk mv t) (hop:o.op=.lookup mt x y false) (hx:ev σ x=.map (some m)) (hy:ev σ y=mk a)
  (hu:P.underlying mt=some (.map kt et)) (R:KeyR P kt mk) (hz:∀ w,(zeroValue et).run P w=.ok (mv z) w):wGL P σ w o (mv (wEP t a z)):=by
 intro w' kw
 refine ⟨by rw [hop];rfl,?_⟩
 have hf:=R.find mv es.toList t a w' hF.2
 have hm:=(hS.grow kw).fro _ _ hF.1
 have hg:=wEz t a 0
 unfold wEP
 simp [execOp,hop,hx,hy,Instr.lookup,run_underlying hu,MapKept.run_getObj_map hm,R.chk,hf,Result.andThen,<- hg]
 cases e:wCl t a 0 <;> simp [hz,Result.andThen]
end
end Go.KL
namespace Go.KL
open Go.RowKit
open Go.KX (LoopAt Yd wMO Dfr wMQ retM)
def mks (rbs:List Nat):Res:=.abs (fun b=>b ∈ rbs) fun w=>rbs.Nodup/\∀ rb ∈ rbs,w.heap[rb]?=some (.deferred (some []))
section
variable {B:Base} {U U':PHeap} {L:List Res} {w w':World}
theorem wPD {rbs:List Nat} (hn:rbs.Nodup) (h:∀ rb ∈ rbs,w.heap[rb]?=some (.deferred (some []))):(mks rbs).At w :=
 ⟨⟨hn,h⟩,fun b hb=>wAM (h b hb),fun w2 h2=>⟨hn,fun rb hr=>(h2 rb hr).trans (h rb hr)⟩⟩
theorem St.mks0 (h:St B U L w):St B U (mks [] :: L) w:=h.addNone (wPD List.nodup_nil fun rb h=>by cases h) fun b (hb:b ∈ ([]:List Nat))=>by cases hb
theorem St.mksAdd {rbs:List Nat} {rb:Nat} (h:St B U (mks rbs :: .obj rb (.deferred (some [])) :: L) w):St B U (mks (rb :: rbs) :: L) w:=by
 have h1:(mks rbs).At w:=h.at_ _ (by simp)
 have h2:w.heap[rb]?=some (.deferred (some [])):=h.at_ (.obj rb (.deferred (some []))) (by simp)
 have hnot:rb ∉ rbs:=fun hm=>by have:=h.dj 0 1 (mks rbs) (.obj rb (.deferred (some []))) rb rfl rfl hm rfl;omega
 have hown:∀ b,(mks (rb :: rbs)).has b->U b=none/\B.mine b:=fun b hb=>by
  rcases nM.1 (show b ∈ rb :: rbs from hb) with rfl | hb
  ·exact h.own (.obj b (.deferred (some []))) (by simp) b rfl
  ·exact h.own (mks rbs) (by simp) b hb
 have hoth:∀ (j:Nat) (s:Res) (b:Nat),L[j]?=some s->s.has b->¬ (mks (rb :: rbs)).has b:=fun j s b hj hs hb=>by
  rcases nM.1 (show b ∈ rb :: rbs from hb) with rfl | hb
  ·have:=h.dj 1 (j + 2) (.obj b (.deferred (some []))) s b rfl hj rfl hs;omega
  ·have:=h.dj 0 (j + 2) (mks rbs) s b rfl hj hb hs;omega
 refine ⟨h.os,h.tape,h.output,h.size,h.old,h.fro,h.le,h.src,fun r hr=>?_,fun r hr=>?_,fun i j r s b hi hj hr hs=>?_⟩
 ·rcases nM.1 hr with rfl | hr
  ·exact wPD (List.nodup_cons.2 ⟨hnot,h1.1.1⟩) fun x hx=>by
    rcases nM.1 hx with rfl | hx
    ·exact h2
    ·exact h1.1.2 x hx
  ·exact h.at_ r (by simp [hr])
 ·rcases nM.1 hr with rfl | hr
  ·exact hown
  ·exact h.own r (by simp [hr])
 ·cases i with
  | zero =>
   simp only [nG,nE] at hi;subst hi
   cases j with
   | zero=>rfl
   | succ j=>exact absurd hr (hoth j s b (by simpa using hj) hs)
  | succ i =>
   cases j with
   | zero=>simp only [nG,nE] at hj;subst hj;exact absurd hs (hoth i r b (by simpa using hi) hr)
   | succ j=>have:=h.dj (i + 2) (j + 2) r s b (by simpa using hi) (by simpa using hj) hr hs;omega
theorem St.outK {rbs:List Nat} (h:St B U (mks rbs :: L) w) (K:Keep w w' (· ∈ rbs)):St B U L w':=by
 have h0:St B U L w:=h.drop 0
 refine h0.keepX K (fun b hb=>h.own (mks rbs) (by simp) b hb) fun r hr b hb hm=>?_
 obtain ⟨i,hi⟩:=nU hr
 have:=h.dj 0 (i + 1) (mks rbs) r b rfl (by simpa using hi) hm hb
 omega
end
section
variable {P:Program} {σ:Env} {B:Base} {U:PHeap} {L:List Res} {w:World}
theorem wIJ {rs:Array ResultVar} {R:Value->World->Prop} {rbs:List Nat} {e:Exit} (he:e=.normal \/ e=.ret) (hS:St B U (mks rbs :: L) w)
  (k:∀ w',St B U L w'->∃ v,(wCi rs σ).run P w'=.ok v w'/\R v w'):retM P rs R (rbs.map Go.KX.mark) e σ w:=by
 have h1:(mks rbs).At w:=hS.at_ _ (by simp)
 have fin:∃ rbs':List Nat,rbs.map Go.KX.mark=rbs'.map Go.KX.mark/\rbs'.Nodup/\(∀ rb ∈ rbs',Dfr w rb)/\∀ w',Keep w w' (· ∈ rbs')->w'.heap.size=w.heap.size->∃ v,(wCi rs σ).run P w'=.ok v w'/\R v w' :=
  ⟨rbs,rfl,h1.1.1,h1.1.2,fun w' K _=>k w' (hS.outK K)⟩
 rcases he with rfl | rfl
 ·exact fin
 ·exact fin
end
section
variable {r:Option Nat} {N:Nat} {P:Program} {Q:wDG} {D:List Deferred} {σ:Env} {w:World}
theorem CK.loopMD {c:Code} (I:Nat->List Deferred->Env->World->Prop) {m:Nat} (h0:I m D σ w)
  (h:∀ m D σ w,I m D σ w->CK r N P c (wEL (fun D' σ' w'=>∃ m',m' < m/\I m' D' σ' w') Q) D σ w):CK r N P (.loop c) Q D σ w:=by
 have key:∀ M m D σ w,m < M->I m D σ w->∀ a,Rep N D a σ->Code.roundsIn (WF r) 0 P c (wHV N Q) M a w:=by
  intro M
  induction M with
  | zero=>intro m _ _ _ hm;omega
  | succ M ih =>
   intro m D σ w hm hI a ha
   rw [roundsIn_succ]
   refine wpIn_mono (h m D σ w hI a ha) ?_
   rintro e a' w' ⟨σ',D',hr,q⟩
   cases e with
   | normal =>
    obtain ⟨m',hlt,hI'⟩:=q
    exact ih m' D' σ' w' (by omega) hI' a' hr
   | _=>exact ⟨σ',D',hr,q⟩
 exact fun a ha=>wpIn_loop_rounds (m + 1) (key (m + 1) m D σ w (by omega) h0 a ha)
theorem CK.forND {S B:Type} {c:Code} {body:Nat->S->Option (S ⊕ B)} {n:Nat} {s0:S} {b:S ⊕ B} (I:Nat->S->List Deferred->Env->World->Prop) (hm:KL.forN body n 0 s0=some b) (h0:I 0 s0 D σ w)
  (hs:∀ k s x D σ w,k < n->I k s D σ w->body k s=some x->(∀ b',x=.inr b'->b=.inr b')->CK r N P c (wEL (fun D' σ' w'=>∃ s',x=.inl s'/\I (k + 1) s' D' σ' w') Q) D σ w)
  (he:∀ s D σ w,I n s D σ w->b=.inl s->CK r N P c (wEL (fun _ _ _=>False) Q) D σ w):CK r N P (.loop c) Q D σ w:=by
 refine CK.loopMD (fun m D σ w=>∃ k s,k + m=n/\KL.forN body m k s=some b/\I k s D σ w) (m:=n) ⟨0,s0,by omega,hm,h0⟩ ?_
 rintro m D σ w ⟨k,s,hk,hf,hI⟩
 cases m with
 | zero =>
  have e:k=n:=by omega
  subst e
  simp only [KL.forN,nE] at hf
  refine (he s D σ w hI hf.symm).mono fun D' e σ' w' hq=>?_
  cases e with
  | normal=>exact hq.elim
  | _=>exact hq
 | succ m =>
  rw [KL.forN] at hf
  cases hx:body k s with
  | none=>rw [hx] at hf;cases hf
  | some x =>
   rw [hx] at hf
   refine (hs k s x D σ w (by omega) hI hx ?_).mono fun D' e σ' w' hq=>?_
   ·rintro b' rfl;injection hf with hf;exact hf.symm
   ·cases e with
    | normal =>
     obtain ⟨s',rfl,hI'⟩:=hq
     exact ⟨m,by omega,k + 1,s',by omega,hf,hI'⟩
    | _=>exact hq
end
section
variable {B:Base} {U U':PHeap} {L:List Res} {w w':World}
theorem St.same {own:List Res} (h:St B U L w) (ho:∀ r ∈ own,r ∈ L) (h':St ⟨w,own,U⟩ U' own w'):St B U L w':=by
 have k:=h'.kp
 have mine:∀ b,(∃ r ∈ own,r.has b)->B.mine b/\U b=none:=fun b ⟨r,hr,hb⟩=>⟨(h.own r (ho r hr) b hb).2,(h.own r (ho r hr) b hb).1⟩
 refine ⟨k.os.trans h.os,k.tape.trans h.tape,k.output.trans h.output,nR h.size k.size,fun b hb hm=>?_,fun b o hb=>h'.fro b o (h'.le b o hb),h.le,h.src,fun r hr=>?_,h.own,h.dj⟩
 ·exact (k.block b (nY hb h.size) fun hx=>hm (mine b hx).1).trans (h.old b hb hm)
 ·by_cases e:r ∈ own
  ·exact h'.at_ r e
  ·refine (h.at_ r hr).keep k fun b hb ⟨s,hs,hsb⟩=>e ?_
   obtain ⟨i,hi⟩:=nU hr
   obtain ⟨j,hj⟩:=nU (ho s hs)
   have:=h.dj i j r s b hi hj hb hsb
   subst this
   rw [hi] at hj
   cases hj
   exact hs
end
section
variable {N:Nat} {P:Program} {Q:wDG} {D:List Deferred} {l:List Oper} {ks:List Nat} {B:Base} {U:PHeap} {L:List Res} {σ:Env} {w:World} {o:Oper} {d i:Nat} {s:Sch}
theorem OKS.callP {f:FuncId} {args:List Value} {v0:Value} {i1 i2:Nat} {r1 r2:Res} (ho:l[i]?=some o) (hd:o.dst=some d) (hN:nu d N=true) (hw:wanted l σ o=true) (he:Enters P σ w o f args) (hS:St B U L w)
  (h1:L[i1]?=some r1) (h2:L[i2]?=some r2) (hne:i1 ≠ i2) (hf:St ⟨w,[r1,r2],U⟩ U [r1,r2] w->Gv P f args w (wCb w [r1,r2] U fun _ L' v=>v=v0/\L'=[r1,r2])) (hk:wFT (kOf ks i)=false)
  (k:∀ w',St B U L w'->OKS N P l Q D ks s (upd σ d v0) w'):OKS N P l Q D ks (.fx i s .stop) σ w:=by
 have hE:St ⟨w,[r1,r2],U⟩ U [r1,r2] w:=hS.enter [r1,r2] ⟨fun k=>if k=0 then i1 else i2,fun k r hr=>by
  match k with
  | 0=>simp only [nG,nE] at hr;subst hr;exact h1
  | 1=>simp only [List.getElem?_cons_succ,nG,nE] at hr;subst hr;exact h2
  | k + 2=>simp at hr,fun a b ha hb e=>by
  simp only [List.length_cons,List.length_nil] at ha hb e
  by_cases a0:a=0 <;> by_cases b0:b=0
  ·omega
  ·rw [if_pos a0,if_neg b0] at e;exact absurd e hne
  ·rw [if_neg a0,if_pos b0] at e;exact absurd e.symm hne
  ·omega⟩
 refine ⟨⟨o,ho,dlt hd hN,.inl ⟨hw,.inr (.inr (.inl ⟨f,args,_,he,hf hE,?_⟩))⟩⟩,trivial⟩
 rintro v w' ⟨U',L',g1,rfl,rfl⟩
 have hm:∀ r ∈ [r1,r2],r ∈ L:=fun r hr=>by
  rcases nM.1 hr with rfl | hr
  ·exact nL h1
  ·rw [List.mem_singleton.1 hr];exact nL h2
 exact ⟨KeepD.of (.inl hk),by rw [wDC hd];exact k w' (hS.same hm g1)⟩
end
section
variable {r:Option Nat} {N:Nat} {P:Program} {Q:wDG} {D:List Deferred} {B:Base} {U:PHeap} {L:List Res} {σ:Env} {w:World} {X S E:Type} {ar:PHeap->X->List Value->Prop}
 {PY:S->PHeap->List Res->Prop} {PE:E->PHeap->List Res->Prop} {f:S->X->Option (S ⊕ E)}
theorem CK.rangeYV (V:PHeap->List Res->Prop) (hVm:∀ U r L,V U L->V U (r :: L)) {g:Operand} {t:List Nat} {asg body:Code} {fi:FuncId} {fl cl:List Value} {s0:S} {rr:S ⊕ E} {exO:E->Exit} (hx:ev σ g=.func (.func fi) fl.toArray cl.toArray)
  (hcall:∀ (args:Array Value) (w:World),(callFunc fi args).run P w=.ok (.enter fi args) w) (hS:St B U L w) (ht:∀ x ∈ t,x < N) (hlen:∀ U x vs,ar U x vs->t.length=vs.length) (hex:∀ e,exO e=.ret \/ ∃ i,exO e=.exit i) (h0:PY s0 U L) (hV:∀ s U L,PY s U L->V U L)
  (hit:∀ (l:Nat) (w1:World) (L1:List Res) (PY':S->PHeap->List Res->Prop) (PE':E->PHeap->List Res->Prop),St ⟨w1,L1,U⟩ U L1 w1->PY' s0 U L1->YOK P l ar PY' PE' f U->(∀ s U L,PY' s U L->V U L)->Gv P fi (fl ++ [.func (.yield l) #[] #[]] ++ cl) w1 (ItS w1 L1 U PY' PE' rr))
  (hbody:∀ (l rb:Nat) (fn:FuncId) s x vs r U' L' w' o B',PHeap.Le U U'->St B' U' (.obj l o :: L') w'->PY s U' L'->ar U' x vs->f s x=some r->∀ σ0,(∀ i,σ0 i=wMO σ t vs i) ->
   CK (some l) N P asg (fun D' e σ1 w1=>e=.normal/\D'=[]/\∃ U1 L1,St B' U1 (.obj l o :: L1) w1/\∀ w2 o2,St B' U1 (.obj l o2 :: L1) w2 ->
    CK (some l) N P body (fun _ e2 _ w3=>∃ U3 L3,St B' U3 (.obj l o2 :: L3) w3/\(match r with | .inl s'=>e2=.normal/\PY s' U3 L3 | .inr e'=>e2=exO e'/\PE e' U3 L3)) [] σ1 w2) [] σ0 w')
  (hk:∀ rb U' L' w',PHeap.Le U U'->St B U' (L' ++ [.obj rb (.deferred (some []))]) w'->(match rr with | .inl s=>PY s U' L'->Q (Go.KX.mark rb :: D) .normal σ w' | .inr e=>PE e U' L'->Q (Go.KX.mark rb :: D) (exO e) σ w')) :
  CK none N P (.rangeFunc g t.toArray asg body) Q D σ w:=by
 refine Go.KX.CK.rangeFunc hx hcall fun fn l rb w1 e1 e2 hl hd K hs=>?_
 obtain ⟨o,ho,hLR⟩:=LR.of hl
 have hlt:l < w1.heap.size:=wAM ho
 have hS0:=hS.grow K
 have hsz:∀ s ∈ L,∀ b,s.has b->b < w.heap.size:=fun s hs b hb=>(hS.at_ s hs).lt hb
 have hfree:∀ b,w.heap.size <= b->U b=none/\B.mine b:=fun b hb=>by
  refine ⟨?_,.inl (nR hS.size hb)⟩
  cases e:U b with
  | none=>rfl
  | some x=>have:=wAM (hS.fro b x e);omega
 have hS1:St B U (.obj l o :: L) w1:=by
  have h1:=hS0.addLast (r:=.obj l o) (b:=l) ho rfl (hfree l (by omega)).1 (hfree l (by omega)).2 fun s hs' e=>by have:=hsz s hs' l e;omega
  refine ⟨h1.os,h1.tape,h1.output,h1.size,h1.old,h1.fro,h1.le,h1.src,fun r hr=>h1.at_ r ?_,fun r hr=>h1.own r ?_,?_⟩
  ·rcases nM.1 hr with rfl | hr <;> simp [*]
  ·rcases nM.1 hr with rfl | hr <;> simp [*]
  ·intro i j r s b hi hj hr hs'
   cases i with
   | zero =>
    simp only [nG,nE] at hi;subst hi;cases hr
    cases j with
    | zero=>rfl
    | succ j=>have:=hsz s (nL (by simpa using hj)) _ hs';omega
   | succ i =>
    cases j with
    | zero=>simp only [nG,nE] at hj;subst hj;cases hs';have:=hsz r (nL (by simpa using hi)) _ hr;omega
    | succ j=>rw [hS0.dj i j r s b (by simpa using hi) (by simpa using hj) hr hs']
 have hS2:St B U ((.obj l o :: L) ++ [.obj rb (.deferred (some []))]) w1:=by
  refine hS1.addLast (b:=rb) hd rfl (hfree rb (by omega)).1 (hfree rb (by omega)).2 fun s hs' e=>?_
  rcases nM.1 hs' with rfl | hs'
  ·cases e;omega
  ·have:=hsz s hs' rb e;omega
 let PYl:S->PHeap->List Res->Prop:=fun s U L=>∃ o L',L=.obj l o :: L'/\LR N σ t asg body rb fn .ready none o/\PY s U L'
 let PEl:E->PHeap->List Res->Prop:=fun e U L=>∃ o L',L=.obj l o :: L'/\LR N σ t asg body rb fn .done (wPC (exO e)) o/\PE e U L'
 have hY:YOK P l ar PYl PEl f U:=by
  rintro U' w' s x vs r L3 hle hSt ⟨o',L',rfl,hLR',hP⟩ har hf
  refine Go.KX.Yd.of (hLR'.at_ (hSt.at_ (.obj l o') (by simp))) ht (hlen _ _ _ har) fun σ0 hσ0=>?_
  refine (hbody l rb fn s x vs r U' L' w' o' _ hle hSt hP har hf σ0 hσ0).mono ?_
  rintro D' e σ1 w1 ⟨rfl,rfl,U1,L1,hS1,hb⟩
  refine ⟨rfl,rfl,hLR'.at_ (hS1.at_ (.obj l o') (by simp)),fun w2 hl2 K2 _=>?_⟩
  obtain ⟨o2,ho2,hLR2⟩:=LR.of hl2
  refine (hb w2 o2 (hS1.putObj K2 ho2)).mono ?_
  rintro D2 e2 σ2 w3 ⟨U3,L3,hS3,hm⟩
  cases r with
  | inl s' =>
   obtain ⟨rfl,hP'⟩:=hm
   refine ⟨hLR2.at_ (hS3.at_ (.obj l o2) (by simp)),fun w4 hl4 K4 _=>?_⟩
   obtain ⟨o4,ho4,hLR4⟩:=LR.of hl4
   exact ⟨U3,_,hS3.putObj K4 ho4,rfl,o4,L3,rfl,hLR4,hP'⟩
  | inr e' =>
   obtain ⟨rfl,hP'⟩:=hm
   have fin:∀ w4 p,p=wPC (exO e')->LoopAt w4 l N σ t asg body rb fn .done p->Keep w3 w4 (·=l)->∃ U'' L'',St ⟨w',.obj l o' :: L',U'⟩ U'' L'' w4/\(false=false/\PEl e' U'' L''):=by
    rintro w4 p rfl hl4 K4
    obtain ⟨o4,ho4,hLR4⟩:=LR.of hl4
    exact ⟨U3,_,hS3.putObj K4 ho4,rfl,o4,L3,rfl,hLR4,hP'⟩
   have hB:=hLR2.at_ (hS3.at_ (.obj l o2) (by simp))
   rcases hex e' with he | ⟨i,he⟩
   ·rw [he] at fin ⊢
    exact ⟨hB,fun w4 hl4 K4 _=>fin w4 _ rfl hl4 K4⟩
   ·rw [he] at fin ⊢
    exact ⟨hB,fun w4 hl4 K4 _=>fin w4 _ rfl hl4 K4⟩
 have hE:St ⟨w1,.obj l o :: L,U⟩ U (.obj l o :: L) w1:=by have:=hS1.enterH (L.length + 1);simpa using this
 refine (hit l w1 (.obj l o :: L) PYl PEl hE ⟨o,L,rfl,hLR,h0⟩ hY (fun s U L ⟨o',L',e,_,hp⟩=>e ▸ hVm _ _ _ (hV s U L' hp))).mono ?_
 rintro v w3 ⟨U',L3,g1,g2⟩
 obtain ⟨g3,g4⟩:=hS2.backH (L.length + 1) (own':=L3) (U':=U') (w':=w3) (by simpa using g1)
 have g3:St B U' (L3 ++ [.obj rb (.deferred (some []))]) w3:=by simpa using g3
 have hkk:=hk rb U'
 cases rr with
 | inl s' =>
  obtain ⟨o',L',rfl,hLR',hP⟩:=g2
  refine .inl ⟨hLR'.at_ (g3.at_ (.obj l o') (by simp)),fun w4 K4 _=>hkk L' w4 g4 ?_ hP⟩
  exact St.outObj (L:=L' ++ [.obj rb (.deferred (some []))]) (by simpa using g3) K4
 | inr e' =>
  obtain ⟨o',L',rfl,hLR',hP⟩:=g2
  refine .inr ⟨exO e',hex e',?_,fun w4 K4 _=>hkk L' w4 g4 ?_ hP⟩
  ·have:=hLR'.at_ (g3.at_ (.obj l o') (by simp))
   rcases hex e' with he | ⟨i,he⟩ <;> (rw [he] at this ⊢;exact this)
  ·exact St.outObj (L:=L' ++ [.obj rb (.deferred (some []))]) (by simpa using g3) K4
end
section
variable {B:Base} {U:PHeap} {L:List Res} {w:World} {α:Type} {f:α->List Value} {sz:Nat}
theorem wPi (hf:∀ x,(f x).length=sz) {pre post:List Value} {l xs:List α} {s n len off:Nat} (ho:off=pre.length + s * sz) (hx:xs=((((l.drop s).take len).drop (0:Int).toNat).take (((n:Nat):Int).toNat - (0:Int).toNat))) (hn:n <= len) (hl:s + n <= l.length) :
  ((pre ++ (l.flatMap f ++ post)).drop off).take (xs.length * sz)=xs.flatMap f:=by
 have e:xs=(l.drop s).take n:=by
  rw [hx]
  show List.take n (List.take len (List.drop s l))=_
  rw [List.take_take,kH hn]
 have el:xs.length=n:=by rw [e,List.length_take,List.length_drop];omega
 rw [ho,<- List.drop_drop,List.drop_left,el]
 have h1:s * sz <= (l.flatMap f).length:=by rw [wAJ hf];exact nh _ (by omega)
 rw [List.drop_append_of_le_length h1,wGD hf]
 have h2:n * sz <= ((l.drop s).flatMap f).length:=by rw [wAJ hf,List.length_drop];exact nh _ (by omega)
 rw [List.take_append_of_le_length h2,wGE hf,e]
theorem St.freezeTP {k b c off:Nat} {T:TypeId} {cs:List Value} {xs:List α} (h:St B U L w) (hk:L[k]?=some (.blk b T cs)) (hf:∀ x,(f x).length=sz) (hx:(cs.drop off).take (xs.length * sz)=xs.flatMap f) (hc:xs.length <= c) :
  ∃ U',PHeap.Le U U'/\Sl U' sz (some ⟨b,off,none⟩) c xs.length (nX f xs)/\St B U' (L.eraseIdx k) w/\∀ U2 L2 w2,PHeap.Le U' U2->St B U2 L2 w2->∃ U3,PHeap.Le U U3/\St B U3 (.blk b T cs :: L2) w2:=by
 obtain ⟨U',h1,h2,h3,h4⟩:=h.freezeTB hk
 refine ⟨U',h1,⟨by rw [wAJ hf],hc,.inr ⟨b,off,_,T,(0,0),rfl,h2,?_⟩⟩,h3,h4⟩
 exact hx
end
section
variable {B:Base} {U:PHeap} {L:List Res} {w:World}
theorem St.freezeMT {K V:Type} {mk:K->Value} {mv:V->Value} {t:List (K × V)} {m ck:Nat} {es:Array MapEntry} (h:St B U L w) {k:Nat} (hk:L[k]?=some (.obj m (.map es ck))) (hr:MpR es mk mv t) :
  ∃ U',PHeap.Le U U'/\MpF U' m es ck mk mv t/\St B U' (L.eraseIdx k) w/\∀ U2 L2 w2,PHeap.Le U' U2->St B U2 L2 w2->∃ U3,PHeap.Le U U3/\St B U3 (.obj m (.map es ck) :: L2) w2:=by
 obtain ⟨U',g1,g2,g3,g4⟩:=h.freezeG (o:=.map es ck) hk rfl (h.at_ _ (nL hk)) fun _ h2=>h2
 exact ⟨U',g1,⟨g2,hr⟩,g3,g4⟩
end
end Go.KL
namespace Go.KX
open Go.RowKit Go.KL
structure Gh where
 N:Nat
 σ:Env
 t:List Nat
 ac:Code
 bc:Code
 rb:Nat
 fn:FuncId
def g0:Gh:=⟨0,fun _=>undef,[],.skip,.skip,0,0⟩
structure Cl where
 b:Nat
 c:Nat
 g:Gh
abbrev Mu:=Pos->Option Cl
mutual
def Rv (μ:Mu):AV->Value->Prop
 | .int k n,v=>v=.int k n
 | .bool b,v=>v=.bool b
 | .ptr b off,v=>∃ c,μ b=some c/\v=.pointer (some ⟨c.1,off,none⟩)
 | .pnil,v=>v=.pointer none
 | .sl b off n c,v=>∃ d,μ b=some d/\n <= c/\v=.slice (some ⟨d.1,off,none⟩) n c
 | .rw b eo co n,v=>∃ d,μ b=some d/\eo + n <= d.2/\v=.slice (some ⟨d.1,co,none⟩) n (d.2 - eo)
 | .rz b eo,v=>∃ d,μ b=some d/\∃ o,v=.slice (some ⟨d.1,o,none⟩) 0 (d.2 - eo)
 | .snil,v=>v=.slice none 0 0
 | .map b,v=>∃ c,μ b=some c/\v=.map (some c.1)
 | .mnil,v=>v=.map none
 | .fn f fi ca,v=>∃ fv cv,RvL μ fi fv/\RvL μ ca cv/\v=.func (.func (f.nat - 1)) fv.toArray cv.toArray
 | .yld b,v=>∃ c,μ b=some c/\v=.func (.yield c.1) #[] #[]
 | .fnil,v=>v=.nilFunc
 | .agg l,v=>∃ vs,RvL μ l vs/\v=.agg vs.toArray
 | .tup l,v=>∃ vs,RvL μ l vs/\v=.tuple vs.toArray
def RvL (μ:Mu):List AV->List Value->Prop
 | [],vs=>vs=[]
 | a :: l,vs=>∃ v ws,Rv μ a v/\RvL μ l ws/\vs=v :: ws
end
def Mu.Le (μ μ':Mu):Prop:=∀ p c,μ p=some c->μ' p=some c
theorem Mu.Le.refl (μ:Mu):μ.Le μ:=fun _ _ h=>h
theorem Mu.Le.trans {a b c:Mu} (h:a.Le b) (k:b.Le c):a.Le c:=fun p x hx=>k p x (h p x hx)
mutual
theorem Rv.mono {μ μ':Mu} (hm:μ.Le μ'):∀ {a:AV} {v:Value},Rv μ a v->Rv μ' a v
 | .int _ _,_,h=>h
 | .bool _,_,h=>h
 | .ptr _ _,_,⟨c,h1,h2⟩=>⟨c,hm _ _ h1,h2⟩
 | .pnil,_,h=>h
 | .sl _ _ _ _,_,⟨c,h1,h2⟩=>⟨c,hm _ _ h1,h2⟩
 | .rw _ _ _ _,_,⟨c,h1,h2⟩=>⟨c,hm _ _ h1,h2⟩
 | .rz _ _,_,⟨c,h1,h2⟩=>⟨c,hm _ _ h1,h2⟩
 | .snil,_,h=>h
 | .map _,_,⟨c,h1,h2⟩=>⟨c,hm _ _ h1,h2⟩
 | .mnil,_,h=>h
 | .fn _ _ _,_,⟨fv,cv,h1,h2,h3⟩=>⟨fv,cv,RvL.mono hm h1,RvL.mono hm h2,h3⟩
 | .yld _,_,⟨c,h1,h2⟩=>⟨c,hm _ _ h1,h2⟩
 | .fnil,_,h=>h
 | .agg _,_,⟨vs,h1,h2⟩=>⟨vs,RvL.mono hm h1,h2⟩
 | .tup _,_,⟨vs,h1,h2⟩=>⟨vs,RvL.mono hm h1,h2⟩
theorem RvL.mono {μ μ':Mu} (hm:μ.Le μ'):∀ {l:List AV} {vs:List Value},RvL μ l vs->RvL μ' l vs
 | [],_,h=>h
 | _ :: _,_,⟨v,ws,h1,h2,h3⟩=>⟨v,ws,Rv.mono hm h1,RvL.mono hm h2,h3⟩
end
theorem wGs {μ:Mu}:RvL μ [] []:=rfl
theorem wBh {μ:Mu} {a:AV} {l:List AV} {v:Value} {vs:List Value} (h:Rv μ a v) (h':RvL μ l vs):RvL μ (a :: l) (v :: vs):=⟨v,vs,h,h',rfl⟩
theorem wCu {μ:Mu}:∀ {l:List AV} {vs:List Value},RvL μ l vs->vs.length=l.length
 | [],_,h=>by cases h;rfl
 | _ :: _,_,⟨_,_,_,h2,h3⟩=>by subst h3;simp [wCu h2]
theorem wDx {μ:Mu}:∀ {l k:List AV} {vs ws:List Value},RvL μ l vs->RvL μ k ws->RvL μ (l ++ k) (vs ++ ws)
 | [],_,_,_,h,h'=>by cases h;exact h'
 | _ :: _,_,_,_,⟨v,ws,h1,h2,h3⟩,h'=>by subst h3;exact wBh h1 (wDx h2 h')
theorem wFF {μ:Mu}:∀ {l:List AV} {vs:List Value},RvL μ l vs->∀ {i:Nat} {a:AV},l[i]?=some a->∃ v,vs[i]?=some v/\Rv μ a v
 | [],_,_,i,a,hi=>by simp at hi
 | b :: l,_,⟨v,ws,h1,h2,h3⟩,i,a,hi=>by
  subst h3
  cases i with
  | zero=>simp at hi;subst hi;exact ⟨v,rfl,h1⟩
  | succ i=>simpa using wFF h2 (i:=i) (by simpa using hi)
theorem wIK {μ:Mu}:∀ {l:List AV} {vs:List Value} (n:Nat),RvL μ l vs->RvL μ (l.drop n) (vs.drop n)
 | _,_,0,h=>h
 | [],_,n + 1,h=>by cases h;exact rfl
 | _ :: _,_,n + 1,⟨_,_,_,h2,h3⟩=>by subst h3;exact wIK n h2
theorem wIL {μ:Mu}:∀ {l:List AV} {vs:List Value} (n:Nat),RvL μ l vs->RvL μ (l.take n) (vs.take n)
 | _,_,0,_=>rfl
 | [],_,n + 1,h=>by cases h;exact rfl
 | _ :: _,_,n + 1,⟨_,_,h1,h2,h3⟩=>by subst h3;exact wBh h1 (wIL n h2)
theorem wGt {μ:Mu} {l:List AV} {vs:List Value} (h:RvL μ l vs):∀ n,RvL μ (rep n l) (nP n vs).flatten
 | 0=>rfl
 | n + 1=>by rw [List.replicate_succ,List.flatten_cons];exact wDx h (wGt h n)
section
variable {α:Type}
theorem wGI:∀ (l:List α) (n:Nat),nth l n=l[n]?
 | [],_=>rfl
 | _ :: _,0=>rfl
 | _ :: l,n + 1=>by show nth l n=_;rw [wGI l n];simp
theorem wES:∀ (l:List α),len l=l.length
 | []=>rfl
 | _ :: l=>by show Nat.succ (len l)=_;rw [wES l];rfl
theorem wFs {a:α} {o:Option (List α)} {r:List α} (h:wJU a o=some r):∃ r',o=some r'/\r=a :: r':=by
 cases o with
 | none=>cases h
 | some r'=>cases h;exact ⟨r',rfl,rfl⟩
theorem wJk:∀ {l:List α} {n:Nat} {r:List α},tk l n=some r->r=l.take n/\n <= l.length
 | [],0,r,h=>by cases h;simp
 | [],n + 1,r,h=>by cases h
 | a :: l,0,r,h=>by cases h;simp
 | a :: l,n + 1,r,h=>by
  obtain ⟨r',h1,rfl⟩:=wFs (show wJU a (tk l n)=some r from h)
  obtain ⟨h2,h3⟩:=wJk h1
  simp [h2,h3]
theorem wKR:∀ {l:List α} {off n:Nat} {r:List α},sub l off n=some r->r=(l.drop off).take n/\off + n <= l.length
 | [],0,n,r,h=>by have:=wJk (l:=[]) (n:=n) h;simpa using this
 | [],off + 1,n,r,h=>by cases h
 | a :: l,0,n,r,h=>by have:=wJk (l:=a :: l) (n:=n) h;simpa using this
 | a :: l,off + 1,n,r,h=>by
  obtain ⟨h1,h2⟩:=wKR (show sub l off n=some r from h)
  exact ⟨by simpa using h1,by simp;omega⟩
theorem wJl:∀ {l vs r:List α},ov l vs=some r->vs.length <= l.length/\r=vs ++ l.drop vs.length
 | [],[],r,h=>by cases h;simp
 | [],v :: vs,r,h=>by cases h
 | a :: l,[],r,h=>by cases h;simp
 | a :: l,v :: vs,r,h=>by
  obtain ⟨r',h1,rfl⟩:=wFs (show wJU v (ov l vs)=some r from h)
  obtain ⟨h2,h3⟩:=wJl h1
  subst h3
  exact ⟨by simpa using h2,by simp⟩
theorem wIw:∀ {l:List α} {off:Nat} {vs r:List α},wPZ l off vs=some r->off + vs.length <= l.length/\r=l.take off ++ vs ++ l.drop (off + vs.length)
 | [],0,vs,r,h=>by have:=wJl (l:=[]) h;simp at this;simp [this]
 | [],off + 1,vs,r,h=>by cases h
 | a :: l,0,vs,r,h=>by have:=wJl (l:=a :: l) h;simp at this;simp [this]
 | a :: l,off + 1,vs,r,h=>by
  obtain ⟨r',h1,rfl⟩:=wFs (show wJU a (wPZ l off vs)=some r from h)
  obtain ⟨h2,h3⟩:=wIw h1
  subst h3
  refine ⟨by simp;omega,?_⟩
  rw [show off + 1 + vs.length=(off + vs.length) + 1 from by omega]
  simp
end
theorem wMU:∀ (vs l:List Value) (off:Nat),off + vs.length <= l.length->wDt l off vs=l.take off ++ vs ++ l.drop (off + vs.length)
 | [],l,off,_=>by simp [wDt]
 | v :: vs,l,off,h=>by
  simp only [List.length_cons] at h
  have hlt:off < l.length:=by omega
  rw [wDt,wMU vs (l.set off v) (off + 1) (by simp;omega)]
  have h1:(l.set off v).take (off + 1)=l.take off ++ [v]:=by
   rw [List.take_set,List.take_add_one,nl hlt]
   rw [List.set_append_right _ _ (by simp;omega)]
   simp [kH (Nat.le_of_lt hlt)]
  rw [h1,List.drop_set_of_lt (by omega)]
  rw [show off + 1 + vs.length=off + (v :: vs).length from by simp;omega]
  simp
theorem wIM {μ:Mu} {l vs r:List AV} {L V:List Value} {off:Nat} (h:wPZ l off vs=some r) (hl:RvL μ l L) (hv:RvL μ vs V):off + V.length <= L.length/\RvL μ r (wDt L off V):=by
 obtain ⟨h1,rfl⟩:=wIw h
 have e1:=wCu hl
 have e2:=wCu hv
 have h2:off + V.length <= L.length:=by omega
 refine ⟨h2,?_⟩
 rw [wMU V L off h2,e2]
 exact wDx (wDx (wIL off hl) hv) (wIK _ hl)
theorem wFG {μ:Mu} {l r:List AV} {L:List Value} {off n:Nat} (h:sub l off n=some r) (hl:RvL μ l L):RvL μ r ((L.drop off).take n)/\off + n <= L.length:=by
 obtain ⟨rfl,h1⟩:=wKR h
 have e1:=wCu hl
 exact ⟨wIL n (wIK off hl),by omega⟩
theorem wRV {μ:Mu} {a:AV} {v:Value} (h:Rv μ a v) (h1:a.one=true):one v=true:=by
 cases a <;> simp only [Rv] at h <;> first | (cases h1;done) | (subst h;rfl) | (obtain ⟨_,_,_,_,_,rfl⟩:=h;rfl) | (obtain ⟨_,_,_,_,rfl⟩:=h;rfl) | (obtain ⟨_,_,_,rfl⟩:=h;rfl) | (obtain ⟨_,_,rfl⟩:=h;rfl)
theorem wDy {μ:Mu}:∀ {l:List AV} {vs:List Value},RvL μ l vs->wPa l=true->∀ v ∈ vs,one v=true
 | [],_,h,_=>by cases h;simp
 | a :: l,_,⟨v,ws,h1,h2,h3⟩,ho=>by
  subst h3
  have ho:(a.one && wPa l)=true:=ho
  rw [hH] at ho
  intro u hu
  rcases nM.1 hu with rfl | hu
  ·exact wRV h1 ho.1
  ·exact wDy h2 ho.2 u hu
theorem wGR {μ:Mu} {a:AV} {v:Value} (h:Rv μ a v):∃ vs,RvL μ a.cells vs/\v.cells=vs.toArray:=by
 cases a with
 | agg l=>obtain ⟨vs,h1,rfl⟩:=h;exact ⟨vs,h1,rfl⟩
 | tup l=>obtain ⟨vs,h1,rfl⟩:=h;exact ⟨[_],wBh ⟨vs,h1,rfl⟩ wGs,rfl⟩
 | _ =>
  refine ⟨[v],wBh h wGs,?_⟩
  simp only [Rv] at h
  first | (subst h;rfl) | (obtain ⟨_,_,_,_,_,rfl⟩:=h;rfl) | (obtain ⟨_,_,_,_,rfl⟩:=h;rfl) | (obtain ⟨_,_,_,rfl⟩:=h;rfl) | (obtain ⟨_,_,rfl⟩:=h;rfl)
end Go.KX
namespace Go.KX
noncomputable section
open Go.RowKit Go.KL
def EnvR (μ:Mu) (σA:Tr AV) (σ:Env):Prop:=∀ p:Pos,Rv μ (evA σA (.t p)) (σ (p.nat - 1))
theorem wJm (σA:Tr AV) (p:Pos):evA σA (.t p)=(σA.get p).getD u:=by
 show Option.rec (motive:=fun _=>AV) u (fun v=>v) (σA.get p)=_
 cases σA.get p <;> rfl
theorem EnvR.mono {μ μ':Mu} {σA:Tr AV} {σ:Env} (h:EnvR μ σA σ) (hm:μ.Le μ'):EnvR μ' σA σ:=fun p=>(h p).mono hm
theorem EnvR.put {μ:Mu} {σA:Tr AV} {σ:Env} (h:EnvR μ σA σ) {p:Pos} {a:AV} {v:Value} (hv:Rv μ a v):EnvR μ (σA.set p a) (upd σ (p.nat - 1) v):=by
 intro q
 rw [wJm,Tr.get_set]
 by_cases e:q=p
 ·subst e;rw [if_pos rfl,wCk];exact hv
 ·rw [if_neg e,wCh,<- wJm]
  ·exact h q
  ·intro e2
   have:=p.nat_pos;have:=q.nat_pos
   exact e (Pos.nat_inj (by omega))
theorem wMV (μ:Mu):Rv μ u undef:=⟨[],rfl,rfl⟩
theorem wKS {μ:Mu}:∀ {args:List AV} {vs:List Value},RvL μ args vs->∀ {p:Pos} {t:Tr AV} {σ σ':Env},EnvR μ t σ->(∀ i,i < p.nat - 1->σ' i=σ i)->(∀ j v,vs[j]?=some v->σ' (p.nat - 1 + j)=v) ->
  (∀ i,p.nat - 1 + vs.length <= i->σ' i=σ i)->EnvR μ (wMH args p t) σ'
 | [],_,h,p,t,σ,σ',hE,h1,_,h3=>by
  cases h
  intro q
  have:=hE q
  by_cases e:q.nat - 1 < p.nat - 1
  ·rw [h1 _ e];exact this
  ·rw [h3 _ (by simp;omega)];exact this
 | a :: l,_,⟨v,ws,h1,h2,h3⟩,p,t,σ,σ',hE,g1,g2,g3=>by
  subst h3
  have hp:=p.nat_pos
  refine wKS h2 (p:=p.succ) (hE.put (p:=p) h1) ?_ ?_ ?_
  ·intro i hi
   rw [Pos.nat_succ] at hi
   by_cases e:i=p.nat - 1
   ·subst e;rw [wCk];exact g2 0 v rfl
   ·rw [wCh _ _ e];exact g1 i (by omega)
  ·intro j x hx
   rw [Pos.nat_succ]
   have:=g2 (j + 1) x (by simpa using hx)
   rw [<- this];congr 1;omega
  ·intro i hi
   rw [Pos.nat_succ] at hi
   rw [wCh _ _ (by omega)]
   exact g3 i (by simp;omega)
theorem wPj {μ:Mu} {args:List AV} {vs:List Value} (h:RvL μ args vs):EnvR μ (wMH args .H .e) (wOs vs):=by
 have h0:EnvR μ .e (fun _=>undef):=by intro p;rw [wJm,Tr.get_e];exact wMV μ
 refine wKS h (p:=.H) h0 (fun i hi=>by simp [Pos.nat] at hi) (fun j v hv=>?_) (fun i hi=>?_)
 ·simp [wOs,Pos.nat,hv]
 ·simp only [Pos.nat] at hi
  simp [wOs,kO (by omega:vs.length <= i)]
mutual
def okc:AV->Value->Bool
 | .int k n,.int k' n'=>keq k k' && zeq n n'
 | .bool b,.bool b'=>b == b'
 | .pnil,.pointer none=>true
 | .snil,.slice none 0 0=>true
 | .mnil,.map none=>true
 | .fnil,.nilFunc=>true
 | .agg l,.agg vs=>wON l vs.toList
 | .tup l,.tuple vs=>wON l vs.toList
 | _,_=>false
def wON:List AV->List Value->Bool
 | [],[]=>true
 | a :: l,v :: vs=>okc a v && wON l vs
 | _,_=>false
end
theorem wKT:∀ {a b:Int},zeq a b=true ↔ a=b
 | .ofNat a,.ofNat b=>by simp [zeq];omega
 | .negSucc a,.negSucc b=>by simp [zeq]
 | .ofNat a,.negSucc b=>by simp [zeq]
 | .negSucc a,.ofNat b=>by simp [zeq]
theorem wDz (a b:Int):zeq a b=decide (a=b):=by
 by_cases h:a=b
 ·rw [wKT.2 h];simp [h]
 ·have:zeq a b ≠ true:=fun e=>h (wKT.1 e)
  simp [h,nz.2 this]
theorem wGu:∀ (a b:Int),zlt a b=decide (a < b)
 | .ofNat a,.ofNat b=>by
  simp only [zlt,nV,Int.ofNat_lt]
  by_cases h:a < b
  ·simp [h,nK]
  ·simp [h,nz,nK]
 | .negSucc a,.negSucc b=>by
  simp only [zlt,nv]
  by_cases h:b < a
  ·have h2:-((a:Int) + 1) < -((b:Int) + 1):=by omega
   simp [h2,nK];exact h
  ·have h2:¬ -((a:Int) + 1) < -((b:Int) + 1):=by omega
   simp [h2,nz,nK];omega
 | .ofNat a,.negSucc b=>by
  simp only [zlt,nv,nV]
  have h2:¬ (a:Int) < -((b:Int) + 1):=by omega
  simp [h2]
 | .negSucc a,.ofNat b=>by
  simp only [zlt,nv,nV]
  have h2:-((a:Int) + 1) < (b:Int):=by omega
  simp [h2]
theorem wMW (a b:Int):zle a b=decide (a <= b):=by
 rw [zle,wGu]
 by_cases h:a <= b
 ·simp [h,Int.not_lt.2 h]
 ·simp [h,Int.not_le.1 h]
theorem wBo {a b:IntKind} (h:keq a b=true):a=b:=by cases a <;> cases b <;> first | rfl | cases h
mutual
theorem wMX (μ:Mu):∀ {a:AV} {v:Value},okc a v=true->Rv μ a v
 | .int k n,v,h=>by
  cases v <;> simp only [okc,hH,nZ] at h
  rw [wBo h.1,wKT.1 h.2];rfl
 | .bool b,v,h=>by
  cases v <;> simp only [okc,beq_iff_eq,nZ] at h
  subst h;rfl
 | .pnil,v,h=>by
  unfold okc at h
  split at h <;> first | rfl | (exfalso;simp_all;done) | simp_all [Rv]
 | .snil,v,h=>by
  unfold okc at h
  split at h <;> first | rfl | (exfalso;simp_all;done) | simp_all [Rv]
 | .mnil,v,h=>by
  unfold okc at h
  split at h <;> first | rfl | (exfalso;simp_all;done) | simp_all [Rv]
 | .fnil,v,h=>by
  cases v <;> simp only [okc,nZ] at h
  rfl
 | .agg l,v,h=>by
  cases v <;> simp only [okc,nZ] at h
  exact ⟨_,wFt μ h,by simp⟩
 | .tup l,v,h=>by
  cases v <;> simp only [okc,nZ] at h
  exact ⟨_,wFt μ h,by simp⟩
 | .ptr _ _,v,h=>by simp [okc] at h
 | .sl _ _ _ _,v,h=>by simp [okc] at h
 | .rw _ _ _ _,v,h=>by simp [okc] at h
 | .rz _ _,v,h=>by simp [okc] at h
 | .map _,v,h=>by simp [okc] at h
 | .fn _ _ _,v,h=>by simp [okc] at h
 | .yld _,v,h=>by simp [okc] at h
theorem wFt (μ:Mu):∀ {l:List AV} {vs:List Value},wON l vs=true->RvL μ l vs
 | [],[],_=>rfl
 | a :: l,v :: vs,h=>by
  simp only [wON,hH] at h
  exact wBh (wMX μ h.1) (wFt μ h.2)
 | [],_ :: _,h=>by simp [wON] at h
 | _ :: _,[],h=>by simp [wON] at h
end
def wCK:AOd->Operand->Bool
 | .t p,.tmp t=>nB p.nat (t + 1)
 | .c a,.const v=>okc a v
 | .c (.fn f [] []),.func g=>nB f.nat (g + 1)
 | _,_=>false
def wIx:List AOd->List Operand->Bool
 | [],[]=>true
 | x :: l,y :: k=>wCK x y && wIx l k
 | _,_=>false
theorem wAG {μ:Mu} {σA:Tr AV} {σ:Env} {x:AOd} {y:Operand} (h:wCK x y=true) (hE:EnvR μ σA σ):Rv μ (evA σA x) (ev σ y):=by
 unfold wCK at h
 split at h
 ·rename_i p t
  have:=nA h
  have h2:=hE p
  rw [this] at h2
  exact h2
 ·exact wMX μ h
 ·rename_i f g
  have:=nA h
  exact ⟨[],[],rfl,rfl,by show Value.func (.func g) #[] #[]=_;rw [this];rfl⟩
 ·cases h
theorem wGS {μ:Mu} {σA:Tr AV} {σ:Env}:∀ {l:List AOd} {k:List Operand},wIx l k=true->EnvR μ σA σ->RvL μ (evs σA l) (k.map (ev σ))
 | [],[],_,_=>rfl
 | x :: l,y :: k,h,hE=>by
  simp only [wIx,hH] at h
  exact wBh (wAG h.1 hE) (wGS h.2 hE)
 | [],_ :: _,h,_=>by simp [wIx] at h
 | _ :: _,[],h,_=>by simp [wIx] at h
def MR {K:Type} (μ:Mu) (l:List (K × AV)) (t:List (K × Value)):Prop:=l.map (·.1)=t.map (·.1)/\RvL μ (l.map (·.2)) (t.map (·.2))
def mk2 (k:IntKind) (x:Int × Int):Value:=.agg #[.int k x.1,.int k x.2]
def exC:Ex->Exit
 | .nrm=>.normal
 | .exit i=>.exit i
 | .ret=>.ret
def lsC:LS->LoopState × Option Code
 | .ready=>(.ready,none)
 | .busy=>(.busy,none)
 | .done .ret=>(.done,some .ret)
 | .done (.exit i)=>(.done,some (.exit i))
 | .done .nrm=>(.ready,none)
abbrev Chk:=AC->Code->Nat->Prop
structure wLE (C:Chk) (μ:Mu) (w:World) (c:Cl) (σA:Tr AV) (t:List Pos) (asg body:AC) (s:LS):Prop where
 at_:LoopAt w c.1 c.g.N c.g.σ c.g.t c.g.ac c.g.bc c.g.rb c.g.fn (lsC s).1 (lsC s).2
 env:EnvR μ σA c.g.σ
 ht:t.map Pos.nat=c.g.t.map (· + 1)
 tN:∀ x ∈ c.g.t,x < c.g.N
 asg:C asg c.g.ac c.g.N
 body:C body c.g.bc c.g.N
def AbR (C:Chk) (P:Program) (μ:Mu) (w:World) (c:Cl):AB->Prop
 | .cells T l=>∃ vs,RvL μ l vs/\Blk w c.1 T vs
 | .row T sz l=>∃ vs,RvL μ l vs/\RowAt w (some ⟨c.1,0,none⟩) c.2 T sz vs
 | .map0=>∃ ck,w.heap[c.1]?=some (.map #[] ck)
 | .mapI k l=>∃ es ck t,w.heap[c.1]?=some (.map es ck)/\MpR es (fun n:Int=>nw k n) id t/\MR μ l t
 | .map2 k l=>∃ es ck t,w.heap[c.1]?=some (.map es ck)/\MpR es (mk2 k) id t/\MR μ l t
 | .loop σA t asg body s=>wLE C μ w c σA t asg body s
 | .dead=>True
def wLF:AB->Prop
 | .dead=>False
 | _=>True
variable {C:Chk} {P:Program} {μ μ' μ'':Mu} {w w' w'':World} {h h' h'':AH}
theorem MR.mono {K:Type} {l:List (K × AV)} {t:List (K × Value)} (h:MR μ l t) (hm:μ.Le μ'):MR μ' l t:=⟨h.1,h.2.mono hm⟩
theorem AbR.mono {c:Cl} {B:AB} (h:AbR C P μ w c B) (hm:μ.Le μ'):AbR C P μ' w c B:=by
 cases B with
 | cells T l=>obtain ⟨vs,h1,h2⟩:=h;exact ⟨vs,h1.mono hm,h2⟩
 | row T sz l=>obtain ⟨vs,h1,h2⟩:=h;exact ⟨vs,h1.mono hm,h2⟩
 | map0=>exact h
 | mapI k l=>obtain ⟨es,ck,t,h1,h2,h3⟩:=h;exact ⟨es,ck,t,h1,h2,h3.mono hm⟩
 | map2 k l=>obtain ⟨es,ck,t,h1,h2,h3⟩:=h;exact ⟨es,ck,t,h1,h2,h3.mono hm⟩
 | loop σA t asg body s=>exact ⟨h.at_,h.env.mono hm,h.ht,h.tN,h.asg,h.body⟩
 | dead=>trivial
theorem AbR.keep {c:Cl} {B:AB} {X:Nat->Prop} (h:AbR C P μ w c B) (k:Keep w w' X) (hx:¬ X c.1):AbR C P μ w' c B:=by
 cases B with
 | cells T l=>obtain ⟨vs,h1,h2⟩:=h;exact ⟨vs,h1,h2.keep k hx⟩
 | row T sz l =>
  obtain ⟨vs,h1,h2⟩:=h
  refine ⟨vs,h1,?_⟩
  obtain ⟨cur,h3,h4⟩:=RowAt.cells h2
  exact .inr ⟨c.1,cur,rfl,(k.block _ (wAM h3) hx).trans h3,h4⟩
 | map0=>obtain ⟨ck,h1⟩:=h;exact ⟨ck,(k.block _ (wAM h1) hx).trans h1⟩
 | mapI _ l=>obtain ⟨es,ck,t,h1,h2⟩:=h;exact ⟨es,ck,t,(k.block _ (wAM h1) hx).trans h1,h2⟩
 | map2 _ l=>obtain ⟨es,ck,t,h1,h2⟩:=h;exact ⟨es,ck,t,(k.block _ (wAM h1) hx).trans h1,h2⟩
 | loop σA t asg body s=>exact ⟨h.at_.keep k hx,h.env,h.ht,h.tN,h.asg,h.body⟩
 | dead=>trivial
def img (μ:Mu) (fl:Nat) (c:Nat):Prop:=∃ p d,μ p=some d/\d.1=c/\fl <= p.nat
structure Ext (μ:Mu) (fl:Nat) (w:World) (μ':Mu) (w':World):Prop where
 mono:μ.Le μ'
 new:∀ p c,μ' p=some c->μ p=some c \/ img μ fl c.1 \/ w.heap.size <= c.1
 keep:Keep w w' (img μ fl)
theorem Ext.refl (μ:Mu) (fl:Nat) (w:World):Ext μ fl w μ w:=⟨Mu.Le.refl μ,fun _ _ h=>.inl h,Keep.refl w _⟩
theorem Ext.img {fl:Nat} {c:Nat} (E:Ext μ fl w μ' w') (hi:img μ' fl c):KX.img μ fl c \/ w.heap.size <= c:=by
 obtain ⟨p,d,h1,rfl,h2⟩:=hi
 rcases E.new p _ h1 with h3 | h3 | h3
 ·exact .inl ⟨p,d,h3,rfl,h2⟩
 ·exact .inl h3
 ·exact .inr h3
theorem Ext.trans {fl:Nat} (E:Ext μ fl w μ' w') (E':Ext μ' fl w' μ'' w''):Ext μ fl w μ'' w'':=by
 refine ⟨E.mono.trans E'.mono,fun p c hp=>?_,E.keep.step E'.keep fun i hi hm=>?_⟩
 ·rcases E'.new p c hp with h1 | h1 | h1
  ·exact E.new p c h1
  ·exact .inr (E.img h1)
  ·exact .inr (.inr (nR E.keep.size h1))
 ·rcases E.img hm with h1 | h1
  ·exact h1
  ·omega
structure Sim (C:Chk) (P:Program) (μ:Mu) (h:AH) (w:World):Prop where
 nx:∀ p,h.nx.nat <= p.nat->μ p=none
 lt:∀ p c,μ p=some c->c.1 < w.heap.size
 inj:∀ p q a b c d,h.m.get p=some a->h.m.get q=some b->wLF a->wLF b->μ p=some c->μ q=some d->c.1=d.1->p=q
 at_:∀ p b,h.m.get p=some b->∃ c,μ p=some c/\AbR C P μ w c b
theorem Sim.keep (S:Sim C P μ h w) (k:Keep w w' Non):Sim C P μ h w' :=
 ⟨S.nx,fun p c hp=>nY (S.lt p c hp) k.size,S.inj,fun p b hb=>let ⟨c,h1,h2⟩:=S.at_ p b hb;⟨c,h1,h2.keep k id⟩⟩
theorem Sim.floor (S:Sim C P μ h w) (f:Pos):Sim C P μ ⟨h.m,h.nx,f⟩ w:=⟨S.nx,S.lt,S.inj,S.at_⟩
theorem Sim.non (S:Sim C P μ h w) (E:Ext μ h.nx.nat w μ' w') (fl:Nat):Keep w w' Non/\Ext μ fl w μ' w':=by
 have hn:∀ c,¬ img μ h.nx.nat c:=fun c ⟨p,k,h1,_,h2⟩=>by rw [S.nx p h2] at h1;cases h1
 refine ⟨E.keep.weak fun i _ hi=>hn i hi,E.mono,fun p c hp=>?_,E.keep.weak fun i _ hi=>(hn i hi).elim⟩
 rcases E.new p c hp with h1 | h1 | h1
 ·exact .inl h1
 ·exact (hn _ h1).elim
 ·exact .inr (.inr h1)
theorem wIN {h h':AH} {p:Pos} {B:AB} (hp:h.put p B=some h'):h.fl.nat <= p.nat/\h'=⟨h.m.set p B,h.nx,h.fl⟩:=by
 unfold AH.put at hp
 split at hp
 ·cases hp
 ·rename_i hf
  cases hp
  refine ⟨?_,rfl⟩
  rcases nt p.nat h.fl.nat with hlt | hge
  ·rw [(Pos.ltb_iff p h.fl false).2 (.inl hlt)] at hf;cases hf
  ·exact hge
theorem Sim.put {p:Pos} {B B':AB} {c:Cl} (S:Sim C P μ h w) (hp:h.put p B'=some h') (hB:h.m.get p=some B) (hl:wLF B) (hc:μ p=some c) (K:Keep w w' (·=c.1)) (hB':AbR C P μ w' c B') :
  Sim C P μ h' w'/\Ext μ h.fl.nat w μ w'/\h'.fl=h.fl:=by
 obtain ⟨hf,rfl⟩:=wIN hp
 refine ⟨⟨S.nx,fun p c hp=>nY (S.lt p c hp) K.size,?_,?_⟩,⟨Mu.Le.refl μ,fun _ _ h=>.inl h,K.weak fun i _ e=>⟨p,c,hc,e.symm,hf⟩⟩,rfl⟩
 ·intro q r a b d e hq hr la lb hd he hde
  simp only [Tr.get_set] at hq hr
  split at hq <;> split at hr
  ·rename_i h1 h2;rw [h1,h2]
  ·rename_i h1 h2;exact (S.inj q r B b d e (h1 ▸ hB) hr hl lb hd he hde)
  ·rename_i h1 h2;exact (S.inj q r a B d e hq (h2 ▸ hB) la hl hd he hde)
  ·exact S.inj q r a b d e hq hr la lb hd he hde
 ·intro q b hq
  simp only [Tr.get_set] at hq
  split at hq
  ·rename_i h1;subst h1;cases hq;exact ⟨c,hc,hB'⟩
  ·rename_i h1
   obtain ⟨d,h2,h3⟩:=S.at_ q b hq
   refine ⟨d,h2,?_⟩
   by_cases lb:wLF b
   ·exact h3.keep K fun e=>h1 (S.inj q p b B d c hq hB lb hl h2 hc e)
   ·cases b <;> first | trivial | exact (lb trivial).elim
def Mu.add (μ:Mu) (p:Pos) (c:Cl):Mu:=fun q=>if q=p then some c else μ q
theorem Mu.add_le {p:Pos} {c:Cl} (hn:μ p=none):μ.Le (μ.add p c):=by
 intro q d hq
 unfold Mu.add
 by_cases e:q=p
 ·subst e;rw [hn] at hq;cases hq
 ·rw [if_neg e];exact hq
theorem Mu.add_same (μ:Mu) (p:Pos) (c:Cl):μ.add p c p=some c:=by simp [Mu.add]
theorem Sim.push {c:Cl} {B:AB} (S:Sim C P μ h w) (K:Keep w w' Non) (hc:w.heap.size <= c.1) (hlt:c.1 < w'.heap.size) (hB:AbR C P (μ.add h.nx c) w' c B) :
  Sim C P (μ.add h.nx c) (h.push B) w'/\Ext μ h.fl.nat w (μ.add h.nx c) w'/\(h.push B).fl=h.fl/\(μ.add h.nx c) h.nx=some c:=by
 have hn:=S.nx h.nx (nD _)
 have hle:=Mu.add_le (c:=c) hn
 refine ⟨⟨?_,?_,?_,?_⟩,⟨hle,?_,K.weak fun _ _ h=>h.elim⟩,rfl,Mu.add_same _ _ _⟩
 ·intro p hp
  have hp:h.nx.succ.nat <= p.nat:=hp
  rw [Pos.nat_succ] at hp
  unfold Mu.add
  rw [if_neg (fun e=>by subst e;omega)]
  exact S.nx p (by omega)
 ·intro p d hd
  unfold Mu.add at hd
  split at hd
  ·cases hd;exact hlt
  ·exact nY (S.lt p d hd) K.size
 ·intro p q a b d e hp hq la lb hd he hde
  simp only [AH.push,Tr.get_set] at hp hq
  unfold Mu.add at hd he
  split at hd <;> split at he
  ·rename_i h1 h2;rw [h1,h2]
  ·cases hd;have:=S.lt _ _ he;omega
  ·cases he;have:=S.lt _ _ hd;omega
  ·rename_i h1 h2
   rw [if_neg h1] at hp
   rw [if_neg h2] at hq
   exact S.inj p q a b d e hp hq la lb hd he hde
 ·intro p b hb
  simp only [AH.push,Tr.get_set] at hb
  split at hb
  ·rename_i h1;subst h1;cases hb;exact ⟨c,Mu.add_same _ _ _,hB⟩
  ·obtain ⟨d,h2,h3⟩:=S.at_ p b hb
   exact ⟨d,hle _ _ h2,(h3.mono hle).keep K id⟩
 ·intro p d hd
  unfold Mu.add at hd
  split at hd
  ·cases hd;exact .inr (.inr hc)
  ·exact .inl hd
theorem Sim.move {p:Pos} {B B':AB} {c d:Cl} (S:Sim C P μ h w) (hp:h.put p .dead=some h') (hB:h.m.get p=some B) (hl:wLF B) (hc:μ p=some c) (K:Keep w w' (·=c.1)) (hd:d.1=c.1 \/ w.heap.size <= d.1) (hlt:d.1 < w'.heap.size)
  (hB':AbR C P (μ.add h.nx d) w' d B'):Sim C P (μ.add h.nx d) (h'.push B') w'/\Ext μ h.fl.nat w (μ.add h.nx d) w'/\(h'.push B').fl=h.fl/\(μ.add h.nx d) h.nx=some d:=by
 obtain ⟨hf,rfl⟩:=wIN hp
 have hn:=S.nx h.nx (nD _)
 have hle:=Mu.add_le (c:=d) hn
 have hpn:p ≠ h.nx:=fun e=>by rw [e,hn] at hc;cases hc
 refine ⟨⟨?_,?_,?_,?_⟩,⟨hle,?_,K.weak fun i _ e=>⟨p,c,hc,e.symm,hf⟩⟩,rfl,Mu.add_same _ _ _⟩
 ·intro q hq
  have hq:h.nx.succ.nat <= q.nat:=hq
  rw [Pos.nat_succ] at hq
  unfold Mu.add
  rw [if_neg (fun e=>by subst e;omega)]
  exact S.nx q (by omega)
 ·intro q e he
  unfold Mu.add at he
  split at he
  ·cases he;exact hlt
  ·exact nY (S.lt q e he) K.size
 ·have key:∀ q b e,q ≠ h.nx->((h.m.set p .dead).set h.nx B').get q=some b->wLF b->(μ.add h.nx d) q=some e->e.1 ≠ d.1:=by
   intro q b e hq hb lb he hed
   simp only [Tr.get_set,if_neg hq] at hb
   unfold Mu.add at he
   rw [if_neg hq] at he
   split at hb
   ·cases hb;exact lb
   ·rename_i hqp
    rcases hd with h1 | h1
    ·exact hqp (S.inj q p b B e c hb hB lb hl he hc (hed.trans h1))
    ·have:=S.lt _ _ he;omega
  intro q r a b e f hq hr la lb he hf hef
  by_cases e1:q=h.nx <;> by_cases e2:r=h.nx
  ·rw [e1,e2]
  ·subst e1;rw [Mu.add_same] at he;cases he;exact absurd hef.symm (key r b f e2 hr lb hf)
  ·subst e2;rw [Mu.add_same] at hf;cases hf;exact absurd hef (key q a e e1 hq la he)
  ·simp only [AH.push,Tr.get_set,if_neg e1,if_neg e2] at hq hr
   unfold Mu.add at he hf
   rw [if_neg e1] at he
   rw [if_neg e2] at hf
   split at hq
   ·cases hq;exact la.elim
   ·split at hr
    ·cases hr;exact lb.elim
    ·exact S.inj q r a b e f hq hr la lb he hf hef
 ·intro q b hb
  simp only [AH.push,Tr.get_set] at hb
  split at hb
  ·rename_i h1;subst h1;cases hb;exact ⟨d,Mu.add_same _ _ _,hB'⟩
  ·split at hb
   ·rename_i h1 h2;subst h2;cases hb;exact ⟨c,hle _ _ hc,trivial⟩
   ·rename_i h1 h2
    obtain ⟨e,h3,h4⟩:=S.at_ q b hb
    refine ⟨e,hle _ _ h3,?_⟩
    by_cases lb:wLF b
    ·exact (h4.mono hle).keep K fun e'=>h2 (S.inj q p b B e c hb hB lb hl h3 hc e')
    ·cases b <;> first | trivial | exact (lb trivial).elim
 ·intro q e he
  unfold Mu.add at he
  split at he
  ·cases he
   rcases hd with h1 | h1
   ·exact .inr (.inl ⟨p,c,hc,h1.symm,hf⟩)
   ·exact .inr (.inr h1)
  ·exact .inl he
end
end Go.KX
namespace Go.KX
noncomputable section
open Go.RowKit Go.KL
def aggD:TypeDesc->Bool
 | .struct _ | .array _ _=>true
 | _=>false
def wEI (P:Program) (t:TypeId) (f:TypeDesc->Bool):Bool:=match P.underlying t with
 | some d=>f d
 | none=>false
def szT (P:Program) (t n:Nat):Bool:=match P.info? t with
 | some i=>nB i.size n
 | none=>false
def byT (P:Program) (t n:Nat):Bool:=match P.info? t with
 | some i=>nB i.bytes n
 | none=>false
def zT (P:Program) (t:TypeId) (z:List AV):Bool:=match P.info? t with
 | some i=>match i.zero with
  | some v=>wON z v.cells.toList
  | none=>false
 | none=>false
section
variable {C:Chk} {P:Program} {μ μ':Mu} {w w':World} {h h':AH} {σ:Env} {σA:Tr AV} {t e:TypeId} {o:Oper}
theorem wAi {f:TypeDesc->Bool} (hc:wEI P t f=true):∃ d,P.underlying t=some d/\f d=true:=by
 unfold wEI at hc
 split at hc
 ·exact ⟨_,by assumption,hc⟩
 ·cases hc
theorem wAp {d:TypeDesc} (hu:P.underlying t=some d) (w:World):(underlying t).run P w=.ok d w:=run_underlying hu w
theorem wDg {n:Nat} (hc:szT P t n=true) (w:World):(sizeOf t).run P w=.ok n w:=by
 unfold szT at hc
 split at hc
 ·rename_i i hi
  rw [<- nA hc]
  simp [sizeOf,typeInfo,hi]
 ·cases hc
theorem wGT {n:Nat} (hc:szT P t n=true):∃ i,P.info? t=some i/\i.size=n:=by
 unfold szT at hc
 split at hc
 ·rename_i i hi;exact ⟨i,hi,nA hc⟩
 ·cases hc
theorem wGU {n:Nat} (hc:byT P t n=true):∃ i,P.info? t=some i/\i.bytes=n:=by
 unfold byT at hc
 split at hc
 ·rename_i i hi;exact ⟨i,hi,nA hc⟩
 ·cases hc
theorem wFH {z:List AV} (hc:zT P t z=true):∃ i v,P.info? t=some i/\i.zero=some v/\∀ μ,RvL μ z v.cells.toList:=by
 unfold zT at hc
 split at hc
 ·rename_i i hi
  split at hc
  ·rename_i v hv;exact ⟨i,v,hi,hv,fun μ=>wFt μ hc⟩
  ·cases hc
 ·cases hc
theorem wDh {i:TypeInfo} {z:Value} (hi:P.info? t=some i) (hz:i.zero=some z) (w:World):(zeroValue t).run P w=.ok z w:=by
 simp [zeroValue,typeInfo,hi,hz]
theorem wGv {d:TypeDesc} (hu:P.underlying t=some d) (w:World):(isAgg t).run P w=.ok (aggD d) w:=by
 simp only [isAgg,Sem.run_bind,wAp hu,Result.andThen_ok]
 cases d <;> rfl
def wOO (P:Program) (t:TypeId) (b:Bool):Bool:=wEI P t fun d=>aggD d == b
theorem wET {b:Bool} (hc:wOO P t b=true) (w:World):(isAgg t).run P w=.ok b w:=by
 obtain ⟨d,h1,h2⟩:=wAi hc
 rw [wGv h1,eq_of_beq h2]
def OkP (P:Program) (op:Op) (f:Tr AV->AH->Option (AV × AH)):Prop :=
 ∀ σA h v h',f σA h=some (v,h')->h'=h/\∀ μ σ,EnvR μ σA σ->∃ cv,Rv μ v cv/\∀ (o:Oper) (w:World),o.op=op->Runs P σ w o cv w
def c_mv (x:AOd):Op->Bool
 | .move y | .assign y=>wCK x y
 | _=>false
theorem p_mv {x:AOd} {op:Op} (hc:c_mv x op=true):OkP P op (wQu x):=by
 intro σA h v h' hr
 cases hr
 refine ⟨rfl,fun μ σ hE=>?_⟩
 unfold c_mv at hc
 split at hc
 ·exact ⟨_,wAG hc hE,fun o w ho=>Runs.mv ho rfl⟩
 ·exact ⟨_,wAG hc hE,fun o w ho=>Runs.as ho rfl⟩
 ·cases hc
def wMY (c x y:AOd):Op->Bool
 | .pick c' x' y'=>wCK c c' && (wCK x x' && wCK y y')
 | _=>false
theorem wRW {c x y:AOd} {op:Op} (hc:wMY c x y op=true):OkP P op (wGm c x y):=by
 intro σA h v h' hr
 unfold wMY at hc
 split at hc
 ·rename_i c' x' y'
  simp only [hH] at hc
  unfold wGm at hr
  split at hr
  ·rename_i hb;cases hr
   exact ⟨rfl,fun μ σ hE=>⟨_,wAG hc.2.1 hE,fun o w ho=>Runs.pickT ho (by have:=wAG hc.1 hE;rw [hb] at this;exact this) rfl⟩⟩
  ·rename_i hb;cases hr
   exact ⟨rfl,fun μ σ hE=>⟨_,wAG hc.2.2 hE,fun o w ho=>Runs.pickF ho (by have:=wAG hc.1 hE;rw [hb] at this;exact this) rfl⟩⟩
  ·cases hr
 ·cases hc
def wMZ (x:AOd):Op->Bool
 | .nilCheck y=>wCK x y
 | _=>false
theorem wRX {x:AOd} {op:Op} (hc:wMZ x op=true):OkP P op (wGn x):=by
 intro σA h v h' hr
 unfold wMZ at hc
 split at hc
 ·unfold wGn at hr
  split at hr
  ·rename_i hb;cases hr
   refine ⟨rfl,fun μ σ hE=>?_⟩
   have:=wAG hc hE;rw [hb] at this
   refine ⟨_,this,fun o w ho=>?_⟩
   obtain ⟨c,h1,h2⟩:=this
   rw [h2];exact Runs.nilp ho h2
  ·rename_i hb;cases hr
   refine ⟨rfl,fun μ σ hE=>?_⟩
   have:=wAG hc hE;rw [hb] at this
   refine ⟨_,this,fun o w ho=>?_⟩
   obtain ⟨fv,cv,_,_,h2⟩:=this
   rw [h2];exact Runs.nilf ho h2
  ·rename_i hb;cases hr
   refine ⟨rfl,fun μ σ hE=>?_⟩
   have:=wAG hc hE;rw [hb] at this
   refine ⟨_,this,fun o w ho=>?_⟩
   obtain ⟨c,h1,h2⟩:=this
   rw [h2];exact Runs.nily ho h2
  ·cases hr
 ·cases hc
theorem wIO {k:IntKind} {n:Int} (hk:inK k n=true):k.wrap n=n:=by
 unfold inK at hk
 split at hk <;> (try simp only [nK] at hk) <;> (try simp only [IntKind.wrap_i64,IntKind.wrap_u8,IntKind.wrap_u32,Go.IntKind.wrap_u64,nv,nV]) <;> first | omega | cases hk
theorem wBr {x:Option AV} {v:AV} (hr:okV h x=some (v,h')):x=some v/\h'=h:=by
 cases x <;> cases hr;exact ⟨rfl,rfl⟩
theorem wBi {α:Type} {b:Bool} {x:Option α} {v:α} (hr:ifO b x=some v):b=true/\x=some v:=by
 cases b
 ·cases hr
 ·exact ⟨rfl,hr⟩
theorem wHl {f:Int->Int->Int} {x y v:AV} (hr:wJV f x y=some v):∃ k a b,x=.int k a/\y=.int k b/\v=.int k (f a b)/\k.wrap (f a b)=f a b:=by
 unfold wJV at hr
 split at hr
 ·rename_i k a k' b
  split at hr
  ·rename_i hk
   split at hr
   ·rename_i hi;cases hr;exact ⟨k,a,b,rfl,by rw [wBo hk],rfl,wIO hi⟩
   ·cases hr
  ·cases hr
 ·cases hr
theorem wOP {f:Int->Int->Int} {x y v:AV} (hr:div f x y=some v):∃ k a b,x=.int k a/\y=.int k b/\v=.int k (f a b)/\k.wrap (f a b)=f a b/\b ≠ 0:=by
 unfold div at hr
 split at hr
 ·rename_i k a k' b
  split at hr
  ·rename_i hk
   split at hr
   ·cases hr
   ·rename_i hz
    split at hr
    ·rename_i hi;cases hr
     exact ⟨k,a,b,rfl,by rw [wBo hk],rfl,wIO hi,fun e=>by rw [wKT.2 e] at hz;cases hz⟩
    ·cases hr
  ·cases hr
 ·cases hr
theorem wMa {f:Int->Int->Bool} {x y v:AV} (hr:wOI f x y=some v):∃ k a b,x=.int k a/\y=.int k b/\v=.bool (f a b):=by
 unfold wOI at hr
 split at hr
 ·rename_i k a k' b
  split at hr
  ·rename_i hk;cases hr;exact ⟨k,a,b,rfl,by rw [wBo hk],rfl⟩
  ·cases hr
 ·cases hr
def wCg (b:BinOp) (x y:AOd):Op->Bool
 | .binOp b' _ x' y' _=>(b' == b) && (wCK x x' && wCK y y')
 | _=>false
theorem wFa {b:BinOp} {x y:AOd} {op:Op} (hc:wCg b x y op=true):∃ t x' y' t',op=.binOp b t x' y' t'/\wCK x x'=true/\wCK y y'=true:=by
 unfold wCg at hc
 split at hc
 ·rename_i b' t x' y' t'
  simp only [hH,beq_iff_eq] at hc
  obtain ⟨rfl,h1,h2⟩:=hc
  exact ⟨t,x',y',t',rfl,h1,h2⟩
 ·cases hc
theorem wJn {b:BinOp} {f:Int->Int->Int} {x y:AOd} {op:Op} (hc:wCg b x y op=true)
  (hrun:∀ (o:Oper) (σ:Env) (w:World) t x' y' t' k m n,o.op=.binOp b t x' y' t'->ev σ x'=.int k m->ev σ y'=.int k n->Runs P σ w o (.int k (k.wrap (f m n))) w) :
  OkP P op (fun σ h=>okV h (wJV f (evA σ x) (evA σ y))):=by
 intro σA h v h' hr
 obtain ⟨t,x',y',t',rfl,h1,h2⟩:=wFa hc
 obtain ⟨hr2,rfl⟩:=wBr hr
 obtain ⟨k,m,n,e1,e2,rfl,e3⟩:=wHl hr2
 refine ⟨rfl,fun μ σ hE=>⟨_,rfl,fun o w ho=>?_⟩⟩
 have g1:=wAG h1 hE;rw [e1] at g1
 have g2:=wAG h2 hE;rw [e2] at g2
 have:=hrun o σ w t x' y' t' k m n ho g1 g2
 rwa [e3] at this
theorem p_add {x y:AOd} {op:Op} (hc:wCg .add x y op=true):OkP P op (wLs x y) :=
 wJn hc fun o σ w t x' y' t' k m n ho h1 h2=>⟨by rw [ho];rfl,by simp [execOp,ho,h1,h2,binOp,eqGuard,Op.intArith]⟩
theorem p_sub {x y:AOd} {op:Op} (hc:wCg .sub x y op=true):OkP P op (wLt x y) :=
 wJn hc fun o σ w t x' y' t' k m n ho h1 h2=>⟨by rw [ho];rfl,by simp [execOp,ho,h1,h2,binOp,eqGuard,Op.intArith];rfl⟩
theorem p_mul {x y:AOd} {op:Op} (hc:wCg .mul x y op=true):OkP P op (wLu x y) :=
 wJn hc fun o σ w t x' y' t' k m n ho h1 h2=>⟨by rw [ho];rfl,by simp [execOp,ho,h1,h2,binOp,eqGuard,Op.intArith]⟩
theorem wRY {b:BinOp} {f:Int->Int->Int} {x y:AOd} {op:Op} (hc:wCg b x y op=true)
  (hrun:∀ (o:Oper) (σ:Env) (w:World) t x' y' t' k m n,o.op=.binOp b t x' y' t'->ev σ x'=.int k m->ev σ y'=.int k n->n ≠ 0->k.wrap (f m n)=f m n->Runs P σ w o (.int k (f m n)) w) :
  OkP P op (fun σ h=>okV h (div f (evA σ x) (evA σ y))):=by
 intro σA h v h' hr
 obtain ⟨t,x',y',t',rfl,h1,h2⟩:=wFa hc
 obtain ⟨hr2,rfl⟩:=wBr hr
 obtain ⟨k,m,n,e1,e2,rfl,e3,e4⟩:=wOP hr2
 refine ⟨rfl,fun μ σ hE=>⟨_,rfl,fun o w ho=>?_⟩⟩
 have g1:=wAG h1 hE;rw [e1] at g1
 have g2:=wAG h2 hE;rw [e2] at g2
 exact hrun o σ w t x' y' t' k m n ho g1 g2 e4 e3
theorem p_quo {x y:AOd} {op:Op} (hc:wCg .quo x y op=true):OkP P op (wLv x y) :=
 wRY hc fun o σ w t x' y' t' k m n ho h1 h2 h3 h4=>⟨by rw [ho];rfl,by simp [execOp,ho,h1,h2,binOp,eqGuard,Op.intDiv,h3,h4]⟩
theorem p_rem {x y:AOd} {op:Op} (hc:wCg .rem x y op=true):OkP P op (wLw x y) :=
 wRY hc fun o σ w t x' y' t' k m n ho h1 h2 h3 h4=>⟨by rw [ho];rfl,by simp [execOp,ho,h1,h2,binOp,eqGuard,Op.intDiv,h3]⟩
theorem wLG {b:BinOp} {f:Int->Int->Bool} {x y:AOd} {op:Op} (hc:wCg b x y op=true)
  (hrun:∀ (o:Oper) (σ:Env) (w:World) t x' y' t' k m n,o.op=.binOp b t x' y' t'->ev σ x'=.int k m->ev σ y'=.int k n->Runs P σ w o (.bool (f m n)) w) :
  OkP P op (fun σ h=>okV h (wOI f (evA σ x) (evA σ y))):=by
 intro σA h v h' hr
 obtain ⟨t,x',y',t',rfl,h1,h2⟩:=wFa hc
 obtain ⟨hr2,rfl⟩:=wBr hr
 obtain ⟨k,m,n,e1,e2,rfl⟩:=wMa hr2
 refine ⟨rfl,fun μ σ hE=>⟨_,rfl,fun o w ho=>?_⟩⟩
 have g1:=wAG h1 hE;rw [e1] at g1
 have g2:=wAG h2 hE;rw [e2] at g2
 exact hrun o σ w t x' y' t' k m n ho g1 g2
theorem p_lss {x y:AOd} {op:Op} (hc:wCg .lss x y op=true):OkP P op (wLx x y) :=
 wLG hc fun o σ w t x' y' t' k m n ho h1 h2=>(Runs.lss ho h1 h2).to (by rw [wGu])
theorem p_leq {x y:AOd} {op:Op} (hc:wCg .leq x y op=true):OkP P op (wLy x y) :=
 wLG hc fun o σ w t x' y' t' k m n ho h1 h2=>(Runs.leq ho h1 h2).to (by rw [wMW])
theorem p_gtr {x y:AOd} {op:Op} (hc:wCg .gtr x y op=true):OkP P op (wLz x y) :=
 wLG hc fun o σ w t x' y' t' k m n ho h1 h2=>(Runs.gtr ho h1 h2).to (by rw [wGu])
theorem p_geq {x y:AOd} {op:Op} (hc:wCg .geq x y op=true):OkP P op (wMA x y) :=
 wLG hc fun o σ w t x' y' t' k m n ho h1 h2=>(Runs.geq ho h1 h2).to (by rw [wMW])
theorem p_eql {x y:AOd} {op:Op} (hc:wCg .eql x y op=true):OkP P op (wMB x y) :=
 wLG hc fun o σ w t x' y' t' k m n ho h1 h2=>(Runs.eql ho h1 h2).to (by rw [wDz])
theorem p_neq {x y:AOd} {op:Op} (hc:wCg .neq x y op=true):OkP P op (wMC x y) :=
 wLG hc fun o σ w t x' y' t' k m n ho h1 h2=>(Runs.neq ho h1 h2).to (by rw [wDz];simp)
def wPk (x:AOd):Op->Bool
 | .unOp .neg _ y=>wCK x y
 | _=>false
theorem p_neg {x:AOd} {op:Op} (hc:wPk x op=true):OkP P op (wMD x):=by
 intro σA h v h' hr
 unfold wPk at hc
 split at hc
 ·obtain ⟨hr2,rfl⟩:=wBr hr
  obtain ⟨k,m,n,e1,e2,rfl,e3⟩:=wHl hr2
  rw [e2] at e1
  simp only at e1
  cases e1
  refine ⟨rfl,fun μ σ hE=>⟨_,rfl,fun o w ho=>?_⟩⟩
  have g2:=wAG hc hE;rw [e2] at g2
  refine ⟨by rw [ho];rfl,?_⟩
  have:ev σ _=.int k n:=g2
  simp only [execOp,ho,this,Op.unary,Op.intArith,Sem.run_bind,Sem.run_pure,Result.andThen_ok]
  rw [show (0:Int) - n=Int.sub 0 n from rfl,e3]
 ·cases hc
def wPl (x:AOd):Op->Bool
 | .unOp .not _ y=>wCK x y
 | _=>false
theorem p_not {x:AOd} {op:Op} (hc:wPl x op=true):OkP P op (wJZ x):=by
 intro σA h v h' hr
 unfold wPl at hc
 split at hc
 ·unfold wJZ at hr
  split at hr
  ·rename_i hb;cases hr
   refine ⟨rfl,fun μ σ hE=>⟨_,rfl,fun o w ho=>?_⟩⟩
   have g:=wAG hc hE;rw [hb] at g
   exact Runs.not ho g
  ·cases hr
 ·cases hc
def wMb:TypeDesc->Option IntKind
 | .int k=>some k
 | _=>none
def wPm (k:IntKind) (x:AOd):Op->Bool
 | .convert s t y=>wEI P s (fun d=>(wMb d).isSome) && (wEI P t (fun d=>match wMb d with | some k'=>keq k k' | none=>false) && wCK x y)
 | _=>false
theorem p_cvt {k:IntKind} {x:AOd} {op:Op} (hc:wPm (P:=P) k x op=true):OkP P op (wJa k x):=by
 intro σA h v h' hr
 unfold wPm at hc
 split at hc
 ·simp only [hH] at hc
  obtain ⟨c1,c2,c3⟩:=hc
  unfold wJa at hr
  split at hr
  ·rename_i k0 n hb
   obtain ⟨hi,hr⟩:=wBi hr
   cases hr
   refine ⟨rfl,fun μ σ hE=>⟨_,rfl,fun o w ho=>?_⟩⟩
   have g:=wAG c3 hE;rw [hb] at g
   obtain ⟨d,d1,d2⟩:=wAi c1
   obtain ⟨e,e1,e2⟩:=wAi c2
   cases d <;> first | (cases d2;done) | skip
   cases e <;> first | (cases e2;done) | skip
   have:=wBo e2
   subst this
   have g':ev σ _=.int k0 n:=g
   exact ⟨by rw [ho];rfl,by simp [execOp,ho,g',convert,wAp d1,wAp e1,Conv.intToInt,wIO hi]⟩
  ·cases hr
 ·cases hc
def wPn (f:Pos) (fi ca:List AOd):Op->Bool
 | .makeFunc (.func g) fi' ca'=>nB f.nat (g + 1) && (wIx fi fi'.toList && wIx ca ca'.toList)
 | _=>false
theorem p_mkf {f:Pos} {fi ca:List AOd} {op:Op} (hc:wPn f fi ca op=true):OkP P op (wLC f fi ca):=by
 intro σA h v h' hr
 cases hr
 unfold wPn at hc
 split at hc
 ·simp only [hH] at hc
  obtain ⟨c1,c2,c3⟩:=hc
  refine ⟨rfl,fun μ σ hE=>⟨_,⟨_,_,wGS c2 hE,wGS c3 hE,rfl⟩,fun o w ho=>?_⟩⟩
  have e:=nA c1
  refine ⟨by rw [ho];rfl,?_⟩
  simp [execOp,ho,Instr.makeFunc,e,<- kc]
 ·cases hc
def wPo (i:Nat) (x:AOd):Op->Bool
 | .extract y j=>nB i j && wCK x y
 | _=>false
theorem p_ext {i:Nat} {x:AOd} {op:Op} (hc:wPo i x op=true):OkP P op (wJg i x):=by
 intro σA h v h' hr
 unfold wPo at hc
 split at hc
 ·simp only [hH] at hc
  have e:=nA hc.1
  subst e
  unfold wJg at hr
  split at hr
  ·rename_i l hb
   obtain ⟨hr2,rfl⟩:=wBr hr
   refine ⟨rfl,fun μ σ hE=>?_⟩
   have g:=wAG hc.2 hE;rw [hb] at g
   obtain ⟨vs,g1,g2⟩:=g
   rw [wGI] at hr2
   obtain ⟨cv,g3,g4⟩:=wFF g1 hr2
   exact ⟨cv,g4,fun o w ho=>Runs.ext ho g2 (by simpa using g3)⟩
  ·cases hr
 ·cases hc
end
end
end Go.KX
namespace Go.KX
noncomputable section
open Go.RowKit Go.KL
section
variable {C:Chk} {P:Program} {μ μ':Mu} {w w':World} {h h':AH} {σ:Env} {σA:Tr AV} {t e:TypeId} {o:Oper}
def wPp (P:Program) (ne:Bool) (x y:AOd):Op->Bool
 | .binOp b t x' y' _=>(match ne with | true=>b == .neq | false=>b == .eql) && (wEI P t (fun d=>match d with | .bool=>true | _=>false) && (wCK x x' && wCK y y'))
 | _=>false
theorem wHm (ne b:Bool):(ne != b)=(match ne with | true=>!b | false=>b):=by cases ne <;> cases b <;> rfl
theorem p_eqb {ne:Bool} {x y:AOd} {op:Op} (hc:wPp P ne x y op=true):OkP P op (wJW ne x y):=by
 intro σA h v h' hr
 unfold wPp at hc
 split at hc
 ·simp only [hH] at hc
  obtain ⟨c0,c1,c2,c3⟩:=hc
  unfold wJW at hr
  split at hr
  ·rename_i a b e1 e2
   cases hr
   refine ⟨rfl,fun μ σ hE=>⟨_,rfl,fun o w ho=>?_⟩⟩
   have g1:=wAG c2 hE;rw [e1] at g1
   have g2:=wAG c3 hE;rw [e2] at g2
   obtain ⟨d,d1,d2⟩:=wAi c1
   cases d <;> first | (cases d2;done) | skip
   cases ne
   ·have:=eq_of_beq c0;subst this
    exact (Runs.eqB ho g1 g2 (wAp d1)).to (by rw [wHm])
   ·have:=eq_of_beq c0;subst this
    exact (Runs.neB ho g1 g2 (wAp d1)).to (by rw [wHm])
  ·cases hr
 ·cases hc
def nilD (k:Nat) (d:TypeDesc):Bool:=match k,d with
 | 0,.pointer _=>true
 | 1,.slice _=>true
 | 2,.map _ _=>true
 | 3,.func _ _ _=>true
 | _,_=>false
theorem wMc {k:Nat} {d:TypeDesc} {a b:AV} {r:Bool} {x y:Value} (hu:P.underlying t=some d) (hd:nilD k d=true) (hr:wKy k a b=some r) (hx:Rv μ a x) (hy:Rv μ b y) (w:World):(Op.equal t x y).run P w=.ok r w:=by
 unfold Op.equal Op.maxDepth
 rw [show (10000:Nat)=9999 + 1 from rfl,Op.equalIn]
 unfold wKy at hr
 split at hr <;> cases hr <;> simp only [Rv] at hx hy <;> (cases d <;> first | (cases hd;done) | skip) <;>
  (try obtain ⟨_,_,_,_,_,rfl⟩:=hx) <;> (try obtain ⟨_,_,_,_,rfl⟩:=hx) <;> (try obtain ⟨_,_,_,rfl⟩:=hx) <;> (try obtain ⟨_,_,rfl⟩:=hx) <;> (try subst hx) <;>
  (try obtain ⟨_,_,_,_,_,rfl⟩:=hy) <;> (try obtain ⟨_,_,_,_,rfl⟩:=hy) <;> (try obtain ⟨_,_,_,rfl⟩:=hy) <;> (try obtain ⟨_,_,rfl⟩:=hy) <;> (try subst hy) <;>
  simp only [Sem.run_bind,wAp hu,Result.andThen_ok,Sem.run_pure] <;> rfl
theorem wJo {k:Nat} {a b:AV} {r:Bool} {x y:Value} (hr:wKy k a b=some r) (hx:Rv μ a x) (hy:Rv μ b y) (op:BinOp) (p q:Operand) (w:World):(eqGuard op t p q x y).run P w=.ok () w:=by
 unfold wKy at hr
 split at hr <;> cases hr <;> simp only [Rv] at hx hy <;>
  (try obtain ⟨_,_,_,_,_,rfl⟩:=hx) <;> (try obtain ⟨_,_,_,_,rfl⟩:=hx) <;> (try obtain ⟨_,_,_,rfl⟩:=hx) <;> (try obtain ⟨_,_,rfl⟩:=hx) <;> (try subst hx) <;>
  (try obtain ⟨_,_,_,_,_,rfl⟩:=hy) <;> (try obtain ⟨_,_,_,_,rfl⟩:=hy) <;> (try obtain ⟨_,_,_,rfl⟩:=hy) <;> (try obtain ⟨_,_,rfl⟩:=hy) <;> (try subst hy) <;>
  simp only [eqGuard] <;> (cases op <;> rfl)
def wPq (P:Program) (k:Nat) (ne:Bool) (x y:AOd):Op->Bool
 | .binOp b t x' y' _=>(match ne with | true=>b == .neq | false=>b == .eql) && (wEI P t (nilD k) && (wCK x x' && wCK y y'))
 | _=>false
theorem p_eqn {k:Nat} {ne:Bool} {x y:AOd} {op:Op} (hc:wPq P k ne x y op=true):OkP P op (wJX k ne x y):=by
 intro σA h v h' hr
 unfold wPq at hc
 split at hc
 ·rename_i b t x' y' t'
  simp only [hH] at hc
  obtain ⟨c0,c1,c2,c3⟩:=hc
  unfold wJX at hr
  split at hr
  ·rename_i r e1
   cases hr
   refine ⟨rfl,fun μ σ hE=>⟨_,rfl,fun o w ho=>?_⟩⟩
   have g1:=wAG c2 hE
   have g2:=wAG c3 hE
   obtain ⟨d,d1,d2⟩:=wAi c1
   have g3:=wMc d1 d2 e1 g1 g2
   have g4:=fun op=>wJo (P:=P) (t:=t) e1 g1 g2 op x' y'
   refine ⟨by rw [ho];rfl,?_⟩
   generalize hX:ev σ x'=X at g1 g3 g4
   generalize hY:ev σ y'=Y at g2 g3 g4
   have nint:(∀ k n,X ≠ .int k n)/\(∀ k n,X ≠ .float k n)/\(∀ k n m,X ≠ .complex k n m)/\(∀ s,X ≠ .string s):=by
    unfold wKy at e1
    split at e1 <;> cases e1 <;> rename_i e2 e3 <;> rw [e2] at g1 <;> simp only [Rv] at g1 <;>
     (try obtain ⟨_,_,_,_,_,rfl⟩:=g1) <;> (try obtain ⟨_,_,_,_,rfl⟩:=g1) <;> (try obtain ⟨_,_,_,rfl⟩:=g1) <;> (try obtain ⟨_,_,rfl⟩:=g1) <;> (try subst g1) <;>
     exact ⟨by simp,by simp,by simp,by simp⟩
   obtain ⟨n1,n2,n3,n4⟩:=nint
   cases ne
   ·have:=eq_of_beq c0;subst this
    simp only [execOp,ho,Sem.run_bind,hX,hY,g4 .eql w,Result.andThen_ok]
    have:(binOp .eql t X Y).run P w=.ok (.bool r) w:=by
     cases X <;> first | exact absurd rfl (n1 _ _) | exact absurd rfl (n2 _ _) | exact absurd rfl (n3 _ _ _) | exact absurd rfl (n4 _) | (simp only [binOp,Sem.run_bind,g3 w,Result.andThen_ok];rfl)
    rw [this]
    simp [wHm]
   ·have:=eq_of_beq c0;subst this
    simp only [execOp,ho,Sem.run_bind,hX,hY,g4 .neq w,Result.andThen_ok]
    have:(binOp .neq t X Y).run P w=.ok (.bool (!r)) w:=by
     cases X <;> first | exact absurd rfl (n1 _ _) | exact absurd rfl (n2 _ _) | exact absurd rfl (n3 _ _ _) | exact absurd rfl (n4 _) | (simp only [binOp,Sem.run_bind,g3 w,Result.andThen_ok];rfl)
    rw [this]
    simp [wHm]
  ·cases hr
 ·cases hc
mutual
def Sh.depth:Sh->Nat
 | .int=>1
 | .bool=>1
 | .str fs=>wKU fs + 1
def wKU:List (Nat × Nat × Sh)->Nat
 | []=>0
 | (_,_,s) :: fs=>Nat.max s.depth (wKU fs)
end
mutual
def wJp (P:Program):Sh->TypeId->Bool
 | .int,t=>wEI P t fun d=>(wMb d).isSome
 | .bool,t=>wEI P t fun d=>match d with | .bool=>true | _=>false
 | .str fs,t=>(!P.stoodInHeld t) && wEI P t fun d=>match d with | .struct gs=>wLH P fs gs.toList | _=>false
def wLH (P:Program):List (Nat × Nat × Sh)->List Field->Bool
 | [],[]=>true
 | (off, sz, s) :: fs, g :: gs => (g.name != "_") && (nB g.offset off && (szT P g.type sz && (wJp P s g.type && wLH P fs gs)))
 | _,_=>false
end
theorem wMd {s:Sh} (hc:wJp P s t=true) (w:World):(isAgg t).run P w=.ok (match s with | .str _=>true | _=>false) w:=by
 cases s with
 | int =>
  obtain ⟨d,h1,h2⟩:=wAi hc
  rw [wGv h1];cases d <;> first | rfl | cases h2
 | bool =>
  obtain ⟨d,h1,h2⟩:=wAi hc
  rw [wGv h1];cases d <;> first | rfl | cases h2
 | str fs =>
  simp only [wJp,hH] at hc
  obtain ⟨d,h1,h2⟩:=wAi hc.2
  rw [wGv h1];cases d <;> first | rfl | cases h2
theorem wIy {s:Sh} {l:List AV} {vs:List Value} {off sz:Nat} {a:AV} (hc:wJp P s t=true) (hz:szT P t sz=true) (hp:wOJ s l off sz=some a) (hl:RvL μ l vs):∃ v,Rv μ a v/\∀ w,(part t vs.toArray off).run P w=.ok v w:=by
 have hag:=wMd hc
 unfold wOJ at hp
 split at hp
 ·split at hp
  ·rename_i r hs
   cases hp
   obtain ⟨h1,h2⟩:=wFG hs hl
   exact ⟨_,⟨_,h1,rfl⟩,fun w=>wIC hag (wDg hz) rfl⟩
  ·cases hp
 ·rename_i hne
  rw [wGI] at hp
  obtain ⟨v,h1,h2⟩:=wFF hl hp
  refine ⟨v,h2,fun w=>wGb (fun w=>?_) h1⟩
  rw [hag w]
  cases s <;> first | rfl | exact absurd rfl (hne _)
mutual
theorem wKV:∀ (s:Sh) (t:TypeId) (d:Nat) (a b:AV) (x y:Value) (r:Bool),wJp P s t=true->s.depth <= d->wOK s a b=some r->Rv μ a x->Rv μ b y->∀ w,(Op.equalIn d t x y).run P w=.ok r w
 | .int,t,d,a,b,x,y,r,hc,hd,hr,hx,hy,w=>by
  obtain ⟨d,rfl⟩:∃ e,d=e + 1:=⟨d - 1,by simp only [Sh.depth] at hd;omega⟩
  unfold wOK at hr
  split at hr <;> first | (cases hr;done) | skip
  all_goals (try (rename_i h0;cases h0))
  split at hr <;> cases hr
  rename_i hk
  obtain ⟨dd,d1,d2⟩:=wAi hc
  cases dd <;> first | (cases d2;done) | skip
  simp only [Rv] at hx hy
  subst hx hy
  have:=wBo hk;subst this
  simp [Op.equalIn,wAp d1,wDz,wJP]
 | .bool,t,d,a,b,x,y,r,hc,hd,hr,hx,hy,w=>by
  obtain ⟨d,rfl⟩:∃ e,d=e + 1:=⟨d - 1,by simp only [Sh.depth] at hd;omega⟩
  unfold wOK at hr
  split at hr <;> first | (cases hr;done) | skip
  all_goals (try (rename_i h0;cases h0))
  cases hr
  obtain ⟨dd,d1,d2⟩:=wAi hc
  cases dd <;> first | (cases d2;done) | skip
  simp only [Rv] at hx hy
  subst hx hy
  simp [Op.equalIn,wAp d1]
 | .str fs,t,d,a,b,x,y,r,hc,hd,hr,hx,hy,w=>by
  simp only [Sh.depth] at hd
  obtain ⟨d,rfl⟩:∃ e,d=e + 1:=⟨d - 1,by omega⟩
  unfold wOK at hr
  split at hr <;> first | (cases hr;done) | skip
  all_goals (try (rename_i h0;cases h0))
  simp only [wJp,hH,kA] at hc
  obtain ⟨dd,d1,d2⟩:=wAi hc.2
  cases dd <;> first | (cases d2;done) | skip
  rename_i gs
  obtain ⟨xs,h1,rfl⟩:=hx
  obtain ⟨ys,h2,rfl⟩:=hy
  have hf:P.fieldsOf t=gs:=by unfold Program.fieldsOf;rw [d1]
  rw [run_equalIn_agg w d t _ _ (by rw [hf];exact d1) hc.1,hf]
  exact wKW fs gs.toList d _ _ xs ys r d2 (by omega) hr h1 h2 w
theorem wKW:∀ (fs:List (Nat × Nat × Sh)) (gs:List Field) (d:Nat) (l k:List AV) (xs ys:List Value) (r:Bool),wLH P fs gs=true->wKU fs <= d->wRP fs l k=some r->RvL μ l xs->RvL μ k ys ->
  ∀ w,(Op.eqFields d xs.toArray ys.toArray gs).run P w=.ok r w
 | [],[],d,l,k,xs,ys,r,hc,hd,hr,hx,hy,w=>by
  simp only [wRP] at hr;cases hr;rfl
 | (off,sz,s) :: fs,g :: gs,d,l,k,xs,ys,r,hc,hd,hr,hx,hy,w=>by
  simp only [wLH,hH] at hc
  obtain ⟨c1,c2,c3,c4,c5⟩:=hc
  have e:=nA c2
  subst e
  simp only [wRP] at hr
  split at hr
  ·rename_i a b ha hb
   obtain ⟨u,u1,u2⟩:=wIy c4 c3 ha hx
   obtain ⟨v,v1,v2⟩:=wIy c4 c3 hb hy
   have hne : g.name ≠ "_" := by simpa using c1
   have hd1:s.depth <= d:=nR (Nat.le_max_left _ _) hd
   have hd2:wKU fs <= d:=nR (Nat.le_max_right _ _) hd
   cases hq:wOK s a b with
   | none=>rw [hq] at hr;cases hr
   | some q =>
    have hE:=wKV s g.type d a b u v q c4 hd1 hq u1 v1
    rw [hq] at hr
    cases q with
    | true =>
     simp only at hr
     have hF:=wKW fs gs d l k xs ys r c5 hd2 hr hx hy
     simp [Op.eqFields,hne,u2,v2,hE,hF,Result.andThen]
    | false =>
     simp only [nE] at hr
     subst hr
     simp [Op.eqFields,hne,u2,v2,hE,Result.andThen]
  ·cases hr
 | [],_ :: _,d,l,k,xs,ys,r,hc,hd,hr,hx,hy,w=>by simp [wLH] at hc
 | _ :: _,[],d,l,k,xs,ys,r,hc,hd,hr,hx,hy,w=>by simp [wLH] at hc
end
theorem wOQ {fs:List (Nat × Nat × Sh)} {r:Bool}:∀ {a b:AV},wOK (.str fs) a b=some r->∃ l k,a=.agg l/\b=.agg k:=by
 intro a b h
 cases a <;> cases b <;> first | exact ⟨_,_,rfl,rfl⟩ | (simp [wOK] at h;done)
def wPr (P:Program) (ne:Bool) (s:Sh) (x y:AOd):Op->Bool
 | .binOp b t x' y' _=>(match ne with | true=>b == .neq | false=>b == .eql) && (Nat.ble s.depth 10000 && (wJp P s t && ((match s with | .str _=>true | _=>false) && ((!P.eqGuardType P.depth t) && (wCK x x' && wCK y y')))))
 | _=>false
theorem p_eqs {ne:Bool} {s:Sh} {x y:AOd} {op:Op} (hc:wPr P ne s x y op=true):OkP P op (wJY ne s x y):=by
 intro σA h v h' hr
 unfold wPr at hc
 split at hc
 ·rename_i b t x' y' t'
  simp only [hH,kA] at hc
  obtain ⟨c0,c1,c2,c3,c4,c5,c6⟩:=hc
  unfold wJY at hr
  split at hr
  ·rename_i r e1
   cases hr
   refine ⟨rfl,fun μ σ hE=>⟨_,rfl,fun o w ho=>?_⟩⟩
   have g1:=wAG c5 hE
   have g2:=wAG c6 hE
   have g3:∀ w,(Op.equal t (ev σ x') (ev σ y')).run P w=.ok r w:=wKV s t 10000 _ _ _ _ r c2 (nO c1) e1 g1 g2
   cases s <;> first | (cases c3;done) | skip
   obtain ⟨l,k,h1,h2⟩:=wOQ e1
   rw [h1] at g1;rw [h2] at g2
   obtain ⟨xs,_,g1⟩:=g1
   obtain ⟨ys,_,g2⟩:=g2
   rw [g1,g2] at g3
   refine ⟨by rw [ho];rfl,?_⟩
   cases ne
   ·have:=eq_of_beq c0;subst this
    simp [execOp,ho,g1,g2,binOp,eqGuard,c4,g3,wHm]
   ·have:=eq_of_beq c0;subst this
    simp [execOp,ho,g1,g2,binOp,eqGuard,c4,g3,wHm]
  ·cases hr
 ·cases hc
end
end
end Go.KX
namespace Go.KX
noncomputable section
open Go.RowKit Go.KL
section
variable {C:Chk} {P:Program} {μ μ':Mu} {w w':World} {h h':AH} {σ:Env} {σA:Tr AV} {t e:TypeId} {o:Oper}
def wPs (P:Program) (off:Nat) (x:AOd):Op->Bool
 | .fieldAddr t y i=>wEI P t (fun d=>match d with
   | .struct fs=>match fs[i]? with
    | some f=>nB f.offset off && (match P.info? f.type with | some j=>nu 0 j.size | none=>false)
    | none=>false
   | _=>false) && wCK x y
 | _=>false
theorem p_fad {off:Nat} {x:AOd} {op:Op} (hc:wPs P off x op=true):OkP P op (wJc off x):=by
 intro σA h v h' hr
 unfold wPs at hc
 split at hc
 ·rename_i t y i
  simp only [hH] at hc
  obtain ⟨c1,c2⟩:=hc
  unfold wJc at hr
  split at hr
  ·rename_i b oo hb
   cases hr
   refine ⟨rfl,fun μ σ hE=>?_⟩
   have g:=wAG c2 hE;rw [hb] at g
   obtain ⟨c,g1,g2⟩:=g
   refine ⟨_,⟨c,g1,rfl⟩,fun o w ho=>?_⟩
   obtain ⟨d,d1,d2⟩:=wAi c1
   split at d2
   ·rename_i fs
    split at d2
    ·rename_i f hf
     simp only [hH] at d2
     have e:=nA d2.1
     subst e
     have d3:=d2.2
     split at d3
     ·rename_i j hj
      have hpos:0 < j.size:=by simpa [nK] using d3
      obtain ⟨n,hn⟩:∃ n,j.size=n + 1:=⟨j.size - 1,by omega⟩
      exact Runs.fa (n:=n) ho g2 (wAp d1) hf (fun w=>by rw [<- hn];simp [sizeOf,typeInfo,hj])
     ·cases d3
    ·cases d2
   ·cases d2
  ·cases hr
 ·cases hc
def wPt (P:Program) (off:Nat) (x:AOd):Op->Bool
 | .field t y i=>wEI P t (fun d=>match d with
   | .struct fs=>match fs[i]? with
    | some f=>nB f.offset off && wOO P f.type false
    | none=>false
   | _=>false) && wCK x y
 | _=>false
def wMe (P:Program) (off n:Nat) (x:AOd):Op->Bool
 | .field t y i=>wEI P t (fun d=>match d with
   | .struct fs=>match fs[i]? with
    | some f=>nB f.offset off && (wOO P f.type true && szT P f.type n)
    | none=>false
   | _=>false) && wCK x y
 | _=>false
theorem p_fld {off:Nat} {x:AOd} {op:Op} (hc:wPt P off x op=true):OkP P op (wJd off x):=by
 intro σA h v h' hr
 unfold wPt at hc
 split at hc
 ·rename_i t y i
  simp only [hH] at hc
  obtain ⟨c1,c2⟩:=hc
  unfold wJd at hr
  split at hr
  ·rename_i l hb
   obtain ⟨hr2,rfl⟩:=wBr hr
   refine ⟨rfl,fun μ σ hE=>?_⟩
   have g:=wAG c2 hE;rw [hb] at g
   obtain ⟨vs,g1,g2⟩:=g
   rw [wGI] at hr2
   obtain ⟨cv,g3,g4⟩:=wFF g1 hr2
   refine ⟨cv,g4,fun o w ho=>?_⟩
   obtain ⟨d,d1,d2⟩:=wAi c1
   split at d2
   ·split at d2
    ·rename_i f hf
     simp only [hH] at d2
     have e:=nA d2.1
     subst e
     exact Runs.fld ho g2 (wAp d1) hf (wGb (wET d2.2) g3)
    ·cases d2
   ·cases d2
  ·cases hr
 ·cases hc
theorem wDO {x:Option (List AV)} {v:AV} (hr:wHj x=some v):∃ l,x=some l/\v=.agg l:=by
 cases x <;> cases hr;exact ⟨_,rfl,rfl⟩
theorem wRZ {off n:Nat} {x:AOd} {op:Op} (hc:wMe P off n x op=true):OkP P op (wGq off n x):=by
 intro σA h v h' hr
 unfold wMe at hc
 split at hc
 ·rename_i t y i
  simp only [hH] at hc
  obtain ⟨c1,c2⟩:=hc
  unfold wGq at hr
  split at hr
  ·rename_i l hb
   obtain ⟨hr2,rfl⟩:=wBr hr
   obtain ⟨r,hr3,rfl⟩:=wDO hr2
   refine ⟨rfl,fun μ σ hE=>?_⟩
   have g:=wAG c2 hE;rw [hb] at g
   obtain ⟨vs,g1,g2⟩:=g
   obtain ⟨g3,g4⟩:=wFG hr3 g1
   refine ⟨_,⟨_,g3,rfl⟩,fun o w ho=>?_⟩
   obtain ⟨d,d1,d2⟩:=wAi c1
   split at d2
   ·split at d2
    ·rename_i f hf
     simp only [hH] at d2
     have e:=nA d2.1
     subst e
     exact Runs.fld ho g2 (wAp d1) hf (wIC (wET d2.2.1) (wDg d2.2.2) rfl)
    ·cases d2
   ·cases d2
  ·cases hr
 ·cases hc
theorem wCH {a:AV} {n:Nat} (hr:wGk a=some n):a=.int .i64 n:=by
 unfold wGk at hr
 split at hr
 ·cases hr;rfl
 ·cases hr
def wPu (P:Program) (sz:Nat) (x y:AOd):Op->Bool
 | .indexAddr t x' y'=>wEI P t (fun d=>match d with
   | .slice e=>szT P e sz
   | _=>false) && (wCK x x' && wCK y y')
 | _=>false
theorem p_iad {sz:Nat} {x y:AOd} {op:Op} (hc:wPu P sz x y op=true):OkP P op (wJe sz x y):=by
 intro σA h v h' hr
 unfold wPu at hc
 split at hc
 ·rename_i t x' y'
  simp only [hH] at hc
  obtain ⟨c1,c2,c3⟩:=hc
  obtain ⟨d,d1,d2⟩:=wAi c1
  split at d2
  ·rename_i e
   unfold wJe at hr
   split at hr
   ·rename_i b off n c i hb hi
    obtain ⟨hlt,hr⟩:=wBi hr
    cases hr
    have hlt:i < n:=by simpa [nK] using hlt
    have hi:=wCH hi
    refine ⟨rfl,fun μ σ hE=>?_⟩
    have g:=wAG c2 hE;rw [hb] at g
    have k:=wAG c3 hE;rw [hi] at k
    obtain ⟨m,g1,g2,g3⟩:=g
    refine ⟨_,⟨m,g1,rfl⟩,fun o w ho=>?_⟩
    have:=Runs.ia (P:=P) (o:=o) (w:=w) (i:=(i:Int)) ho g3 k (wAp d1) (wDg d2) (by omega) (by omega)
    simpa using this
   ·rename_i b eo co n i hb hi
    obtain ⟨hlt,hr⟩:=wBi hr
    cases hr
    have hlt:i < n:=by simpa [nK] using hlt
    have hi:=wCH hi
    refine ⟨rfl,fun μ σ hE=>?_⟩
    have g:=wAG c2 hE;rw [hb] at g
    have k:=wAG c3 hE;rw [hi] at k
    obtain ⟨m,g1,g2,g3⟩:=g
    refine ⟨_,⟨m,g1,rfl⟩,fun o w ho=>?_⟩
    have:=Runs.ia (P:=P) (o:=o) (w:=w) (i:=(i:Int)) ho g3 k (wAp d1) (wDg d2) (by omega) (by omega)
    simpa using this
   ·cases hr
  ·cases d2
 ·cases hc
def wMf (P:Program) (sz n:Nat) (x y:AOd):Op->Bool
 | .indexAddr t x' y'=>wEI P t (fun d=>match d with
   | .array m e=>nB m n && szT P e sz
   | _=>false) && (wCK x x' && wCK y y')
 | _=>false
theorem wRa {sz n:Nat} {x y:AOd} {op:Op} (hc:wMf P sz n x y op=true):OkP P op (wGr sz n x y):=by
 intro σA h v h' hr
 unfold wMf at hc
 split at hc
 ·rename_i t x' y'
  simp only [hH] at hc
  obtain ⟨c1,c2,c3⟩:=hc
  obtain ⟨d,d1,d2⟩:=wAi c1
  split at d2
  ·rename_i m e
   simp only [hH] at d2
   have em:=nA d2.1
   subst em
   unfold wGr at hr
   split at hr
   ·rename_i b off i hb hi
    obtain ⟨hlt,hr⟩:=wBi hr
    cases hr
    have hlt:i < m:=by simpa [nK] using hlt
    have hi:=wCH hi
    refine ⟨rfl,fun μ σ hE=>?_⟩
    have g:=wAG c2 hE;rw [hb] at g
    have k:=wAG c3 hE;rw [hi] at k
    obtain ⟨q,g1,g3⟩:=g
    refine ⟨_,⟨q,g1,rfl⟩,fun o w ho=>?_⟩
    have:=Runs.iaA (P:=P) (o:=o) (w:=w) (i:=(i:Int)) ho g3 k (wAp d1) (wDg d2.2) (by omega) (by omega)
    simpa using this
   ·cases hr
  ·cases d2
 ·cases hc
def c_ix (P:Program) (n:Nat) (x y:AOd):Op->Bool
 | .index t x' y'=>wEI P t (fun d=>match d with
   | .array m e=>nB m n && (szT P e 1 && wOO P e false)
   | _=>false) && (wCK x x' && wCK y y')
 | _=>false
theorem p_ix {n:Nat} {x y:AOd} {op:Op} (hc:c_ix P n x y op=true):OkP P op (wPd n x y):=by
 intro σA h v h' hr
 unfold c_ix at hc
 split at hc
 ·rename_i t x' y'
  simp only [hH] at hc
  obtain ⟨c1,c2,c3⟩:=hc
  obtain ⟨d,d1,d2⟩:=wAi c1
  split at d2
  ·rename_i m e
   simp only [hH] at d2
   have em:=nA d2.1
   subst em
   unfold wPd at hr
   split at hr
   ·rename_i l i hb hi
    obtain ⟨hlt,hr⟩:=wBi hr
    obtain ⟨hr2,rfl⟩:=wBr hr
    have hlt:i < m:=by simpa [nK] using hlt
    have hi:=wCH hi
    refine ⟨rfl,fun μ σ hE=>?_⟩
    have g:=wAG c2 hE;rw [hb] at g
    have k:=wAG c3 hE;rw [hi] at k
    obtain ⟨vs,g1,g2⟩:=g
    rw [wGI] at hr2
    obtain ⟨cv,g3,g4⟩:=wFF g1 hr2
    refine ⟨cv,g4,fun o w ho=>?_⟩
    exact Runs.ixA (P:=P) (o:=o) (w:=w) (i:=(i:Int)) ho g2 k (wAp d1) (wDg d2.2.1) (by omega) (by omega) (wGb (wET d2.2.2) (by simpa using g3))
   ·cases hr
  ·cases d2
 ·cases hc
def wPv (P:Program) (sz n:Nat) (x y:AOd):Op->Bool
 | .index t x' y'=>wEI P t (fun d=>match d with
   | .array m e=>nB m n && (szT P e sz && wOO P e true)
   | _=>false) && (wCK x x' && wCK y y')
 | _=>false
theorem p_ixA {sz n:Nat} {x y:AOd} {op:Op} (hc:wPv P sz n x y op=true):OkP P op (wJf sz n x y):=by
 intro σA h v h' hr
 unfold wPv at hc
 split at hc
 ·rename_i t x' y'
  simp only [hH] at hc
  obtain ⟨c1,c2,c3⟩:=hc
  obtain ⟨d,d1,d2⟩:=wAi c1
  split at d2
  ·rename_i m e
   simp only [hH] at d2
   have em:=nA d2.1
   subst em
   unfold wJf at hr
   split at hr
   ·rename_i l i hb hi
    obtain ⟨hlt,hr⟩:=wBi hr
    obtain ⟨hr2,rfl⟩:=wBr hr
    obtain ⟨r,hr3,rfl⟩:=wDO hr2
    have hlt:i < m:=by simpa [nK] using hlt
    have hi:=wCH hi
    refine ⟨rfl,fun μ σ hE=>?_⟩
    have g:=wAG c2 hE;rw [hb] at g
    have k:=wAG c3 hE;rw [hi] at k
    obtain ⟨vs,g1,g2⟩:=g
    obtain ⟨g3,g4⟩:=wFG hr3 g1
    refine ⟨_,⟨_,g3,rfl⟩,fun o w ho=>?_⟩
    exact Runs.ixA (P:=P) (o:=o) (w:=w) (i:=(i:Int)) ho g2 k (wAp d1) (wDg d2.2.1) (by omega) (by omega) (wIC (wET d2.2.2) (wDg d2.2.1) (by simp))
   ·cases hr
  ·cases d2
 ·cases hc
def wPE:Option AOd->Option Operand->Bool
 | none,none=>true
 | some x,some y=>wCK x y
 | _,_=>false
theorem wMg {x:Option AOd} {y:Option Operand} {r:Option Nat} (hr:bnd σA x=some r) (hc:wPE x y=true) (hE:EnvR μ σA σ):(r=none/\y=none) \/ ∃ n z,r=some n/\y=some z/\ev σ z=.int .i64 n:=by
 cases x with
 | none =>
  cases y with
  | none=>cases hr;exact .inl ⟨rfl,rfl⟩
  | some _=>cases hc
 | some x =>
  cases y with
  | none=>cases hc
  | some y =>
   simp only [bnd] at hr
   split at hr
   ·rename_i n hn
    cases hr
    have:=wAG (show wCK x y=true from hc) hE
    rw [wCH hn] at this
    exact .inr ⟨n,y,rfl,rfl,this⟩
   ·cases hr
def vI (n:Nat):Value:=.int .i64 (n:Int)
theorem wGw {P:Program} {n y:Nat} {code:BoundsCode} (hle:n <= y) (w:World):(Instr.sliceBound (vI n) y code).run P w=.ok n w:=by
 have h1:(n:Int) <= y:=by omega
 simp [Instr.sliceBound,vI,asIntOf,h1]
theorem wEf {P:Program} {s:Bool} {len cap:Nat} {lo hi mx:Option Nat} {l hh m:Nat} (hm:m=mx.getD cap) (hh':hh=hi.getD len) (hl:l=lo.getD 0) (h1:l <= hh) (h2:hh <= m) (h3:m <= cap) (hmh:mx.isSome=true->hi.isSome=true) (w:World) :
  (Instr.sliceBounds s len cap (lo.map vI) (hi.map vI) (mx.map vI)).run P w=.ok (l,hh,m) w:=by
 subst hm hh' hl
 unfold Instr.sliceBounds
 cases mx <;> cases hi <;> cases lo <;> simp only [ke,kf] at h1 h2 h3 <;> (try (simp at hmh;done)) <;> simp [wGw h1,wGw h2,wGw h3]
theorem wGx {x:Option AOd} {y:Option Operand} {r:Option Nat} (hr:bnd σA x=some r) (hc:wPE x y=true) (hE:EnvR μ σA σ):y.map (ev σ)=r.map vI:=by
 rcases wMg hr hc hE with ⟨rfl,rfl⟩ | ⟨n,z,rfl,rfl,h1⟩
 ·rfl
 ·simp [h1,vI]
theorem wFI (b off n:Nat):(Addr.add ⟨b,off,none⟩ n)=⟨b,off + n,none⟩:=wDv b off n
theorem wMh {P:Program} {sz:Nat} {a v:AV} {x:Value} {lo hi mx:Option Nat} (hr0:wRQ sz a (orD lo 0) hi mx=some v) (hx:Rv μ a x) (hmh:mx.isSome=true->hi.isSome=true) :
  ∃ A len cap cv l hh m,x=.slice A len cap/\Rv μ v cv/\(∀ s w,(Instr.sliceBounds s len cap (lo.map vI) (hi.map vI) (mx.map vI)).run P w=.ok (l,hh,m) w) /\
   cv=.slice (if m=l then A else A.map (·.add (l * sz))) (hh - l) (m - l):=by
 obtain ⟨l,hl,hr⟩:∃ l,lo.getD 0=l/\wRQ sz a l hi mx=some v:=⟨_,rfl,by rw [<- wLr];exact hr0⟩
 clear hr0
 unfold wRQ at hr
 split at hr
 ·obtain ⟨hb,hr⟩:=wBi hr
  cases hr
  simp only [hH] at hb
  obtain ⟨⟨b1,b2⟩,b3⟩:=hb
  have l0:=nA b1
  have hx:x=.slice none 0 0:=hx
  subst hx
  have h2:hi.getD 0=0:=by cases hi with | none=>rfl | some n=>exact nA b2
  have h3:mx.getD 0=0:=by cases mx with | none=>rfl | some n=>exact nA b3
  refine ⟨none,0,0,_,0,0,0,rfl,(rfl:Rv μ .snil _),fun s w=>wEf h3.symm h2.symm (by rw [hl,l0]) (nD _) (nD _) (nD _) hmh w,by simp⟩
 ·rename_i b off n c
  obtain ⟨d,g1,g2,rfl⟩:=hx
  simp only [wLr] at hr
  obtain ⟨hb,hr⟩:=wBi hr
  cases hr
  simp only [hH,nQ] at hb
  obtain ⟨⟨b1,b2⟩,b3⟩:=hb
  refine ⟨_,n,c,_,l,hi.getD n,mx.getD c,rfl,⟨d,g1,by omega,rfl⟩,fun s w=>wEf rfl rfl hl.symm b1 b2 b3 hmh w,?_⟩
  by_cases e:mx.getD c=l
  ·simp [e]
  ·have:nB (mx.getD c) l=false:=by
    cases hq:nB (mx.getD c) l with
    | false=>rfl
    | true=>exact absurd (nA hq) e
   simp [e,this,wFI]
 ·rename_i b eo co n
  obtain ⟨d,g1,g2,rfl⟩:=hx
  simp only [wLr] at hr
  split at hr
  ·obtain ⟨hb,hr⟩:=wBi hr
   simp only [hH,nQ] at hb
   obtain ⟨b1,b2⟩:=hb
   have fin:∀ cv,cv=Value.slice (if d.2 - eo=l then some ⟨d.1,co,none⟩ else (some (⟨d.1,co,none⟩:Addr)).map (·.add (l * sz))) (hi.getD n - l) (d.2 - eo - l)->Rv μ v cv ->
     ∃ A len cap cv l hh m,Value.slice (some ⟨d.1,co,none⟩) n (d.2 - eo)=.slice A len cap/\Rv μ v cv/\(∀ s w,(Instr.sliceBounds s len cap (lo.map vI) (hi.map vI) ((none:Option Nat).map vI)).run P w=.ok (l,hh,m) w) /\
      cv=.slice (if m=l then A else A.map (·.add (l * sz))) (hh - l) (m - l):=fun cv e hv =>
    ⟨_,n,d.2 - eo,cv,l,hi.getD n,d.2 - eo,rfl,hv,fun s w=>wEf rfl rfl hl.symm b1 (by simp only [ke];omega) (nD _) hmh w,e⟩
   split at hr
   ·cases hr
    refine fin _ rfl ⟨d,g1,by omega,?_⟩
    simp [Addr.add]
   ·rename_i l0
    split at hr
    ·rename_i hlt
     cases hr
     have hlt:l < n:=by simpa [nK] using hlt
     refine fin _ rfl ⟨d,g1,by omega,?_⟩
     rw [if_neg (by omega)]
     simp [wFI,Nat.sub_sub]
    ·rename_i hlt
     cases hr
     have hlt:¬ l < n:=by
      intro hq
      have:nu l n=true:=by rw [nK];exact hq
      rw [this] at hlt;cases hlt
     have e1:hi.getD n - l=0:=by omega
     refine fin _ rfl ?_
     rw [e1]
     by_cases e2:d.2 - eo=l
     ·rw [if_pos e2];exact ⟨d,g1,co,by congr 1;omega⟩
     ·rw [if_neg e2];exact ⟨d,g1,co + l * sz,by simp only [kg,wFI];congr 1;omega⟩
  ·rename_i m
   obtain ⟨hb,hr⟩:=wBi hr
   cases hr
   simp only [hH,nQ] at hb
   obtain ⟨⟨b1,b2⟩,b3⟩:=hb
   refine ⟨_,n,d.2 - eo,_,l,hi.getD n,m,rfl,⟨d,g1,by omega,rfl⟩,fun s w=>wEf (mx:=some m) rfl rfl hl.symm b1 b2 (by simp only [kf];omega) hmh w,?_⟩
   by_cases e:m=l
   ·simp [e]
   ·have:nB m l=false:=by
     cases hq:nB m l with
     | false=>rfl
     | true=>exact absurd (nA hq) e
    simp [e,this,wFI]
 ·cases hr
def wPw (P:Program) (sz:Nat) (x:AOd) (lo hi mx:Option AOd):Op->Bool
 | .slice t y l m n=>wEI P t (fun d=>match d with
   | .slice e=>szT P e sz
   | _=>false) && (wCK x y && (wPE lo l && (wPE hi m && (wPE mx n && (!mx.isSome || hi.isSome)))))
 | _=>false
theorem p_slc {sz:Nat} {x:AOd} {lo hi mx:Option AOd} {op:Op} (hc:wPw P sz x lo hi mx op=true):OkP P op (wJb sz x lo hi mx):=by
 intro σA h v h' hr
 unfold wPw at hc
 split at hc
 ·rename_i t y l m n
  simp only [hH] at hc
  obtain ⟨c1,c2,c3,c4,c5,c6⟩:=hc
  obtain ⟨d,d1,d2⟩:=wAi c1
  split at d2
  ·rename_i e
   unfold wJb at hr
   split at hr
   ·rename_i rl rh rm h1 h2 h3
    obtain ⟨hr2,rfl⟩:=wBr hr
    refine ⟨rfl,fun μ σ hE=>?_⟩
    have hmh:rm.isSome=true->rh.isSome=true:=by
     intro hs
     rcases wMg h3 c5 hE with ⟨rfl,_⟩ | ⟨_,z,rfl,rfl,_⟩
     ·cases hs
     ·cases mx with
      | none=>simp [bnd] at h3
      | some _ =>
       cases hi with
       | none=>simp at c6
       | some _ =>
        rcases wMg h2 c4 hE with ⟨rfl,e0⟩ | ⟨_,_,rfl,_⟩
        ·subst e0;simp [wPE] at c4
        ·rfl
    obtain ⟨A,len,cap,cv,ll,hh,mm,e1,e2,e3,e4⟩:=wMh (P:=P) hr2 (wAG c2 hE) hmh
    refine ⟨cv,e2,fun o w ho=>⟨by rw [ho];rfl,?_⟩⟩
    have b1:=wGx h1 c3 hE
    have b2:=wGx h2 c4 hE
    have b3:=wGx h3 c5 hE
    simp [execOp,ho,Instr.sliceAt,Instr.slice,wAp d1,e1,b1,b2,b3,e3,wDg d2,e4]
   ·cases hr
  ·cases d2
 ·cases hc
def wMi (P:Program) (sz n:Nat) (x:AOd) (lo hi:Option AOd):Op->Bool
 | .slice t y l m none=>wEI P t (fun d=>match d with
   | .array k e=>nB k n && szT P e sz
   | _=>false) && (wCK x y && (wPE lo l && wPE hi m))
 | _=>false
theorem wRb {sz n:Nat} {x:AOd} {lo hi:Option AOd} {op:Op} (hc:wMi P sz n x lo hi op=true):OkP P op (wGp sz n x lo hi):=by
 intro σA h v h' hr
 unfold wMi at hc
 split at hc
 ·rename_i t y l m
  simp only [hH] at hc
  obtain ⟨c1,c2,c3,c4⟩:=hc
  obtain ⟨d,d1,d2⟩:=wAi c1
  split at d2
  ·rename_i k e
   simp only [hH] at d2
   have ek:=nA d2.1
   subst ek
   unfold wGp at hr
   split at hr
   ·rename_i rl rh b off h1 h2 hb
    obtain ⟨hr2,rfl⟩:=wBr hr
    refine ⟨rfl,fun μ σ hE=>?_⟩
    have g:=wAG c2 hE;rw [hb] at g
    obtain ⟨c,g1,g2⟩:=g
    obtain ⟨A,len,cap,cv,ll,hh,mm,e1,e2,e3,e4⟩:=wMh (P:=P) (μ:=μ) (x:=.slice (some ⟨c.1,off,none⟩) k k) hr2 ⟨c,g1,nD _,rfl⟩ (by intro hs;cases hs)
    cases e1
    refine ⟨cv,e2,fun o w ho=>⟨by rw [ho];rfl,?_⟩⟩
    have b1:=wGx h1 c3 hE
    have b2:=wGx h2 c4 hE
    have e3':=e3 false
    simp only [Option.map_none] at e3'
    simp [execOp,ho,Instr.sliceAt,wAp d1,g2,Instr.sureAddr,b1,b2,e3',wDg d2.2,e4]
    split <;> simp
   ·cases hr
  ·cases d2
 ·cases hc
end
end
end Go.KX
namespace Go.KX
noncomputable section
open Go.RowKit Go.KL
section
variable {C:Chk} {P:Program} {μ μ':Mu} {w w':World} {h h':AH} {σ:Env} {σA:Tr AV} {t e:TypeId} {o:Oper}
def wIz (place:Nat->Option (Nat × Nat)):List (Nat × Nat × AOd)->List (Nat × Operand)->Bool
 | [],[]=>true
 | (off,n,x) :: ps,(i,y) :: qs=>(match place i with | some (o,s)=>nB o off && nB s n | none=>false) && (wCK x y && wIz place ps qs)
 | _,_=>false
theorem wGy {place:Nat->Option (Nat × Nat)} (hE:EnvR μ σA σ):∀ {ps:List (Nat × Nat × AOd)} {qs:List (Nat × Operand)} {cs r:List AV} {CS:List Value},wIH σA cs ps=some r->wIz place ps qs=true->RvL μ cs CS ->
  ∃ R,lay place CS (qs.map fun (p:Nat × Operand)=>(p.1,ev σ p.2))=some R/\RvL μ r R/\R.length=CS.length
 | [],[],cs,r,CS,hr,_,hl=>by
  simp only [wIH] at hr;cases hr;exact ⟨CS,rfl,hl,rfl⟩
 | (off,n,x) :: ps,(i,y) :: qs,cs,r,CS,hr,hc,hl=>by
  simp only [wIz,hH] at hc
  obtain ⟨c1,c2,c3⟩:=hc
  split at c1
  ·rename_i o s hp
   simp only [hH] at c1
   have e1:=nA c1.1
   have e2:=nA c1.2
   subst e1 e2
   simp only [wIH] at hr
   split at hr
   ·rename_i hn
    have hn:=nA hn
    split at hr
    ·rename_i cs' ho
     obtain ⟨vs,v1,v2⟩:=wGR (wAG c2 hE)
     obtain ⟨g1,g2⟩:=wIM ho hl v1
     have hlen:vs.length=s:=by rw [wCu v1,<- wES,hn]
     obtain ⟨R,r1,r2,r3⟩:=wGy hE hr c3 g2
     refine ⟨R,?_,r2,by rw [r3,wCe]⟩
     rw [nH,lay,hp]
     simp only [v2,kX,hlen,beq_self_eq_true,Bool.true_and]
     rw [if_pos (by rw [nQ];omega)]
     exact r1
    ·cases hr
   ·cases hr
  ·cases c1
 | [],_ :: _,cs,r,CS,hr,hc,hl=>by simp [wIz] at hc
 | _ :: _,[],cs,r,CS,hr,hc,hl=>by simp [wIz] at hc
def plL (P:Program):List Field->Option (List (Nat × Nat))
 | []=>some []
 | f :: fs=>match P.info? f.type,plL P fs with
  | some i,some l=>some ((f.offset,i.size) :: l)
  | _,_=>none
theorem wRc:∀ {fs:List Field} {pl:List (Nat × Nat)},plL P fs=some pl->wOw P fs.toArray pl:=by
 intro fs pl hp w
 rw [List.mapM_toArray]
 have key:∀ (fs:List Field) (pl:List (Nat × Nat)),plL P fs=some pl->((fs.mapM fun f=>do pure (f.offset,<- sizeOf f.type):Sem (List (Nat × Nat)))).run P w=.ok pl w:=by
  intro fs
  induction fs with
  | nil=>intro pl hp;cases hp;simp
  | cons f fs ih =>
   intro pl hp
   unfold plL at hp
   split at hp
   ·rename_i i l h1 h2
    cases hp
    have hs:(sizeOf f.type).run P w=.ok i.size w:=by simp [sizeOf,typeInfo,h1]
    simp only [List.mapM_cons,Sem.run_bind,hs,Result.andThen_ok,Sem.run_pure,ih l h2]
   ·cases hp
 have:=key fs pl hp
 simp only [Sem.run_map,this,Result.andThen_ok]
def wPx (P:Program) (z:List AV) (ps:List (Nat × Nat × AOd)):Op->Bool
 | .build t qs=>zT P t z && wEI P t (fun d=>match d with
   | .struct fs=>match plL P fs.toList with
    | some pl=>wIz (fun i=>pl[i]?) ps qs.toList
    | none=>false
   | .array _ e=>match P.info? e with
    | some j=>wIz (fun i=>some (i * j.size,j.size)) ps qs.toList
    | none=>false
   | _=>false)
 | _=>false
theorem p_bld {z:List AV} {ps:List (Nat × Nat × AOd)} {op:Op} (hc:wPx P z ps op=true):OkP P op (wME z ps):=by
 intro σA h v h' hr
 unfold wPx at hc
 split at hc
 ·rename_i t qs
  simp only [hH] at hc
  obtain ⟨c1,c2⟩:=hc
  obtain ⟨hr2,rfl⟩:=wBr hr
  obtain ⟨r,hr3,rfl⟩:=wDO hr2
  obtain ⟨i,zv,z1,z2,z3⟩:=wFH c1
  obtain ⟨d,d1,d2⟩:=wAi c2
  refine ⟨rfl,fun μ σ hE=>?_⟩
  split at d2
  ·rename_i fs
   split at d2
   ·rename_i pl hpl
    obtain ⟨R,r1,r2,_⟩:=wGy hE hr3 d2 (z3 μ)
    refine ⟨_,⟨R,r2,rfl⟩,fun o w ho=>?_⟩
    exact Runs.build (P:=P) (ps:=qs.toList) (z:=zv.cells.toList) ho rfl (wDh z1 z2) ⟨fs,wAp d1,wRc hpl⟩ (by simp) r1
   ·cases d2
  ·rename_i n e
   split at d2
   ·rename_i j hj
    obtain ⟨R,r1,r2,_⟩:=wGy hE hr3 d2 (z3 μ)
    refine ⟨_,⟨R,r2,rfl⟩,fun o w ho=>?_⟩
    exact Runs.buildA (P:=P) (ps:=qs.toList) (z:=zv.cells.toList) ho rfl (wDh z1 z2) (wAp d1) (fun w=>by simp [sizeOf,typeInfo,hj]) (by simp) r1
   ·cases d2
  ·cases d2
 ·cases hc
def wLI (P:Program) (b:Builtin) (x:AOd):Op->Bool
 | .call c=>match c.callee with
  | .builtin b'=>(b' == b) && (match c.args.toList,c.argTypes.toList with
   | [y],[t]=>wEI P t (fun d=>match d with | .slice _=>true | _=>false) && wCK x y
   | _,_=>false)
  | _=>false
 | _=>false
theorem wKX {b:Builtin} {x:AOd} {op:Op} (hc:wLI P b x op=true):∃ y t e,op=.call { callee:=.builtin b,args:=#[y],argTypes:=#[t] }/\P.underlying t=some (.slice e)/\wCK x y=true:=by
 unfold wLI at hc
 split at hc
 ·rename_i c
  obtain ⟨ce,args,tys⟩:=c
  simp only at hc
  split at hc
  ·rename_i b'
   simp only [hH,beq_iff_eq] at hc
   obtain ⟨rfl,h2⟩:=hc
   split at h2
   ·rename_i y t h3 h4
    simp only [hH] at h2
    obtain ⟨d,d1,d2⟩:=wAi h2.1
    cases d <;> first | (cases d2;done) | skip
    refine ⟨y,t,_,?_,d1,h2.2⟩
    congr 2
    ·exact nI (by simpa using h3)
    ·exact nI (by simpa using h4)
   ·cases h2
  ·cases hc
 ·cases hc
theorem p_len {x:AOd} {op:Op} (hc:wLI P .len x op=true):OkP P op (wJh x):=by
 intro σA h v h' hr
 obtain ⟨y,t,e,rfl,d1,c2⟩:=wKX hc
 unfold wJh at hr
 split at hr <;> cases hr <;> rename_i hb
 ·refine ⟨rfl,fun μ σ hE=>⟨_,rfl,fun o w ho=>?_⟩⟩
  have g:=wAG c2 hE;rw [hb] at g
  exact Runs.len ho g (wAp d1)
 ·refine ⟨rfl,fun μ σ hE=>⟨_,rfl,fun o w ho=>?_⟩⟩
  have g:=wAG c2 hE;rw [hb] at g
  obtain ⟨c,_,_,g⟩:=g
  exact Runs.len ho g (wAp d1)
 ·refine ⟨rfl,fun μ σ hE=>⟨_,rfl,fun o w ho=>?_⟩⟩
  have g:=wAG c2 hE;rw [hb] at g
  obtain ⟨c,_,_,g⟩:=g
  exact Runs.len ho g (wAp d1)
 ·refine ⟨rfl,fun μ σ hE=>⟨_,rfl,fun o w ho=>?_⟩⟩
  have g:=wAG c2 hE;rw [hb] at g
  obtain ⟨c,_,q,g⟩:=g
  exact Runs.len ho g (wAp d1)
theorem Runs.cap {t e:TypeId} {x:Operand} {a:Option Addr} {n c:Nat} (ho:o.op=.call { callee:=.builtin .cap,args:=#[x],argTypes:=#[t] }) (hx:ev σ x=.slice a n c)
  (ht:∀ w,(underlying t).run P w=.ok (.slice e) w):Runs P σ w o (.int .i64 c) w :=
 ⟨by rw [ho];rfl,by simp [execOp,ho,resolve,invoke,builtin,Builtin.cap_,hx,ht,goInt]⟩
theorem p_cap {x:AOd} {op:Op} (hc:wLI P .cap x op=true):OkP P op (wJi x):=by
 intro σA h v h' hr
 obtain ⟨y,t,e,rfl,d1,c2⟩:=wKX hc
 unfold wJi at hr
 split at hr <;> cases hr <;> rename_i hb
 ·refine ⟨rfl,fun μ σ hE=>⟨_,rfl,fun o w ho=>?_⟩⟩
  have g:=wAG c2 hE;rw [hb] at g
  exact Runs.cap ho g (wAp d1)
 ·refine ⟨rfl,fun μ σ hE=>⟨_,rfl,fun o w ho=>?_⟩⟩
  have g:=wAG c2 hE;rw [hb] at g
  obtain ⟨c,_,_,g⟩:=g
  exact Runs.cap ho g (wAp d1)
def wQw (b:Builtin) (x y:AOd):Op->Bool
 | .call c=>match c.callee with
  | .builtin b'=>(b' == b) && (match c.args.toList with
   | [x',y']=>wCK x x' && wCK y y'
   | _=>false)
  | _=>false
 | _=>false
theorem wMj {b:Builtin} {x y:AOd} {op:Op} (hc:wQw b x y op=true):∃ x' y' tys,op=.call { callee:=.builtin b,args:=#[x',y'],argTypes:=tys }/\wCK x x'=true/\wCK y y'=true:=by
 unfold wQw at hc
 split at hc
 ·rename_i c
  obtain ⟨ce,args,tys⟩:=c
  simp only at hc
  split at hc
  ·rename_i b'
   simp only [hH,beq_iff_eq] at hc
   obtain ⟨rfl,h2⟩:=hc
   split at h2
   ·rename_i x' y' h3
    simp only [hH] at h2
    refine ⟨x',y',tys,?_,h2.1,h2.2⟩
    congr 2
    exact nI (by simpa using h3)
   ·cases h2
  ·cases hc
 ·cases hc
theorem p_min {x y:AOd} {op:Op} (hc:wQw .min x y op=true):OkP P op (wMF x y):=by
 intro σA h v h' hr
 obtain ⟨x',y',tys,rfl,c1,c2⟩:=wMj hc
 obtain ⟨hr2,rfl⟩:=wBr hr
 split at hr2
 ·rename_i a b e1 e2
  cases hr2
  refine ⟨rfl,fun μ σ hE=>⟨_,rfl,fun o w ho=>?_⟩⟩
  have g1:=wAG c1 hE;rw [e1] at g1
  have g2:=wAG c2 hE;rw [e2] at g2
  refine (Runs.min ho g1 g2).to ?_
  have:(match zlt b a with | true=>b | false=>a)=Min.min a b:=by
   rw [wGu,Int.min_def]
   by_cases hq:b < a
   ·simp [hq,Int.not_le.2 hq]
   ·simp [hq,Int.not_lt.1 hq]
  exact congrArg (nw .i64) this.symm
 ·cases hr2
theorem p_max {x y:AOd} {op:Op} (hc:wQw .max x y op=true):OkP P op (wMG x y):=by
 intro σA h v h' hr
 obtain ⟨x',y',tys,rfl,c1,c2⟩:=wMj hc
 obtain ⟨hr2,rfl⟩:=wBr hr
 split at hr2
 ·rename_i a b e1 e2
  cases hr2
  refine ⟨rfl,fun μ σ hE=>⟨_,rfl,fun o w ho=>?_⟩⟩
  have g1:=wAG c1 hE;rw [e1] at g1
  have g2:=wAG c2 hE;rw [e2] at g2
  refine (Runs.max ho g1 g2).to ?_
  have:(match zlt a b with | true=>b | false=>a)=Max.max a b:=by
   rw [wGu,Int.max_def]
   by_cases hq:a < b
   ·simp [hq,Int.le_of_lt hq]
   ·by_cases hq2:a <= b
    ·have:a=b:=by omega
     simp [this]
    ·simp [hq,hq2]
  exact congrArg (nw .i64) this.symm
 ·cases hr2
def OkL (C:Chk) (P:Program) (op:Op) (f:Tr AV->AH->Option (AV × AH)):Prop :=
 ∀ σA h v h',f σA h=some (v,h')->h'=h/\∀ μ σ w,EnvR μ σA σ->Sim C P μ h w->∃ cv,Rv μ v cv/\∀ (o:Oper),o.op=op->wGL P σ w o cv
theorem wEg {b:Pos} {l:List AV} (hr:wDN h b=some l) (S:Sim C P μ h w):∃ c vs,μ b=some c/\RvL μ l vs/\∀ w',Keep w w' Non->∀ j v,vs[j]?=some v->w'.cell? ⟨c.1,j,none⟩=some v:=by
 unfold wDN at hr
 split at hr
 ·rename_i B hB
  obtain ⟨c,h1,h2⟩:=S.at_ b B hB
  cases B <;> simp only [wKP] at hr <;> first | (cases hr;done) | cases hr
  ·obtain ⟨vs,h3,h4⟩:=h2
   exact ⟨c,vs,h1,h3,fun w' K j v hv=>(h4.non K).cell hv⟩
  ·obtain ⟨vs,h3,h4⟩:=h2
   refine ⟨c,vs,h1,h3,fun w' K j v hv=>?_⟩
   obtain ⟨cur,g1,g2,g3,g4,g5⟩:=RowAt.cells h4
   have g1':=(K.block _ (wAM g1) id).trans g1
   have:cur.toList[j]?=some v:=by
    rw [<- g5,kV] at hv
    split at hv
    ·exact hv
    ·cases hv
   simp only [World.cell?,g1']
   simpa using this
 ·cases hr
def wRd (P:Program) (x:AOd):Op->Bool
 | .load t y=>wOO P t false && wCK x y
 | _=>false
theorem l_ld {x:AOd} {op:Op} (hc:wRd P x op=true):OkL C P op (wNz x):=by
 intro σA h v h' hr
 unfold wRd at hc
 split at hc
 ·simp only [hH] at hc
  unfold wNz at hr
  split at hr
  ·rename_i b off hb
   split at hr
   ·rename_i l hl
    obtain ⟨hr2,rfl⟩:=wBr hr
    refine ⟨rfl,fun μ σ w hE S=>?_⟩
    obtain ⟨c,vs,h1,h2,h3⟩:=wEg hl S
    have g:=wAG hc.2 hE;rw [hb] at g
    obtain ⟨c',g1,g2⟩:=g
    rw [h1] at g1;cases g1
    rw [wGI] at hr2
    obtain ⟨cv,g3,g4⟩:=wFF h2 hr2
    exact ⟨cv,g4,fun o ho w' K=>Runs.ld ho g2 (wET hc.1) (h3 w' K _ _ g3)⟩
   ·cases hr
  ·cases hr
 ·cases hc
def wMk (P:Program) (n:Nat) (x:AOd):Op->Bool
 | .load t y=>(wOO P t true && szT P t n) && wCK x y
 | _=>false
theorem l_ldA {n:Nat} {x:AOd} {op:Op} (hc:wMk P n x op=true):OkL C P op (wHY n x):=by
 intro σA h v h' hr
 unfold wMk at hc
 split at hc
 ·simp only [hH] at hc
  unfold wHY at hr
  split at hr
  ·rename_i b off hb
   split at hr
   ·rename_i l hl
    obtain ⟨hr2,rfl⟩:=wBr hr
    obtain ⟨r,hr3,rfl⟩:=wDO hr2
    refine ⟨rfl,fun μ σ w hE S=>?_⟩
    obtain ⟨c,vs,h1,h2,h3⟩:=wEg hl S
    have g:=wAG hc.2 hE;rw [hb] at g
    obtain ⟨c',g1,g2⟩:=g
    rw [h1] at g1;cases g1
    obtain ⟨g3,g4⟩:=wFG hr3 h2
    refine ⟨_,⟨_,g3,rfl⟩,fun o ho w' K=>Runs.ldA ho g2 (wET hc.1.1) (wDg hc.1.2) (by simp;omega) fun j u hu=>?_⟩
    exact h3 w' K _ _ (wFY rfl j u hu)
   ·cases hr
  ·cases hr
 ·cases hc
def OkE (C:Chk) (P:Program) (op:Op) (f:Tr AV->AH->Option (AV × AH)):Prop :=
 ∀ σA h v h',f σA h=some (v,h')->∀ μ σ w,EnvR μ σA σ->Sim C P μ h w->∀ (o:Oper),o.op=op->∃ μ' w' cv,Ext μ h.fl.nat w μ' w'/\Sim C P μ' h' w'/\Rv μ' v cv/\h'.fl=h.fl/\Runs P σ w o cv w'
def OkU (C:Chk) (P:Program) (op:Op) (f:Tr AV->AH->Option (AV × AH)):Prop :=
 ∀ σA h v h',f σA h=some (v,h')->∀ μ σ w,EnvR μ σA σ->Sim C P μ h w->∀ (o:Oper),o.op=op->∃ μ' w',Ext μ h.fl.nat w μ' w'/\Sim C P μ' h' w'/\v=u/\h'.fl=h.fl/\Does P σ w o w'
theorem OkP.toL {op:Op} {f:Tr AV->AH->Option (AV × AH)} (hp:OkP P op f):OkL C P op f:=by
 intro σA h v h' hr
 obtain ⟨h1,h2⟩:=hp σA h v h' hr
 exact ⟨h1,fun μ σ w hE _=>let ⟨cv,g1,g2⟩:=h2 μ σ hE;⟨cv,g1,fun o ho w' _=>g2 o w' ho⟩⟩
theorem OkL.toE {op:Op} {f:Tr AV->AH->Option (AV × AH)} (hp:OkL C P op f):OkE C P op f:=by
 intro σA h v h' hr μ σ w hE S o ho
 obtain ⟨rfl,h2⟩:=hp σA h v h' hr
 obtain ⟨cv,g1,g2⟩:=h2 μ σ w hE S
 exact ⟨μ,w,cv,Ext.refl μ _ w,S,g1,rfl,g2 o ho w (Keep.refl w _)⟩
theorem wFb {T:TypeId} {z:List AV} {cs:List Value} (S:Sim C P μ h w) (hz:RvL μ z cs):∃ μ',Ext μ h.fl.nat w μ' (w.alloc (.cells cs.toArray T))/\Sim C P μ' (h.push (.cells T z)) (w.alloc (.cells cs.toArray T))/\(h.push (.cells T z)).fl=h.fl/\μ' h.nx=some ⟨w.heap.size,0,g0⟩:=by
 have hle:=Mu.add_le (c:=⟨w.heap.size,0,g0⟩) (S.nx h.nx (nD _))
 obtain ⟨h1,h2,h3,h4⟩:=S.push (w':=w.alloc (.cells cs.toArray T)) (c:=⟨w.heap.size,0,g0⟩) (B:=.cells T z) (wBL w _) (nD _) (by rw [wHe];exact Nat.lt_succ_self _) ⟨cs,hz.mono hle,wEM w cs T⟩
 exact ⟨_,h2,h1,h3,h4⟩
def wMl (P:Program) (T:Nat) (z:List AV):Op->Bool
 | .alloc t=>nB T t && zT P t z
 | _=>false
theorem e_new {T:Nat} {z:List AV} {op:Op} (hc:wMl P T z op=true):OkE C P op (wPb T z):=by
 intro σA h v h' hr μ σ w hE S o ho
 cases hr
 unfold wMl at hc
 split at hc
 ·simp only [hH] at hc
  have e:=nA hc.1
  subst e
  obtain ⟨i,zv,z1,z2,z3⟩:=wFH hc.2
  obtain ⟨μ',h1,h2,h3,h4⟩:=wFb (T:=T) S (z3 μ)
  refine ⟨μ',_,_,h1,h2,⟨_,h4,rfl⟩,h3,by rw [ho];rfl,?_⟩
  simp [execOp,ho,Instr.alloc,wDh z1 z2,newVar,newRow,newObj,Sem.run]
 ·cases hc
def wMm (T:Nat) (x:AOd):Op->Bool
 | .box t y=>nB T t && wCK x y
 | _=>false
theorem e_box {T:Nat} {x:AOd} {op:Op} (hc:wMm T x op=true):OkE C P op (wLB T x):=by
 intro σA h v h' hr μ σ w hE S o ho
 cases hr
 unfold wMm at hc
 split at hc
 ·simp only [hH] at hc
  have e:=nA hc.1
  subst e
  obtain ⟨vs,v1,v2⟩:=wGR (wAG hc.2 hE)
  obtain ⟨μ',h1,h2,h3,h4⟩:=wFb (T:=T) S v1
  refine ⟨μ',_,_,h1,h2,⟨_,h4,rfl⟩,h3,by rw [ho];rfl,?_⟩
  simp [execOp,ho,Instr.box,newVar,newRow,newObj,v2,Sem.run]
 ·cases hc
theorem wPy (S:Sim C P μ h w):∃ μ',Ext μ h.fl.nat w μ' (w.alloc (.map #[] 0))/\Sim C P μ' (h.push .map0) (w.alloc (.map #[] 0))/\(h.push .map0).fl=h.fl/\μ' h.nx=some ⟨w.heap.size,0,g0⟩:=by
 obtain ⟨h1,h2,h3,h4⟩:=S.push (w':=w.alloc (.map #[] 0)) (c:=⟨w.heap.size,0,g0⟩) (B:=.map0) (wBL w _) (nD _) (by rw [wHe];exact Nat.lt_succ_self _) ⟨0,heap_alloc_new w _⟩
 exact ⟨_,h2,h1,h3,h4⟩
def wMn:Op->Bool
 | .makeMap _ none=>true
 | _=>false
theorem e_mkm {op:Op} (hc:wMn op=true):OkE C P op wPc:=by
 intro σA h v h' hr μ σ w hE S o ho
 cases hr
 unfold wMn at hc
 split at hc
 ·obtain ⟨μ',h1,h2,h3,h4⟩:=wPy S
  refine ⟨μ',_,_,h1,h2,⟨_,h4,rfl⟩,h3,by rw [ho];rfl,?_⟩
  simp [execOp,ho,Instr.makeMap,newObj,Sem.run,Result.andThen]
 ·cases hc
theorem wFJ {zc:Array Value} {n:Nat}:∀ c,((nW (c * zc.size)).map (zc[· % zc.size]!)).toList=(nP c zc.toList).flatten \/ False:=by
 intro c
 left
 induction c with
 | zero=>simp
 | succ c ih =>
  rw [kc,Array.toList_range] at ih ⊢
  rw [Nat.succ_mul,List.range_add,kG,ih,List.replicate_succ',List.flatten_append]
  congr 1
  simp only [List.map_map,List.flatten_singleton]
  apply List.ext_getElem
  ·simp
  ·intro i h1 h2
   simp at h1
   simp [Nat.add_mul_mod_self_right,Nat.mod_eq_of_lt h1,Nat.add_comm (c * zc.size) i,h1]
def wMo (P:Program) (T sz by_:Nat) (z:List AV) (x y:AOd):Op->Bool
 | .makeSlice t x' y'=>wEI P t (fun d=>match d with | .slice e=>nB e T | _=>false) && (szT P T sz && (byT P T by_ && (zT P T z && (nB (len z) sz && (wCK x x' && wCK y y')))))
 | _=>false
theorem e_mks {T sz by_:Nat} {z:List AV} {x y:AOd} {op:Op} (hc:wMo P T sz by_ z x y op=true):OkE C P op (wGo T sz by_ z x y):=by
 intro σA h v h' hr μ σ w hE S o ho
 unfold wMo at hc
 split at hc
 ·rename_i t x' y'
  simp only [hH] at hc
  obtain ⟨c1,c2,c3,c4,c5,c6,c7⟩:=hc
  obtain ⟨d,d1,d2⟩:=wAi c1
  split at d2 <;> first | (cases d2;done) | skip
  have e:=nA d2
  subst e
  rename_i e
  obtain ⟨i,i1,i2⟩:=wGT c2
  obtain ⟨i',j1,j2⟩:=wGU c3
  obtain ⟨i'',zv,k1,k2,k3⟩:=wFH c4
  rw [i1] at j1 k1;cases j1;cases k1
  have hz:=nA c5
  unfold wGo at hr
  split at hr
  ·rename_i l c hl hcc
   obtain ⟨hb,hr⟩:=wBi hr
   cases hr
   simp only [hH,nQ] at hb
   obtain ⟨⟨⟨b1,b2⟩,b3⟩,b4⟩:=hb
   have hx:=wAG c6 hE;rw [wCH hl] at hx
   have hy:=wAG c7 hE;rw [wCH hcc] at hy
   have hx:ev σ x'=.int .i64 (l:Int):=hx
   have hy:ev σ y'=.int .i64 (c:Int):=hy
   have zlen:zv.cells.size=sz:=by rw [<- hz,wES,<- wCu (k3 μ)];simp
   have hrun:=run_makeSlice (P:=P) w t e i zv d1 i1 k2 .i64 .i64 (l:Int) (c:Int) (by omega) (by omega) (by rw [i2,nq];exact b2) (by rw [j2];have hb:=Int.ofNat_le.2 b3;rw [Int.natCast_mul] at hb;exact hb) (by omega)
   simp only [nq,i2] at hrun
   have hcells:(madeCells zv.cells (c * sz))=((nP c zv.cells.toList).flatten).toArray:=by
    apply nI
    have:=wFJ (zc:=zv.cells) (n:=0) c
    simp only [or_false] at this
    rw [zlen] at this
    show ((nW (c * sz)).map (zv.cells[· % zv.cells.size]!)).toList=_
    rw [zlen,this]
   rw [hcells] at hrun
   obtain ⟨μ',h1,h2,h3,h4⟩:=wFb (T:=e) S (wGt (k3 μ) c)
   refine ⟨μ',_,_,h1,h2,⟨_,h4,b1,rfl⟩,h3,by rw [ho];rfl,?_⟩
   simp [execOp,ho,hx,hy,hrun,Result.andThen]
  ·cases hr
 ·cases hc
def wJA (P:Program) (T n:Nat) (z:List AV) (ps:List (Nat × Nat × AOd)):Op->Bool
 | .buildSlice t m qs=>nB m n && (wEI P t (fun d=>match d with | .slice e=>nB e T | _=>false) && (match P.info? T with
   | some i=>Nat.ble (n * i.size) 16777216 && (wIz (fun k=>some (k * i.size,i.size)) ps qs.toList && (match i.zero with
    | some v=>wON z ((kh (n * i.size)).map fun k=>v.cells[k % v.cells.size]!)
    | none=>false))
   | none=>false))
 | _=>false
theorem wRe {T n:Nat} {z:List AV} {ps:List (Nat × Nat × AOd)} {op:Op} (hc:wJA P T n z ps op=true):OkE C P op (wEQ T n z ps):=by
 intro σA h v h' hr μ σ w hE S o ho
 unfold wJA at hc
 split at hc
 ·rename_i t m qs
  simp only [hH] at hc
  obtain ⟨c1,c2,c3⟩:=hc
  have e:=nA c1
  subst e
  obtain ⟨d,d1,d2⟩:=wAi c2
  split at d2 <;> first | (cases d2;done) | skip
  have e:=nA d2
  subst e
  rename_i e
  split at c3
  ·rename_i i hi
   simp only [hH,nQ] at c3
   obtain ⟨c3,c4,c5⟩:=c3
   split at c5
   ·rename_i zv hz
    unfold wEQ at hr
    split at hr
    ·rename_i r hr3
     cases hr
     obtain ⟨R,r1,r2,r3⟩:=wGy hE hr3 c4 (wFt μ c5)
     have hf:=wDM _ _ _ _ r1
     obtain ⟨μ',h1,h2,h3,h4⟩:=wFb (T:=e) S r2
     refine ⟨μ',_,_,h1,h2,⟨_,h4,nD _,rfl⟩,h3,by rw [ho];rfl,?_⟩
     have hs:∀ w,(sizeOf e).run P w=.ok i.size w:=fun w=>by simp [sizeOf,typeInfo,hi]
     have hn':¬ m * i.size > 2 ^ 24:=by omega
     have hq:(qs.map fun (p:Nat × Operand)=>(p.1,ev σ p.2)).toList=qs.toList.map fun (p:Nat × Operand)=>(p.1,ev σ p.2):=by simp
     by_cases h0:m * i.size=0
     ·rw [h0] at hf
      simp only [List.range_zero,kC] at hf
      have hr0:(nW 0).map (fun x=>(#[]:Array Value)[x % (#[]:Array Value).size]!)=#[]:=by rw [show (nW 0)=#[] from rfl,Array.map_empty]
      have hn0:¬ (0:Nat) > 2 ^ 24:=by decide
      simp only [execOp,ho,Instr.buildSlice,Sem.run_bind,wAp d1,hs,Result.andThen_ok,h0,if_neg hn0,if_true,Sem.run_pure,hq,hr0,hf]
      simp [newRow,newObj,Sem.run,Result.andThen]
     ·have hzs:(nW (m * i.size)).map (zv.cells[· % zv.cells.size]!)=((kh (m * i.size)).map fun k=>zv.cells[k % zv.cells.size]!).toArray:=by rw [<- kW,List.map_toArray]
      simp only [execOp,ho,Instr.buildSlice,Sem.run_bind,wAp d1,hs,wDh hi hz,Result.andThen_ok,if_neg hn',if_neg h0,Sem.run_pure,hq,hzs,hf]
      simp [newRow,newObj,Sem.run,Result.andThen]
    ·cases hr
   ·cases c5
  ·cases c3
 ·cases hc
end
end
end Go.KX
namespace Go.KX
noncomputable section
open Go.RowKit Go.KL
section
variable {C:Chk} {P:Program} {μ μ':Mu} {w w':World} {h h':AH} {σ:Env} {σA:Tr AV} {t e:TypeId} {o:Oper}
theorem wFc {b:Pos} {off:Nat} {vs:List AV} {VS:List Value} {c:Cl} (hr:setAt h b off vs=some h') (S:Sim C P μ h w) (hv:RvL μ vs VS) (h1:∀ v ∈ VS,one v=true) (hc:μ b=some c) :
  ∃ w',(storeCells ⟨c.1,off,none⟩ VS).run P w=.ok () w'/\Sim C P μ h' w'/\Ext μ h.fl.nat w μ w'/\h'.fl=h.fl:=by
 unfold setAt at hr
 split at hr
 ·rename_i T l hB
  split at hr
  ·rename_i l' hl
   obtain ⟨c',g1,vs0,g2,g3⟩:=S.at_ b _ hB
   rw [hc] at g1;cases g1
   obtain ⟨k1,k2⟩:=wIM hl g2 hv
   obtain ⟨w',q1,q2,q3,q4⟩:=wCc (P:=P) off VS 0 vs0 w g3 k1 h1
   obtain ⟨s1,s2,s3⟩:=S.put hr hB trivial hc q3 (B':=.cells T l') ⟨_,k2,q2⟩
   exact ⟨w',q1,s1,s2,s3⟩
  ·cases hr
 ·rename_i T sz l hB
  split at hr
  ·rename_i l' hl
   obtain ⟨c',g1,vs0,g2,g3⟩:=S.at_ b _ hB
   rw [hc] at g1;cases g1
   obtain ⟨k1,k2⟩:=wIM hl g2 hv
   obtain ⟨cur,r1,r2,r3,r4,r5⟩:=RowAt.cells g3
   have hB':Blk w c.1 T cur.toList:=by unfold Blk;rw [r1]
   have hcl:vs0.length <= cur.toList.length:=by rw [<- r5];simp;omega
   obtain ⟨w',q1,q2,q3,q4⟩:=wCc (P:=P) off VS 0 cur.toList w hB' (by omega) h1
   obtain ⟨s1,s2,s3⟩:=S.put hr hB trivial hc q3 (B':=.row T sz l') ⟨_,k2,.inr ⟨c.1,(wDt cur.toList (off + 0) VS).toArray,rfl,q2,by rw [wCe];exact r2,r3,by simp [wCe,r4],by
    rw [wCe,Nat.add_zero]
    show (wDt cur.toList off VS).take vs0.length=_
    rw [wIl _ _ _ _ k1,r5]⟩⟩
   exact ⟨w',q1,s1,s2,s3⟩
  ·cases hr
 ·cases hr
def c_st (P:Program) (n:Nat) (x y:AOd):Op->Bool
 | .store t x' y'=>szT P t n && (wCK x x' && wCK y y')
 | _=>false
theorem u_st {n:Nat} {x y:AOd} {op:Op} (hc:c_st P n x y op=true):OkU C P op (wOy n x y):=by
 intro σA h v h' hr μ σ w hE S o ho
 unfold c_st at hc
 split at hc
 ·rename_i t x' y'
  simp only [hH] at hc
  obtain ⟨c1,c2,c3⟩:=hc
  unfold wOy at hr
  split at hr
  ·rename_i b off hb
   split at hr
   ·rename_i hk
    simp only [hH] at hk
    split at hr
    ·rename_i h1 hs
     cases hr
     have g:=wAG c2 hE;rw [hb] at g
     obtain ⟨c,g1,g2⟩:=g
     obtain ⟨VS,v1,v2⟩:=wGR (wAG c3 hE)
     obtain ⟨w',q1,q2,q3,q4⟩:=wFc hs S v1 (wDy v1 hk.2) g1
     have hn:=nA hk.1
     have hlen:VS.length=n:=by rw [wCu v1,<- wES,hn]
     refine ⟨μ,w',q3,q2,rfl,q4,by rw [ho];rfl,?_⟩
     simp [execOp,ho,Instr.storeAt,g2,Instr.sureAddr,storeVar,v2,wDg c1,hlen,q1]
    ·cases hr
   ·cases hr
  ·cases hr
 ·cases hc
theorem wIP {sz m:Nat} {a:AV} {l:List AV} {y:Value} (hr:slice h sz a=some (m,l)) (S:Sim C P μ h w) (hy:Rv μ a y) :
  ∃ A c VS,y=.slice A m c/\RvL μ l VS/\VS.length=m * sz/\(m=0 \/ ∃ ad,A=some ad/\∀ j u,VS[j]?=some u->w.cell? (ad.add j)=some u):=by
 have key:∀ (b:Pos) (off m:Nat) (c:Cl) (l0 r:List AV),μ b=some c->wDN h b=some l0->sub l0 off (m * sz)=some r->∃ VS,RvL μ r VS/\VS.length=m * sz/\∀ j u,VS[j]?=some u->w.cell? ((⟨c.1,off,none⟩:Addr).add j)=some u:=by
  intro b off m c l0 r hc hl hs
  obtain ⟨c',vs,h1,h2,h3⟩:=wEg hl S
  rw [hc] at h1;cases h1
  obtain ⟨g1,g2⟩:=wFG hs h2
  exact ⟨_,g1,by simp;omega,fun j u hu=>by rw [wFI];exact h3 w (Keep.refl w _) _ _ (wFY rfl j u hu)⟩
 unfold slice at hr
 split at hr
 ·cases hr
  have hy:y=.slice none 0 0:=hy
  exact ⟨none,0,[],hy,rfl,by simp,.inl rfl⟩
 ·cases hr
  obtain ⟨d,_,q,rfl⟩:=hy
  exact ⟨_,_,[],rfl,rfl,by simp,.inl rfl⟩
 ·split at hr
  ·rename_i l0 hl
   split at hr
   ·rename_i r hs
    cases hr
    obtain ⟨d,h1,_,rfl⟩:=hy
    obtain ⟨VS,v1,v2,v3⟩:=key _ _ _ _ _ _ h1 hl hs
    exact ⟨_,_,VS,rfl,v1,v2,.inr ⟨_,rfl,v3⟩⟩
   ·cases hr
  ·cases hr
 ·split at hr
  ·rename_i l0 hl
   split at hr
   ·rename_i r hs
    cases hr
    obtain ⟨d,h1,_,rfl⟩:=hy
    obtain ⟨VS,v1,v2,v3⟩:=key _ _ _ _ _ _ h1 hl hs
    exact ⟨_,_,VS,rfl,v1,v2,.inr ⟨_,rfl,v3⟩⟩
   ·cases hr
  ·cases hr
 ·cases hr
theorem wGz {A A2:Option Addr} {n c c2 ty:Nat} {inf:TypeInfo} (ht:P.underlying t=some (.slice e)) (hi:P.info? e=some inf) (hnc:n <= c):(Builtin.append_ #[t,t] ty #[.slice A n c,.slice A2 0 c2]).run P w=.ok (.slice A n c) w:=by
 have hs:∀ w,(sizeOf e).run P w=.ok inf.size w:=fun w=>by simp [sizeOf,typeInfo,hi]
 cases A <;> cases A2 <;> simp [Builtin.append_,wAp ht,hs,Builtin.lenOf,Builtin.firstCells,hnc,storeCells,loadCells,loadCellsFrom]
theorem wMp {T sz c:Nat} {l:List AV} {cs:List Value} {cur:Array Value} (S:Sim C P μ h w) (K:Keep w w' Non) (hl:RvL μ l cs) (hn:w'.heap[w.heap.size]?=some (.cells cur T (0,0))) (h1:cs.length <= c * sz) (h2:c <= maxLen) (h3:cur.size=c * sz) (h4:cur.toList.take cs.length=cs) :
  ∃ μ',Ext μ h.fl.nat w μ' w'/\Sim C P μ' (h.push (.row T sz l)) w'/\(h.push (.row T sz l)).fl=h.fl/\μ' h.nx=some ⟨w.heap.size,c,g0⟩:=by
 have hle:=Mu.add_le (c:=⟨w.heap.size,c,g0⟩) (S.nx h.nx (nD _))
 obtain ⟨q1,q2,q3,q4⟩:=S.push (w':=w') (c:=⟨w.heap.size,c,g0⟩) (B:=.row T sz l) K (nD _) (wAM hn) ⟨cs,hl.mono hle,.inr ⟨_,cur,rfl,hn,h1,h2,h3,h4⟩⟩
 exact ⟨_,q2,q1,q3,q4⟩
def wOR (P:Program) (T sz by_:Nat) (x y:AOd):Op->Bool
 | .call c=>match c.callee with
  | .builtin b=>(b == .append) && (match c.args.toList,c.argTypes.toList with
   | [x',y'],[t,t']=>nB t t' && (wEI P t (fun d=>match d with | .slice e=>nB e T | _=>false) && (wCK x x' && (wCK y y' && (szT P T sz && (byT P T by_ && (match P.info? T with
    | some i=>match i.zero with | some v=>nB v.cells.size sz && (nu 0 sz && nu 0 by_) | none=>false
    | none=>false))))))
   | _,_=>false)
  | _=>false
 | _=>false
theorem wOS {T sz by_:Nat} {x y:AOd} {op:Op} (hc:wOR P T sz by_ x y op=true) :
  ∃ x' y' t i z,op=.call { callee:=.builtin .append,args:=#[x',y'],argTypes:=#[t,t] }/\P.underlying t=some (.slice T)/\wCK x x'=true/\wCK y y'=true/\P.info? T=some i/\i.zero=some z/\i.size=sz/\i.bytes=by_/\z.cells.size=sz/\0 < sz/\0 < by_:=by
 unfold wOR at hc
 split at hc
 ·rename_i c
  obtain ⟨ce,args,tys⟩:=c
  simp only at hc
  split at hc
  ·rename_i b
   simp only [hH,beq_iff_eq] at hc
   obtain ⟨rfl,h2⟩:=hc
   split at h2
   ·rename_i x' y' t t' h3 h4
    simp only [hH] at h2
    obtain ⟨a1,a2,a3,a4,a5,a6,a7⟩:=h2
    have e:=nA a1
    subst e
    obtain ⟨d,d1,d2⟩:=wAi a2
    split at d2 <;> first | (cases d2;done) | skip
    have e:=nA d2
    subst e
    obtain ⟨i,i1,i2⟩:=wGT a5
    obtain ⟨j,j1,j2⟩:=wGU a6
    rw [i1] at j1;cases j1
    rw [i1] at a7
    simp only at a7
    split at a7
    ·rename_i z hz
     simp only [hH,nK] at a7
     refine ⟨x',y',t,i,z,?_,d1,a3,a4,i1,hz,i2,j2,nA a7.1,a7.2.1,a7.2.2⟩
     congr 2
     ·exact nI (by simpa using h3)
     ·exact nI (by simpa using h4)
    ·cases a7
   ·cases h2
  ·cases hc
 ·cases hc
theorem wRf (v:Value) (h1:one v=true):v.oneCell'=true:=by cases v <;> first | rfl | cases h1
theorem e_app {T sz by_:Nat} {x y:AOd} {op:Op} (hc:wOR P T sz by_ x y op=true):OkE C P op (wIp T sz by_ x y):=by
 intro σA h v h' hr μ σ w hE S o ho
 obtain ⟨x',y',t,i,z,rfl,ht,c1,c2,hi,hz,i2,j2,hzs,hsz,hby⟩:=wOS hc
 unfold wIp at hr
 split at hr
 ·rename_i m news hs
  obtain ⟨hones,hr'⟩:=wBi hr
  clear hr;have hr:=hr';clear hr'
  obtain ⟨A2,cc2,NS,e2,n1,n2,n3⟩:=wIP hs S (wAG c2 hE)
  have hx:=wAG c1 hE
  have h1:∀ u ∈ NS,u.oneCell'=true:=fun u hu=>wRf u (wDy n1 hones u hu)
  have fin:∀ {μ':Mu} {w':World} {cv:Value},Ext μ h.fl.nat w μ' w'->Sim C P μ' h' w'->Rv μ' v cv->h'.fl=h.fl->(Builtin.append_ #[t,t] o.type #[ev σ x',ev σ y']).run P w=.ok cv w' ->
    ∃ μ' w' cv,Ext μ h.fl.nat w μ' w'/\Sim C P μ' h' w'/\Rv μ' v cv/\h'.fl=h.fl/\Runs P σ w o cv w':=fun a b c d f =>
   ⟨_,_,_,a,b,c,d,by rw [ho];rfl,by simp [execOp,ho,resolve,invoke,builtin,f]⟩
  unfold app at hr
  split at hr
  ·have zero:∀ {A:Option Addr} {n c:Nat},ev σ x'=.slice A n c->n <= c->Rv μ v (.slice A n c)->h'=h->∃ μ' w' cv,Ext μ h.fl.nat w μ' w'/\Sim C P μ' h' w'/\Rv μ' v cv/\h'.fl=h.fl/\Runs P σ w o cv w':=by
    intro A n c hA hnc hv hh
    subst hh
    exact fin (Ext.refl μ _ w) S hv rfl (by rw [hA,e2];exact wGz ht hi hnc)
   split at hr <;> cases hr <;> rename_i hb <;> rw [hb] at hx
   ·have g:ev σ x'=.slice none 0 0:=hx
    exact zero g (nD _) rfl rfl
   ·obtain ⟨d,g1,g2,g3⟩:=hx
    exact zero g3 g2 ⟨d,g1,g2,rfl⟩ rfl
   ·obtain ⟨d,g1,g2,g3⟩:=hx
    exact zero g3 (by omega) ⟨d,g1,g2,rfl⟩ rfl
  ·rename_i m
   obtain ⟨ad,rfl,hcell⟩:∃ ad,A2=some ad/\∀ j u,NS[j]?=some u->w.cell? (ad.add j)=some u:=by
    rcases n3 with h0 | h0
    ·cases h0
    ·exact h0
   have maxb:(140737488355328:Nat) <= maxLen:=by decide
   have lenb:∀ n:Nat,n * by_ <= 140737488355328->n <= 140737488355328:=fun n hn=>nR (kE _ hby) hn
   split at hr
   ·rename_i hb
    rw [hb] at hx
    have hx:ev σ x'=.slice none 0 0:=hx
    obtain ⟨hble,hr'⟩:=wBi hr
    clear hr;have hr:=hr';clear hr'
    cases hr
    have hble:=nO hble
    obtain ⟨A',c',w',r1,r2,r3,r4⟩:=wCy (P:=P) (w:=w) (A:=none) (c:=0) (n:=0) (cs:=[]) (ty:=o.type) (c2:=cc2) ht hi hz i2 hzs hsz (.inl ⟨rfl,rfl,rfl⟩) (by simp) n2 (.inr ⟨ad,rfl,hcell⟩) h1 (by rw [j2,Nat.zero_add];exact hble) (by omega)
    rcases r2 with ⟨_,_,q⟩ | ⟨b,cur,rfl,q1,q2,q3,q4,q5⟩
    ·exfalso
     have:([] ++ NS).length=0:=by rw [q];rfl
     rw [List.nil_append,n2] at this
     have:=Nat.mul_pos (Nat.succ_pos m) hsz
     omega
    ·have hb:w.heap.size <= b:=by
      rcases r4 b rfl with q | q
      ·cases q
      ·exact q
     have K:Keep w w' Non:=r3.weak fun i _ q=>by cases q
     rw [List.nil_append] at q2 q5
     have hle:=Mu.add_le (c:=⟨b,c',g0⟩) (S.nx h.nx (nD _))
     obtain ⟨s1,s2,s3,s4⟩:=S.push (w':=w') (c:=⟨b,c',g0⟩) (B:=.row T sz news) K hb (wAM q1) ⟨NS,n1.mono hle,.inr ⟨_,cur,rfl,q1,q2,q3,q4,q5⟩⟩
     refine fin s2 s1 ⟨_,s4,?_,?_⟩ s3 (by rw [hx,e2];exact r1)
     ·rw [n2] at q2
      have:=nj q2 hsz
      simpa using this
     ·simp
   ·rename_i b off n c hb
    rw [hb] at hx
    obtain ⟨d,g1,g2,g3⟩:=hx
    split at hr
    ·rename_i hle
     have hle:=nO hle
     split at hr
     ·rename_i h1' hset
      cases hr
      obtain ⟨w',q1,q2,q3,q4⟩:=wFc hset S n1 (wDy n1 hones) g1
      refine fin q3 q2 ⟨d,g1,hle,rfl⟩ q4 ?_
      rw [g3,e2]
      have hf:=run_firstCells_some (P:=P) w i.size (m + 1) ad (m + 1) cc2 NS (by rw [i2];exact n2) hcell
      rw [i2] at hf
      simp [Builtin.append_,wAp ht,sizeOf,typeInfo,hi,Builtin.lenOf,hle,hf,wFI,i2,q1]
     ·cases hr
    ·rename_i hlt
     obtain ⟨hble,hr'⟩:=wBi hr
     clear hr;have hr:=hr';clear hr'
     have hble:=nO hble
     split at hr
     ·rename_i nn olds hold
      cases hr
      have hgt:c < n + (m + 1):=by
       rcases nt c (n + (m + 1)) with q | q
       ·exact q
       ·have q':Nat.ble (n + (m + 1)) c=true:=by rw [nQ];exact q
        rw [q'] at hlt;cases hlt
      obtain ⟨A1,cc1,OS,k1,k2,k3,k4⟩:=wIP hold S (show Rv μ (.sl b off n c) _ from ⟨d,g1,g2,rfl⟩)
      cases k1
      have hlen:=lenb _ hble
      have olds':∀ j v,OS[j]?=some v->w.cell? ((⟨d.1,off,none⟩:Addr).add j)=some v:=by
       rcases k4 with q | ⟨ad',q1,q2⟩
       ·intro j v hv
        have hnil:OS=[]:=na (by rw [k3,q];simp)
        rw [hnil] at hv
        simp at hv
       ·cases q1;exact q2
      have hr:=run_append_grow (P:=P) w t o.type T i z ht hi hz ⟨d.1,off,none⟩ n c OS (by rw [i2];exact k3) olds' ad (m + 1) cc2 NS (by rw [i2];exact n2) hcell hgt (by omega) (growslice_fits hgt (by rw [j2];exact hble))
      have hge:=grownCap_ge w (n + (m + 1)) c T
      have hcm:grownCap w (n + (m + 1)) c T <= maxLen:=grownCap_le_maxLen w (n + (m + 1)) c T (by omega)
      have hlen2:(OS ++ NS).length=(n + (m + 1)) * sz:=by rw [ny,k3,n2,kM]
      obtain ⟨μ',s1,s2,s3,s4⟩:=wMp (T:=T) (sz:=sz) (c:=grownCap w (n + (m + 1)) c T) (w':=w.drew.alloc (.cells (OS.toArray ++ NS.toArray ++ Builtin.zeroCells z.cells (grownCap w (n + (m + 1)) c T - (n + (m + 1)))) T)) (cur:=OS.toArray ++ NS.toArray ++ Builtin.zeroCells z.cells (grownCap w (n + (m + 1)) c T - (n + (m + 1)))) S
       ((Keep.drew w).non (wBL w.drew _)) (wDx k2 n1) (heap_alloc_new w.drew _) (by rw [hlen2];exact nh _ hge) hcm
       (by
        simp only [kY,kX,size_zeroCells,hzs,k3,n2,<- kM]
        congr 1
        omega)
       (by simp only [kR,np];rw [<- np];exact List.take_left)
      refine fin s1 s2 ⟨_,s4,?_,?_⟩ s3 (by rw [g3,e2];exact hr)
      ·simpa using hge
      ·simp
     ·cases hr
   ·rename_i b eo co n hb
    rw [hb] at hx
    obtain ⟨d,g1,g2,g3⟩:=hx
    split at hr
    ·rename_i T' sz' l hB
     split at hr
     ·rename_i hin
      simp only [hH] at hin
      obtain ⟨p1,p2,p3,p4⟩:=hin
      have p1:=nO p1
      have p2:=nA p2
      have p3:=nA p3
      have p4:=nA p4
      subst p2 p3 p4
      split at hr
      ·rename_i h1' hset
       cases hr
       obtain ⟨d',k1,OS,k2,k3⟩:=S.at_ b _ hB
       rw [g1] at k1;cases k1
       obtain ⟨cur,r1,r2,_⟩:=RowAt.cells k3
       have hle:n + (m + 1) <= d.2:=by
        rw [wES,<- wCu k2] at p1
        exact nj (nR p1 r2) hsz
       obtain ⟨w',q1,q2,q3,q4⟩:=wFc hset S n1 (wDy n1 hones) g1
       refine fin q3 q2 ⟨d,g1,by omega,rfl⟩ q4 ?_
       rw [g3,e2]
       have hf:=run_firstCells_some (P:=P) w i.size (m + 1) ad (m + 1) cc2 NS (by rw [i2];exact n2) hcell
       rw [i2] at hf
       simp [Builtin.append_,wAp ht,sizeOf,typeInfo,hi,Builtin.lenOf,hle,hf,wFI,i2,q1]
      ·cases hr
     obtain ⟨hcond,hr'⟩:=wBi hr
     clear hr;have hr:=hr';clear hr'
     simp only [hH] at hcond
     obtain ⟨⟨⟨⟨⟨q1,q2⟩,q3⟩,q4⟩,q5⟩,q6⟩:=hcond
     have q1:=nA q1
     have q2:=nA q2
     have q3:=nA q3
     have q4:=nA q4
     have q5:=nA q5
     have hble:=nO q6
     subst q1 q2 q3 q4
     split at hr
     ·rename_i h1' hput
      cases hr
      obtain ⟨d',k1,OS,k2,k3⟩:=S.at_ b _ hB
      rw [g1] at k1;cases k1
      have hol:OS.length=n * sz:=by rw [wCu k2,<- wES,<- q5]
      obtain ⟨A',c',w',r1,r2,r3,r4⟩:=wCy (P:=P) (w:=w) (A:=some ⟨d.1,0,none⟩) (c:=d.2) (n:=n) (cs:=OS) (ty:=o.type) (c2:=cc2) ht hi hz i2 hzs hsz k3 hol n2 (.inr ⟨ad,rfl,hcell⟩) h1 (by rw [j2];exact hble) (by omega)
      rcases r2 with ⟨_,_,q⟩ | ⟨b',cur,rfl,p1,p2,p3,p4,p5⟩
      ·exfalso
       have:(OS ++ NS).length=0:=by rw [q];rfl
       rw [ny,n2] at this
       have:=Nat.mul_pos (Nat.succ_pos m) hsz
       omega
      ·have hb':b'=d.1 \/ w.heap.size <= b':=by
        rcases r4 b' rfl with q | q
        ·cases q;exact .inl rfl
        ·exact .inr q
       have K:Keep w w' (·=d.1):=r3.weak fun i _ q=>by cases q;rfl
       have hle:=Mu.add_le (c:=⟨b',c',g0⟩) (S.nx h.nx (nD _))
       have hnx:h.nx=h.nx:=rfl
       obtain ⟨s1,s2,s3,s4⟩:=S.move (w':=w') (d:=⟨b',c',g0⟩) (B':=.row T sz (l ++ news)) hput hB trivial g1 K hb' (wAM p1) ⟨OS ++ NS,(wDx k2 n1).mono hle,.inr ⟨_,cur,rfl,p1,p2,p3,p4,p5⟩⟩
       refine fin s2 s1 ⟨_,s4,?_,?_⟩ s3 (by rw [g3,e2];simpa using r1)
       ·rw [ny,hol,n2,<- kM] at p2
        have:=nj p2 hsz
        simpa using this
       ·simp
     ·cases hr
    ·cases hr
   ·cases hr
 ·cases hr
def wPz (P:Program) (sz:Nat) (x y:AOd):Op->Bool
 | .call c=>match c.callee with
  | .builtin b=>(b == .copy) && (match c.args.toList,c.argTypes.toList with
   | [x',y'],t :: _=>wEI P t (fun d=>match d with | .slice e=>szT P e sz | _=>false) && (wCK x x' && wCK y y')
   | _,_=>false)
  | _=>false
 | _=>false
theorem e_cpy {sz:Nat} {x y:AOd} {op:Op} (hc:wPz P sz x y op=true):OkE C P op (wIq sz x y):=by
 intro σA h v h' hr μ σ w hE S o ho
 unfold wPz at hc
 split at hc
 ·rename_i c
  obtain ⟨ce,args,tys⟩:=c
  simp only at hc
  split at hc
  ·rename_i b
   simp only [hH,beq_iff_eq] at hc
   obtain ⟨rfl,h2⟩:=hc
   split at h2
   ·rename_i x' y' t ts h3 h4
    simp only [hH] at h2
    obtain ⟨a1,a2,a3⟩:=h2
    obtain ⟨d,d1,d2⟩:=wAi a1
    split at d2 <;> first | (cases d2;done) | skip
    rename_i e
    have ea:args=#[x',y']:=nI (by simpa using h3)
    have et:tys[0]?=some t:=by rw [<- kP,h4];rfl
    unfold wIq at hr
    split at hr
    ·rename_i b off n cc m news hx hs
     split at hr
     ·rename_i vs hsub
      obtain ⟨hones,hr'⟩:=wBi hr
      clear hr;have hr:=hr';clear hr'
      split at hr
      ·rename_i h1' hset
       cases hr
       have g:=wAG a2 hE;rw [hx] at g
       obtain ⟨c0,g1,_,g3⟩:=g
       obtain ⟨A2,cc2,NS,e2,n1,n2,n3⟩:=wIP hs S (wAG a3 hE)
       generalize hk:(if Nat.ble m n=true then m else n)=k at hsub ⊢
       have hmin:Nat.min m n=k:=by
        rw [<- hk]
        by_cases q:m <= n
        ·rw [if_pos (by rw [nQ];exact q)];exact kH q
        ·rw [if_neg (by rw [nQ];exact q)];exact Nat.min_eq_right (by omega)
       obtain ⟨k1,k2⟩:=wFG hsub n1
       rw [List.drop_zero] at k1
       obtain ⟨w',q1,q2,q3,q4⟩:=wFc hset S k1 (wDy k1 hones) g1
       refine ⟨μ,w',_,q3,q2,rfl,q4,by rw [ho];rfl,?_⟩
       have hf:∀ (w1:World),w1=w->(Builtin.firstCells sz k (.slice A2 m cc2)).run P w1=.ok (NS.take (k * sz)).toArray w1:=by
        intro w1 hw1
        subst hw1
        cases A2 with
        | none =>
         have hm:m=0:=by
          rcases n3 with q | ⟨_,q,_⟩
          ·exact q
          ·cases q
         have hN:NS=[]:=na (by rw [n2,hm];simp)
         subst hN
         simp [Builtin.firstCells]
        | some ad =>
         have hcell:∀ j u,(NS.take (k * sz))[j]?=some u->w1.cell? (ad.add j)=some u:=by
          intro j u hu
          rw [kV] at hu
          split at hu
          ·rcases n3 with q | ⟨ad',q,q'⟩
           ·have hN:NS=[]:=na (by rw [n2,q];simp)
            subst hN;simp at hu
           ·cases q;exact q' j u hu
          ·cases hu
         exact run_firstCells_some (P:=P) w1 sz k ad m cc2 (NS.take (k * sz)) (by rw [List.length_take];omega) hcell
       have hs2:=wDg d2
       simp [execOp,ho,ea,et,resolve,invoke,builtin,Builtin.copy_,wAp d1,g3,e2,Builtin.lenOf,hmin,hs2,hf w rfl,q1,goInt,Result.andThen]
      ·cases hr
     ·cases hr
    ·cases hr
   ·cases h2
  ·cases hc
 ·cases hc
def wQA (P:Program) (z:List AV) (x:AOd):Op->Bool
 | .call c=>match c.callee with
  | .builtin b=>(b == .clear) && (match c.args.toList,c.argTypes.toList with
   | [x'],[t]=>wEI P t (fun d=>match d with | .slice e=>zT P e z | _=>false) && wCK x x'
   | _,_=>false)
  | _=>false
 | _=>false
theorem wDj {zc:Array Value} (c:Nat):(Builtin.zeroCells zc c).toList=(nP c zc.toList).flatten:=by
 have:=wFJ (zc:=zc) (n:=0) c
 simp only [or_false] at this
 exact this
def wQB (P:Program) (T sz by_:Nat) (z:List AV) (x y:AOd):Op->Bool
 | .call c=>match c.callee with
  | .builtin b=>(b == .append) && (match c.args.toList,c.argTypes.toList with
   | [x',y'],[t,t']=>wEI P t (fun d=>match d with | .slice e=>nB e T | _=>false) && (wEI P t' (fun d=>match d with | .int _=>true | _=>false) && (wCK x x' && (wCK y y' && (szT P T sz && (byT P T by_ && (zT P T z && (nB (len z) sz && (nu 0 sz && nu 0 by_))))))))
   | _,_=>false)
  | _=>false
 | _=>false
theorem e_apz {T sz by_:Nat} {z:List AV} {x y:AOd} {op:Op} (hc:wQB P T sz by_ z x y op=true):OkE C P op (wIu T sz by_ z x y):=by
 intro σA h v h' hr μ σ w hE S o ho
 unfold wQB at hc
 split at hc <;> first | (cases hc;done) | skip
 rename_i c
 obtain ⟨ce,args,tys⟩:=c
 simp only at hc
 split at hc <;> first | (cases hc;done) | skip
 rename_i b
 simp only [hH,beq_iff_eq] at hc
 obtain ⟨rfl,h2⟩:=hc
 split at h2 <;> first | (cases h2;done) | skip
 rename_i x' y' t t' h3 h4
 simp only [hH] at h2
 obtain ⟨a1,a2,a3,a4,a5,a6,a7,a8,a9,a10⟩:=h2
 have hargs:args=#[x',y']:=nI (by simpa using h3)
 have htys:tys=#[t,t']:=nI (by simpa using h4)
 subst hargs htys
 obtain ⟨d,d1,d2⟩:=wAi a1
 split at d2 <;> first | (cases d2;done) | skip
 have e:=nA d2
 subst e
 rename_i e
 obtain ⟨dn,n1,n2⟩:=wAi a2
 split at n2 <;> first | (cases n2;done) | skip
 rename_i kn
 obtain ⟨i,i1,i2⟩:=wGT a5
 obtain ⟨i',j1,j2⟩:=wGU a6
 obtain ⟨i'',zv,k1,k2,k3⟩:=wFH a7
 rw [i1] at j1 k1;cases j1;cases k1
 have hz:=nA a8
 have hsz:0 < sz:=by simpa [nK] using a9
 have hx:=wAG a3 hE
 have hy:=wAG a4 hE
 have fin:∀ {μ':Mu} {w':World} {cv:Value},Ext μ h.fl.nat w μ' w'->Sim C P μ' h' w'->Rv μ' v cv->h'.fl=h.fl->(Builtin.append_ #[t,t'] o.type #[ev σ x',ev σ y']).run P w=.ok cv w' ->
   ∃ μ' w' cv,Ext μ h.fl.nat w μ' w'/\Sim C P μ' h' w'/\Rv μ' v cv/\h'.fl=h.fl/\Runs P σ w o cv w':=fun a b c d f =>
  ⟨_,_,_,a,b,c,d,by rw [ho];rfl,by simp [execOp,ho,resolve,invoke,builtin,f]⟩
 have zlen:zv.cells.size=sz:=by rw [<- hz,wES,<- wCu (k3 μ)];simp
 unfold wIu at hr
 split at hr
 ·rename_i nn hxs hn
  rw [hxs] at hx
  rw [wCH hn] at hy
  have hx:ev σ x'=.slice none 0 0:=hx
  have hy:ev σ y'=.int .i64 (nn:Int):=hy
  cases nn with
  | zero =>
   cases hr
   refine fin (Ext.refl μ _ w) S rfl rfl ?_
   rw [hx,hy]
   simp [Builtin.append_,run_underlying d1,run_underlying n1,sizeOf,typeInfo,i1,asInt,asIntOf,IntKind.wrap_i64]
  | succ m =>
   obtain ⟨hble,hr⟩:=wBi hr
   have hble:=nO hble
   cases hr
   have hby:0 < by_:=by simpa [nK] using a10
   have hnb:m + 1 <= 140737488355328:=nR (kE _ hby) hble
   have hrun:=Go.Lib.run_append_nil_zeros (P:=P) w t t' o.type e i zv .i64 kn d1 n1 i1 k2 (m + 1) (by omega) (by rw [i2];exact hsz) (by omega) (by rw [j2];omega)
   have hge:=grownCap_ge w (m + 1) 0 e
   have maxb:(140737488355328:Nat) <= maxLen:=by decide
   have hcm:grownCap w (m + 1) 0 e <= maxLen:=grownCap_le_maxLen w (m + 1) 0 e (by omega)
   have hcs:((nP (m + 1) zv.cells.toList).flatten).length=(m + 1) * sz:=by rw [<- wDj];simp [size_zeroCells,zlen]
   obtain ⟨μ',s1,s2,s3,s4⟩:=wMp (T:=e) (sz:=sz) (c:=grownCap w (m + 1) 0 e) (w':=w.drew.alloc (.cells (Builtin.zeroCells zv.cells (m + 1) ++ Builtin.zeroCells zv.cells (grownCap w (m + 1) 0 e - (m + 1))) e)) (cur:=Builtin.zeroCells zv.cells (m + 1) ++ Builtin.zeroCells zv.cells (grownCap w (m + 1) 0 e - (m + 1))) S
    ((Keep.drew w).non (wBL w.drew _)) (wGt (k3 μ) (m + 1)) (heap_alloc_new w.drew _) (by rw [hcs];exact nh _ hge) hcm
    (by
     simp only [kY,size_zeroCells,zlen,<- kM]
     congr 1
     omega)
    (by
     rw [kR,wDj]
     exact List.take_left)
   refine fin s1 s2 ⟨_,s4,?_,?_⟩ s3 (by rw [hx,hy];exact hrun)
   ·simpa using hge
   ·simp
 ·cases hr
theorem e_clr {z:List AV} {x:AOd} {op:Op} (hc:wQA P z x op=true):OkE C P op (wIr z x):=by
 intro σA h v h' hr μ σ w hE S o ho
 unfold wQA at hc
 split at hc
 ·rename_i c
  obtain ⟨ce,args,tys⟩:=c
  simp only at hc
  split at hc
  ·rename_i b
   simp only [hH,beq_iff_eq] at hc
   obtain ⟨rfl,h2⟩:=hc
   split at h2
   ·rename_i x' t h3 h4
    simp only [hH] at h2
    obtain ⟨a1,a2⟩:=h2
    obtain ⟨d,d1,d2⟩:=wAi a1
    split at d2 <;> first | (cases d2;done) | skip
    rename_i e
    have ea:args=#[x']:=nI (by simpa using h3)
    have et:tys=#[t]:=nI (by simpa using h4)
    subst ea et
    have hx:=wAG a2 hE
    obtain ⟨i,zv,z1,z2,z3⟩:=wFH d2
    have zero:∀ {A:Option Addr} {c:Nat},ev σ x'=.slice A 0 c->v=u->h'=h->∃ μ' w' cv,Ext μ h.fl.nat w μ' w'/\Sim C P μ' h' w'/\Rv μ' v cv/\h'.fl=h.fl/\Runs P σ w o cv w':=by
     intro A c hA hv hh
     subst hv hh
     refine ⟨μ,w,undef,Ext.refl μ _ w,S,wMV μ,rfl,by rw [ho];rfl,?_⟩
     cases A <;> simp [execOp,ho,resolve,invoke,builtin,Builtin.clear_,hA,wAp d1,undef]
    have full:∀ {b:Pos} {c:Cl} {off n cap:Nat},μ b=some c->ev σ x'=.slice (some ⟨c.1,off,none⟩) n cap->clr h z b off n=some (v,h')->∃ μ' w' cv,Ext μ h.fl.nat w μ' w'/\Sim C P μ' h' w'/\Rv μ' v cv/\h'.fl=h.fl/\Runs P σ w o cv w':=by
     intro b c off n cap hb hA hr
     unfold clr at hr
     split at hr
     ·cases hr;exact zero hA rfl rfl
     ·rename_i n
      obtain ⟨hones,hr'⟩:=wBi hr
      split at hr'
      ·rename_i h1' hset
       cases hr'
       have k1:=wGt (z3 μ) (n + 1)
       have k2:∀ v ∈ (nP (n + 1) zv.cells.toList).flatten,one v=true:=by
        intro v hv
        simp only [List.mem_flatten,List.mem_replicate] at hv
        obtain ⟨l,⟨_,rfl⟩,hv⟩:=hv
        exact wDy (z3 μ) hones v hv
       obtain ⟨w',q1,q2,q3,q4⟩:=wFc hset S k1 k2 hb
       refine ⟨μ,w',undef,q3,q2,wMV μ,q4,by rw [ho];rfl,?_⟩
       rw [<- wDj] at q1
       simp [execOp,ho,resolve,invoke,builtin,Builtin.clear_,hA,wAp d1,wDh z1 z2,q1,undef,Result.andThen]
      ·cases hr'
    unfold wIr at hr
    split at hr
    ·rename_i hb;rw [hb] at hx;obtain ⟨c,g1,_,g3⟩:=hx;exact full g1 g3 hr
    ·rename_i hb;rw [hb] at hx;obtain ⟨c,g1,_,g3⟩:=hx;exact full g1 g3 hr
    ·rename_i hb;rw [hb] at hx;cases hr;obtain ⟨c,g1,q,g3⟩:=hx;exact zero g3 rfl rfl
    ·rename_i hb;rw [hb] at hx;cases hr;have hx:ev σ x'=.slice none 0 0:=hx;exact zero hx rfl rfl
    ·cases hr
   ·cases h2
  ·cases hc
 ·cases hc
end
end
end Go.KX
namespace Go.KX
noncomputable section
open Go.RowKit Go.KL
section
variable {C:Chk} {P:Program} {μ μ':Mu} {w w':World} {h h':AH} {σ:Env} {σA:Tr AV} {t e:TypeId} {o:Oper} {K:Type} [DecidableEq K]
def wOB (P:Program) (two:Bool) (k:IntKind) (kt:TypeId):Bool:=match two with
 | false=>wEI P kt fun d=>match wMb d with | some k'=>keq k k' | none=>false
 | true=>(!P.stoodInHeld kt) && wEI P kt fun d=>match d with
  | .struct fs=>match fs.toList with
   | [f, g] => nB f.type g.type && (nB f.offset 0 && (nB g.offset 1 && ((f.name != "_") && ((g.name != "_") && wEI P f.type fun d => match wMb d with | some k' => keq k k' | none => false))))
   | _=>false
  | _=>false
theorem keyI {k:IntKind} {kt:TypeId} (hc:wOB P false k kt=true):KeyR P kt (fun n:Int=>nw k n):=by
 obtain ⟨d,d1,d2⟩:=wAi hc
 cases d <;> first | (cases d2;done) | skip
 have:=wBo d2
 subst this
 exact KeyR.ofInt d1
theorem wLJ {k:IntKind} {kt:TypeId} (hc:wOB P true k kt=true):KeyR P kt (mk2 k):=by
 simp only [wOB,hH,kA] at hc
 obtain ⟨c0,c1⟩:=hc
 obtain ⟨d,d1,d2⟩:=wAi c1
 split at d2
 ·rename_i fs
  split at d2
  ·rename_i f g hfs
   simp only [hH] at d2
   obtain ⟨a1,a2,a3,a4,a5,a6⟩:=d2
   obtain ⟨di,i1,i2⟩:=wAi a6
   cases di <;> first | (cases i2;done) | skip
   have ek:=wBo i2
   subst ek
   have efs:fs=#[f,g]:=nI (by simpa using hfs)
   subst efs
   have T:Two P kt f.type f g k:=⟨d1,rfl,nA a2,by simpa using a4,(nA a1).symm,nA a3,by simpa using a5,i1,fun w=>wGv i1 w,c0⟩
   exact T.keyR (mk2 k) (·.1) (·.2) (fun _=>rfl) fun x y h1 h2=>Prod.ext h1 h2
  ·cases d2
 ·cases d2
theorem mrI {l:List (Int × AV)} {tt:List (Int × Value)} (hm:MR μ l tt) (n:Int):(wLA l n=none/\wGC tt n=none) \/ ∃ a v,wLA l n=some a/\wGC tt n=some v/\Rv μ a v:=by
 induction l generalizing tt with
 | nil=>cases tt with
  | nil=>exact .inl ⟨rfl,rfl⟩
  | cons q tt=>have:=hm.1;simp at this
 | cons p l ih =>
  cases tt with
  | nil=>have:=hm.1;simp at this
  | cons q tt =>
   obtain ⟨a,x⟩:=p
   obtain ⟨b,v⟩:=q
   obtain ⟨h1,h2⟩:=hm
   simp only [nH,nJ] at h1
   obtain ⟨v',ws,g1,g2,g3⟩:=h2
   simp only [nH,nJ] at g3
   obtain ⟨rfl,rfl⟩:=g3
   obtain ⟨rfl,h1⟩:=h1
   simp only [wLA,wGC]
   by_cases e:n=a
   ·right;exact ⟨x,v,by simp [wDz,e],by simp [e],g1⟩
   ·have:=ih (tt:=tt) ⟨h1,g2⟩
    simpa [wDz,e] using this
theorem wQC {l:List (Int × AV)} {tt:List (Int × Value)} (hm:MR μ l tt) (n:Int) {a:AV} {v:Value} (hv:Rv μ a v):MR μ (wLo l n a) (mput tt n v):=by
 induction l generalizing tt with
 | nil=>cases tt with
  | nil=>exact ⟨rfl,wBh hv wGs⟩
  | cons q tt=>have:=hm.1;simp at this
 | cons p l ih =>
  cases tt with
  | nil=>have:=hm.1;simp at this
  | cons q tt =>
   obtain ⟨b,x⟩:=p
   obtain ⟨b',v0⟩:=q
   obtain ⟨h1,h2⟩:=hm
   simp only [nH,nJ] at h1
   obtain ⟨v',ws,g1,g2,g3⟩:=h2
   simp only [nH,nJ] at g3
   obtain ⟨rfl,rfl⟩:=g3
   obtain ⟨rfl,h1⟩:=h1
   simp only [wLo,mput,wDz]
   by_cases e:n=b
   ·simp only [e,decide_true,if_true]
    exact ⟨by simp [h1],wBh hv g2⟩
   ·have:=ih (tt:=tt) ⟨h1,g2⟩
    simp only [e,decide_false,if_false]
    exact ⟨by simp [this.1],wBh g1 this.2⟩
theorem wQD {l:List (Int × AV)} {tt:List (Int × Value)} (hm:MR μ l tt) (n:Int):MR μ (wLq l n) (mdel tt n):=by
 induction l generalizing tt with
 | nil=>cases tt with
  | nil=>exact ⟨rfl,rfl⟩
  | cons q tt=>have:=hm.1;simp at this
 | cons p l ih =>
  cases tt with
  | nil=>have:=hm.1;simp at this
  | cons q tt =>
   obtain ⟨b,x⟩:=p
   obtain ⟨b',v0⟩:=q
   obtain ⟨h1,h2⟩:=hm
   simp only [nH,nJ] at h1
   obtain ⟨v',ws,g1,g2,g3⟩:=h2
   simp only [nH,nJ] at g3
   obtain ⟨rfl,rfl⟩:=g3
   obtain ⟨rfl,h1⟩:=h1
   simp only [wLq,mdel,wDz]
   by_cases e:n=b
   ·simp only [e,decide_true,if_true]
    exact ⟨h1,g2⟩
   ·have:=ih (tt:=tt) ⟨h1,g2⟩
    simp only [e,decide_false,if_false]
    exact ⟨by simp [this.1],wBh g1 this.2⟩
theorem z2 (x y a b:Int):(zeq x a && zeq y b)=decide ((x,y)=(a,b)):=by
 rw [wDz,wDz]
 by_cases h1:x=a <;> by_cases h2:y=b <;> simp [h1,h2]
theorem mr2 {l:List ((Int × Int) × AV)} {tt:List ((Int × Int) × Value)} (hm:MR μ l tt) (x y:Int):(wKz l x y=none/\wGC tt (x,y)=none) \/ ∃ a v,wKz l x y=some a/\wGC tt (x,y)=some v/\Rv μ a v:=by
 induction l generalizing tt with
 | nil=>cases tt with
  | nil=>exact .inl ⟨rfl,rfl⟩
  | cons q tt=>have:=hm.1;simp at this
 | cons p l ih =>
  cases tt with
  | nil=>have:=hm.1;simp at this
  | cons q tt =>
   obtain ⟨⟨a,b⟩,x0⟩:=p
   obtain ⟨b',v⟩:=q
   obtain ⟨h1,h2⟩:=hm
   simp only [nH,nJ] at h1
   obtain ⟨v',ws,g1,g2,g3⟩:=h2
   simp only [nH,nJ] at g3
   obtain ⟨rfl,rfl⟩:=g3
   obtain ⟨rfl,h1⟩:=h1
   simp only [wKz,wGC,z2]
   by_cases e:(x,y)=(a,b)
   ·right;exact ⟨x0,v,by simp only [e,decide_true],by simp only [e,if_true],g1⟩
   ·have:=ih (tt:=tt) ⟨h1,g2⟩
    simp only [e,decide_false,if_false]
    exact this
theorem wQE {l:List ((Int × Int) × AV)} {tt:List ((Int × Int) × Value)} (hm:MR μ l tt) (x y:Int) {a:AV} {v:Value} (hv:Rv μ a v):MR μ (wLn l x y a) (mput tt (x,y) v):=by
 induction l generalizing tt with
 | nil=>cases tt with
  | nil=>exact ⟨rfl,wBh hv wGs⟩
  | cons q tt=>have:=hm.1;simp at this
 | cons p l ih =>
  cases tt with
  | nil=>have:=hm.1;simp at this
  | cons q tt =>
   obtain ⟨⟨b1,b2⟩,x0⟩:=p
   obtain ⟨b',v0⟩:=q
   obtain ⟨h1,h2⟩:=hm
   simp only [nH,nJ] at h1
   obtain ⟨v',ws,g1,g2,g3⟩:=h2
   simp only [nH,nJ] at g3
   obtain ⟨rfl,rfl⟩:=g3
   obtain ⟨rfl,h1⟩:=h1
   simp only [wLn,mput,z2]
   by_cases e:(x,y)=(b1,b2)
   ·simp only [e,decide_true,if_true]
    exact ⟨by simp [h1],wBh hv g2⟩
   ·have:=ih (tt:=tt) ⟨h1,g2⟩
    simp only [e,decide_false,if_false]
    exact ⟨by simp [this.1],wBh g1 this.2⟩
theorem wQF {l:List ((Int × Int) × AV)} {tt:List ((Int × Int) × Value)} (hm:MR μ l tt) (x y:Int):MR μ (wLp l x y) (mdel tt (x,y)):=by
 induction l generalizing tt with
 | nil=>cases tt with
  | nil=>exact ⟨rfl,rfl⟩
  | cons q tt=>have:=hm.1;simp at this
 | cons p l ih =>
  cases tt with
  | nil=>have:=hm.1;simp at this
  | cons q tt =>
   obtain ⟨⟨b1,b2⟩,x0⟩:=p
   obtain ⟨b',v0⟩:=q
   obtain ⟨h1,h2⟩:=hm
   simp only [nH,nJ] at h1
   obtain ⟨v',ws,g1,g2,g3⟩:=h2
   simp only [nH,nJ] at g3
   obtain ⟨rfl,rfl⟩:=g3
   obtain ⟨rfl,h1⟩:=h1
   simp only [wLp,mdel,z2]
   by_cases e:(x,y)=(b1,b2)
   ·simp only [e,decide_true,if_true]
    exact ⟨h1,g2⟩
   ·have:=ih (tt:=tt) ⟨h1,g2⟩
    simp only [e,decide_false,if_false]
    exact ⟨by simp [this.1],wBh g1 this.2⟩
theorem wRg {mt kt et:TypeId} {m ck:Nat} {es:Array MapEntry} {mk:K->Value} {tt:List (K × Value)} {a:K} {z:Value} {ok:Bool} (hm:w.heap[m]?=some (.map es ck)) (hu:P.underlying mt=some (.map kt et)) (R:KeyR P kt mk) (hz:∀ w,(zeroValue et).run P w=.ok z w) (hh:MpR es mk id tt) :
  (Instr.lookup mt (.map (some m)) (mk a) ok).run P w=.ok (if ok then .tuple #[wEP tt a z,.bool (wPX tt a)] else wEP tt a z) w:=by
 have hf:=R.find id es.toList tt a w hh
 have hg:=wEz tt a 0
 unfold wEP wPX
 simp [Instr.lookup,run_underlying hu,MapKept.run_getObj_map hm,R.chk,hf,Result.andThen,<- hg]
 cases e:wCl tt a 0 <;> simp [hz,Result.andThen]
theorem wQG {mt kt et:TypeId} {m ck:Nat} {es:Array MapEntry} {mk:K->Value} {tt:List (K × Value)} {a:K} {v:Value} (hm:w.heap[m]?=some (.map es ck)) (hu:P.underlying mt=some (.map kt et)) (R:KeyR P kt mk) (hh:MpR es mk id tt) :
  ∃ es' ck',MpR es' mk id (mput tt a v)/\(Instr.mapUpdate mt (.map (some m)) (mk a) v).run P w=.ok () (w.putObj m (.map es' ck')):=by
 have hf:=R.find id es.toList tt a w hh
 cases e:wCl tt a 0 with
 | none =>
  obtain ⟨e1,_⟩:=wFA e v
  refine ⟨es.push { key:=mk a,val:=v,born:=ck },ck + 1,?_,?_⟩
  ·unfold MpR at hh ⊢;rw [e1];simp [hh]
  ·simp [Instr.mapUpdate,run_underlying hu,MapKept.run_getObj_map hm,R.chk,hf,e,Result.andThen,MapKept.run_setObj_map _ hm]
   rfl
 | some p =>
  obtain ⟨q,u⟩:=p
  obtain ⟨_,h2,h3,_⟩:=wFB e v
  rw [Nat.sub_zero] at h2 h3
  have hq:q < tt.length:=(nN.1 h2).1
  have hl:es.size=tt.length:=by have:=congrArg nk hh;simpa using this
  have hkq:((es[q]?).map (·.key)).getD (mk a)=mk a:=by
   have h4:(es.toList.map (fun e=>(e.key,e.val)))[q]?=some (mk a,u):=by rw [hh,nr,h2];rfl
   rw [nr] at h4
   cases h5:es.toList[q]? with
   | none=>rw [h5] at h4;cases h4
   | some e =>
    rw [h5] at h4
    simp only [kg,nE,Prod.mk.injEq] at h4
    have h6:es[q]?=some e:=by simpa using h5
    rw [h6];simp [h4.1]
  refine ⟨es.modify q fun e=>{ e with key:=mk a,val:=v },ck,?_,?_⟩
  ·unfold MpR at hh ⊢
   rw [h3]
   apply List.ext_getElem?
   intro n
   have hn:=congrArg (·[n]?) hh
   simp only [nr] at hn ⊢
   rw [List.getElem?_set]
   simp only [Array.toList_modify,List.getElem?_modify]
   by_cases hqn:q=n
   ·subst hqn
    have h5:es.toList[q]?=some (es.toList[q]'(by simpa [hl] using hq)):=nl _
    simp [h5,hq]
   ·simp only [hqn,if_false]
    simpa [hqn] using hn
  ·simp [Instr.mapUpdate,run_underlying hu,MapKept.run_getObj_map hm,R.chk,hf,e,Result.andThen,MapKept.run_setObj_map _ hm,Instr.keyThatStays,hkq,R.same]
   rfl
theorem wQH {mt kt et ty:TypeId} {tys:Array TypeId} {m ck:Nat} {es:Array MapEntry} {mk:K->Value} {tt:List (K × Value)} {a:K} (hty:tys[0]?=some mt) (hm:w.heap[m]?=some (.map es ck)) (hu:P.underlying mt=some (.map kt et)) (R:KeyR P kt mk) (hh:MpR es mk id tt) :
  ∃ es' ck',MpR es' mk id (mdel tt a)/\(Builtin.delete_ tys ty #[.map (some m),mk a]).run P w=.ok (.tuple #[]) (w.putObj m (.map es' ck')):=by
 have hf:=R.find id es.toList tt a w hh
 cases e:wCl tt a 0 with
 | none =>
  obtain ⟨_,e1⟩:=wFA e (.bool true)
  refine ⟨es,ck,by rw [e1];exact hh,?_⟩
  simp [Builtin.delete_,hty,run_underlying hu,MapKept.run_getObj_map hm,R.chk,hf,e,Result.andThen,MapKept.run_setObj_map _ hm]
  rfl
 | some p =>
  obtain ⟨q,u⟩:=p
  obtain ⟨_,h2,_,h3⟩:=wFB e (.bool true)
  rw [Nat.sub_zero] at h2 h3
  refine ⟨es.eraseIdxIfInBounds q,ck,?_,?_⟩
  ·unfold MpR at hh ⊢
   rw [h3,<- wDw,<- hh,wDw]
   simp
  ·simp [Builtin.delete_,hty,run_underlying hu,MapKept.run_getObj_map hm,R.chk,hf,e,Result.andThen,MapKept.run_setObj_map _ hm]
   rfl
def wQI (C:Chk) (P:Program) (μ:Mu) (w:World) (c:Cl) (two:Bool) (k:IntKind) (kt:TypeId) (B:AB) (y:AV) (Y:Value):Prop :=
  ∃ (K:Type) (_:DecidableEq K) (mk:K->Value) (a:K) (es:Array MapEntry) (ck:Nat) (tt:List (K × Value)),Y=mk a/\w.heap[c.1]?=some (.map es ck)/\KeyR P kt mk/\MpR es mk id tt /\
   (∀ q,wGl two k B y=some q->(q=none/\wGC tt a=none) \/ ∃ x v,q=some x/\wGC tt a=some v/\Rv μ x v) /\
   (∀ x v B',wNx two k B y x=some B'->Rv μ x v->wLF B'/\∀ w' es' ck',w'.heap[c.1]?=some (.map es' ck')->MpR es' mk id (mput tt a v)->AbR C P μ w' c B') /\
   (∀ B',wNy two k B y=some B'->wLF B'/\∀ w' es' ck',w'.heap[c.1]?=some (.map es' ck')->MpR es' mk id (mdel tt a)->AbR C P μ w' c B')
theorem wMq {two:Bool} {k:IntKind} {kt:TypeId} {B:AB} {y:AV} {Y:Value} {c:Cl} (hk:wOB P two k kt=true) (hB:AbR C P μ w c B) (hY:Rv μ y Y) (hr:(wGl two k B y).isSome=true \/ (∃ v,(wNx two k B y v).isSome=true) \/ (wNy two k B y).isSome=true) :
  wQI C P μ w c two k kt B y Y/\wLF B:=by
 have caseI:two=false->∀ (n:Int) (es:Array MapEntry) (ck:Nat) (tt:List (Int × Value)) (l:List (Int × AV)),y=.int k n->w.heap[c.1]?=some (.map es ck)->MpR es (fun n:Int=>nw k n) id tt->MR μ l tt ->
   (∀ q,wGl two k B y=some q->q=wLA l n)->(∀ x B',wNx two k B y x=some B'->B'=.mapI k (wLo l n x))->(∀ B',wNy two k B y=some B'->B'=.mapI k (wLq l n) \/ (B'=.map0/\l=[]))->wQI C P μ w c two k kt B y Y:=by
  intro h2 n es ck tt l hy hm hp hM q1 q2 q3
  subst h2 hy
  have hY:Y=.int k n:=hY
  refine ⟨Int,inferInstance,fun n=>nw k n,n,es,ck,tt,hY,hm,keyI hk,hp,?_,?_,?_⟩
  ·intro q hq
   rw [q1 q hq]
   exact mrI hM n
  ·intro x v B' hB' hv
   have:=q2 x B' hB'
   subst this
   exact ⟨trivial,fun w' es' ck' g1 g2=>⟨es',ck',_,g1,g2,wQC hM n hv⟩⟩
  ·intro B' hB'
   rcases q3 B' hB' with rfl | ⟨rfl,rfl⟩
   ·exact ⟨trivial,fun w' es' ck' g1 g2=>⟨es',ck',_,g1,g2,wQD hM n⟩⟩
   ·refine ⟨trivial,fun w' es' ck' g1 g2=>⟨ck',?_⟩⟩
    cases tt with
    | cons p tt=>have:=hM.1;simp at this
    | nil =>
     have:es'=#[]:=by
      unfold MpR at g2
      simp only [mdel,kC,kS] at g2
      exact nI (by simpa using g2)
     rw [this] at g1;exact g1
 have case2:two=true->∀ (n m:Int) (es:Array MapEntry) (ck:Nat) (tt:List ((Int × Int) × Value)) (l:List ((Int × Int) × AV)),y=.agg [.int k n,.int k m]->w.heap[c.1]?=some (.map es ck)->MpR es (mk2 k) id tt->MR μ l tt ->
   (∀ q,wGl two k B y=some q->q=wKz l n m)->(∀ x B',wNx two k B y x=some B'->B'=.map2 k (wLn l n m x))->(∀ B',wNy two k B y=some B'->B'=.map2 k (wLp l n m) \/ (B'=.map0/\l=[]))->wQI C P μ w c two k kt B y Y:=by
  intro h2 n m es ck tt l hy hm hp hM q1 q2 q3
  subst h2 hy
  have hY:Y=mk2 k (n,m):=by
   obtain ⟨vs,g1,rfl⟩:=hY
   obtain ⟨v1,ws,g2,g3,rfl⟩:=g1
   obtain ⟨v2,ws2,g4,g5,rfl⟩:=g3
   cases g5
   have g2:v1=.int k n:=g2
   have g4:v2=.int k m:=g4
   subst g2 g4
   rfl
  refine ⟨Int × Int,inferInstance,mk2 k,(n,m),es,ck,tt,hY,hm,wLJ hk,hp,?_,?_,?_⟩
  ·intro q hq
   rw [q1 q hq]
   exact mr2 hM n m
  ·intro x v B' hB' hv
   have:=q2 x B' hB'
   subst this
   exact ⟨trivial,fun w' es' ck' g1 g2=>⟨es',ck',_,g1,g2,wQE hM n m hv⟩⟩
  ·intro B' hB'
   rcases q3 B' hB' with rfl | ⟨rfl,rfl⟩
   ·exact ⟨trivial,fun w' es' ck' g1 g2=>⟨es',ck',_,g1,g2,wQF hM n m⟩⟩
   ·refine ⟨trivial,fun w' es' ck' g1 g2=>⟨ck',?_⟩⟩
    cases tt with
    | cons p tt=>have:=hM.1;simp at this
    | nil =>
     have:es'=#[]:=by
      unfold MpR at g2
      simp only [mdel,kC,kS] at g2
      exact nI (by simpa using g2)
     rw [this] at g1;exact g1
 have shape:(∃ n,two=false/\y=.int k n/\(B=.map0 \/ ∃ l,B=.mapI k l)) \/ (∃ n m,two=true/\y=.agg [.int k n,.int k m]/\(B=.map0 \/ ∃ l,B=.map2 k l)):=by
  have fI:∀ {k':IntKind} {b:Bool} {α:Type} {x:Option α},(ifO b x).isSome=true->b=true:=fun {k' b α x} hq=>by cases b <;> first | rfl | cases hq
  rcases hr with hr | ⟨v,hr⟩ | hr
  ·unfold wGl at hr
   split at hr <;> first | (cases hr;done) | skip
   ·have:=wBo (fI (k':=k) hr);subst this;exact .inl ⟨_,rfl,rfl,.inl rfl⟩
   ·have:=fI (k':=k) hr;simp only [hH] at this
    have e1:=wBo this.1;have e2:=wBo this.2;subst e1 e2;exact .inr ⟨_,_,rfl,rfl,.inl rfl⟩
   ·have:=fI (k':=k) hr;simp only [hH] at this
    have e1:=wBo this.1;have e2:=wBo this.2;subst e1 e2;exact .inl ⟨_,rfl,rfl,.inr ⟨_,rfl⟩⟩
   ·have:=fI (k':=k) hr;simp only [hH] at this
    have e1:=wBo this.1;have e2:=wBo this.2.1;have e3:=wBo this.2.2;subst e1 e2 e3;exact .inr ⟨_,_,rfl,rfl,.inr ⟨_,rfl⟩⟩
  ·unfold wNx at hr
   split at hr <;> first | (cases hr;done) | skip
   ·have:=wBo (fI (k':=k) hr);subst this;exact .inl ⟨_,rfl,rfl,.inl rfl⟩
   ·have:=fI (k':=k) hr;simp only [hH] at this
    have e1:=wBo this.1;have e2:=wBo this.2;subst e1 e2;exact .inr ⟨_,_,rfl,rfl,.inl rfl⟩
   ·have:=fI (k':=k) hr;simp only [hH] at this
    have e1:=wBo this.1;have e2:=wBo this.2;subst e1 e2;exact .inl ⟨_,rfl,rfl,.inr ⟨_,rfl⟩⟩
   ·have:=fI (k':=k) hr;simp only [hH] at this
    have e1:=wBo this.1;have e2:=wBo this.2.1;have e3:=wBo this.2.2;subst e1 e2 e3;exact .inr ⟨_,_,rfl,rfl,.inr ⟨_,rfl⟩⟩
  ·unfold wNy at hr
   split at hr <;> first | (cases hr;done) | skip
   ·have:=wBo (fI (k':=k) hr);subst this;exact .inl ⟨_,rfl,rfl,.inl rfl⟩
   ·have:=fI (k':=k) hr;simp only [hH] at this
    have e1:=wBo this.1;have e2:=wBo this.2;subst e1 e2;exact .inr ⟨_,_,rfl,rfl,.inl rfl⟩
   ·have:=fI (k':=k) hr;simp only [hH] at this
    have e1:=wBo this.1;have e2:=wBo this.2;subst e1 e2;exact .inl ⟨_,rfl,rfl,.inr ⟨_,rfl⟩⟩
   ·have:=fI (k':=k) hr;simp only [hH] at this
    have e1:=wBo this.1;have e2:=wBo this.2.1;have e3:=wBo this.2.2;subst e1 e2 e3;exact .inr ⟨_,_,rfl,rfl,.inr ⟨_,rfl⟩⟩
 have iS:∀ {b:Bool} {α:Type} {x:Option α} {v:α},ifO b x=some v->x=some v:=fun hq=>(wBi hq).2
 rcases shape with ⟨n,rfl,rfl,rfl | ⟨l,rfl⟩⟩ | ⟨n,m,rfl,rfl,rfl | ⟨l,rfl⟩⟩
 ·obtain ⟨ck,hm⟩:=hB
  refine ⟨?_,trivial⟩
  exact caseI rfl n #[] ck [] [] rfl hm rfl ⟨rfl,rfl⟩ (fun q hq=>by simp only [wGl] at hq;cases iS hq;rfl) (fun x B' hq=>by simp only [wNx] at hq;cases iS hq;rfl) (fun B' hq=>by simp only [wNy] at hq;cases iS hq;exact .inr ⟨rfl,rfl⟩)
 ·obtain ⟨es,ck,tt,hm,hp,hM⟩:=hB
  refine ⟨?_,trivial⟩
  exact caseI rfl n es ck tt l rfl hm hp hM (fun q hq=>by simp only [wGl] at hq;cases iS hq;rfl) (fun x B' hq=>by simp only [wNx] at hq;cases iS hq;rfl) (fun B' hq=>by simp only [wNy] at hq;cases iS hq;exact .inl rfl)
 ·obtain ⟨ck,hm⟩:=hB
  refine ⟨?_,trivial⟩
  exact case2 rfl n m #[] ck [] [] rfl hm rfl ⟨rfl,rfl⟩ (fun q hq=>by simp only [wGl] at hq;cases iS hq;rfl) (fun x B' hq=>by simp only [wNx] at hq;cases iS hq;rfl) (fun B' hq=>by simp only [wNy] at hq;cases iS hq;exact .inr ⟨rfl,rfl⟩)
 ·obtain ⟨es,ck,tt,hm,hp,hM⟩:=hB
  refine ⟨?_,trivial⟩
  exact case2 rfl n m es ck tt l rfl hm hp hM (fun q hq=>by simp only [wGl] at hq;cases iS hq;rfl) (fun x B' hq=>by simp only [wNx] at hq;cases iS hq;rfl) (fun B' hq=>by simp only [wNy] at hq;cases iS hq;exact .inl rfl)
def wRh (P:Program) (two:Bool) (k:IntKind) (ok:Bool) (z:AV) (x y:AOd):Op->Bool
 | .lookup t x' y' ok'=>wEI P t (fun d=>match d with
   | .map kt et=>wOB P two k kt && (match P.info? et with
    | some i=>match i.zero with | some v=>okc z v | none=>false
    | none=>false)
   | _=>false) && ((ok == ok') && (wCK x x' && wCK y y'))
 | _=>false
def lkV (ok:Bool) (z:AV) (q:Option AV):AV:=match ok with
 | true=>.tup [q.getD z,.bool q.isSome]
 | false=>q.getD z
theorem l_lk {two:Bool} {k:IntKind} {ok:Bool} {z:AV} {x y:AOd} {op:Op} (hc:wRh P two k ok z x y op=true):OkL C P op (wOA two k ok z x y):=by
 intro σA h v h' hr
 unfold wRh at hc
 split at hc
 ·rename_i t x' y' ok'
  simp only [hH,beq_iff_eq] at hc
  obtain ⟨c1,rfl,c2,c3⟩:=hc
  obtain ⟨d,d1,d2⟩:=wAi c1
  split at d2 <;> first | (cases d2;done) | skip
  rename_i kt et
  simp only [hH] at d2
  obtain ⟨k1,k2⟩:=d2
  split at k2 <;> first | (cases k2;done) | skip
  rename_i i hi
  split at k2 <;> first | (cases k2;done) | skip
  rename_i zv hz
  unfold wOA at hr
  split at hr <;> first | (cases hr;done) | skip
  rename_i b hx
  split at hr <;> first | (cases hr;done) | skip
  rename_i B hB
  have key:∀ q,wGl two k B (evA σA y)=some q->h'=h->v=lkV ok z q->h'=h/\∀ μ σ w,EnvR μ σA σ->Sim C P μ h w->∃ cv,Rv μ v cv/\∀ (o:Oper),o.op=.lookup t x' y' ok->wGL P σ w o cv:=by
   intro q hq hh hv
   subst hh hv
   refine ⟨rfl,fun μ σ w hE S=>?_⟩
   have g:=wAG c2 hE;rw [hx] at g
   obtain ⟨c,g1,g2⟩:=g
   obtain ⟨c',g3,g4⟩:=S.at_ b B hB
   rw [g1] at g3;cases g3
   obtain ⟨⟨K,_,mk,a,es,ck,tt,e1,e2,e3,e4,e5,_,_⟩,hl⟩:=wMq k1 g4 (wAG c3 hE) (.inl (by rw [hq];rfl))
   have hrun:∀ w',Keep w w' Non->∀ (o:Oper),o.op=.lookup t x' y' ok->Runs P σ w' o (if ok then .tuple #[wEP tt a zv,.bool (wPX tt a)] else wEP tt a zv) w':=by
    intro w' K o ho
    have hm:=(K.block _ (wAM e2) id).trans e2
    have:=wRg (P:=P) (ok:=ok) hm d1 e3 (wDh hi hz) e4 (a:=a)
    exact ⟨by rw [ho];rfl,by simp [execOp,ho,g2,e1,this,Result.andThen]⟩
   refine ⟨_,?_,fun o ho w' K=>hrun w' K o ho⟩
   have hval:Rv μ (q.getD z) (wEP tt a zv)/\q.isSome=wPX tt a:=by
    rcases e5 q hq with ⟨rfl,q2⟩ | ⟨x,v,rfl,q2,q3⟩
    ·unfold wEP wPX;rw [q2];exact ⟨wMX μ k2,rfl⟩
    ·unfold wEP wPX;rw [q2];exact ⟨q3,rfl⟩
   cases ok
   ·exact hval.1
   ·exact ⟨_,wBh hval.1 (wBh (v:=.bool (wPX tt a)) (by rw [<- hval.2];rfl) wGs),rfl⟩
  split at hr
  ·rename_i q hq
   cases hr
   exact key _ hq rfl (by cases ok <;> rfl)
  ·rename_i hq
   cases hr
   exact key _ hq rfl (by cases ok <;> rfl)
  ·cases hr
 ·cases hc
def wKY (P:Program) (two:Bool) (k:IntKind) (x y z:AOd):Op->Bool
 | .mapUpdate t x' y' z' | .insert t x' y' z'=>wEI P t (fun d=>match d with
   | .map kt et=>wOB P two k kt
   | _=>false) && (wCK x x' && (wCK y y' && wCK z z'))
 | _=>false
theorem wMr {two:Bool} {k:IntKind} {x y z:AOd} {op:Op} (hc:wKY P two k x y z op=true):∃ t kt et x' y' z',(op=.mapUpdate t x' y' z' \/ op=.insert t x' y' z')/\P.underlying t=some (.map kt et)/\wOB P two k kt=true/\wCK x x'=true/\wCK y y'=true/\wCK z z'=true:=by
 have key:∀ {t:TypeId} {x' y' z':Operand},(wEI P t (fun d=>match d with | .map kt et=>wOB P two k kt | _=>false) && (wCK x x' && (wCK y y' && wCK z z')))=true->∃ kt et,P.underlying t=some (.map kt et)/\wOB P two k kt=true/\wCK x x'=true/\wCK y y'=true/\wCK z z'=true:=by
  intro t x' y' z' hq
  simp only [hH] at hq
  obtain ⟨d,d1,d2⟩:=wAi hq.1
  split at d2 <;> first | (cases d2;done) | skip
  exact ⟨_,_,d1,d2,hq.2⟩
 unfold wKY at hc
 split at hc
 ·obtain ⟨kt,et,g⟩:=key hc;exact ⟨_,kt,et,_,_,_,.inl rfl,g⟩
 ·obtain ⟨kt,et,g⟩:=key hc;exact ⟨_,kt,et,_,_,_,.inr rfl,g⟩
 ·cases hc
theorem wRi {two:Bool} {k:IntKind} {x y z:AOd} {op:Op} (hc:wKY P two k x y z op=true):OkU C P op (wGF two k x y z):=by
 intro σA h v h' hr μ σ w hE S o ho
 obtain ⟨t,kt,et,x',y',z',hop,d1,k1,c1,c2,c3⟩:=wMr hc
 unfold wGF at hr
 split at hr <;> first | (cases hr;done) | skip
 rename_i b hx
 split at hr <;> first | (cases hr;done) | skip
 rename_i B hB
 split at hr <;> first | (cases hr;done) | skip
 rename_i B' hp
 split at hr <;> first | (cases hr;done) | skip
 rename_i h1' hput
 cases hr
 have g:=wAG c1 hE;rw [hx] at g
 obtain ⟨c,g1,g2⟩:=g
 obtain ⟨c',g3,g4⟩:=S.at_ b B hB
 rw [g1] at g3;cases g3
 obtain ⟨⟨K,_,mk,a,es,ck,tt,e1,e2,e3,e4,_,e6,_⟩,hl⟩:=wMq k1 g4 (wAG c2 hE) (.inr (.inl ⟨_,by rw [hp];rfl⟩))
 obtain ⟨es',ck',r1,r2⟩:=wQG (P:=P) (v:=ev σ z') e2 d1 e3 e4 (a:=a)
 obtain ⟨l1,l2⟩:=e6 _ (ev σ z') B' hp (wAG c3 hE)
 obtain ⟨s1,s2,s3⟩:=S.put hput hB hl g1 (wCD w c.1 (.map es' ck')) (l2 _ es' ck' (wFD _ (wAM e2)) r1)
 refine ⟨μ,_,s2,s1,rfl,s3,by rw [ho];rcases hop with e | e <;> (rw [e];rfl),?_⟩
 rcases hop with e | e <;> rw [e] at ho <;> simp [execOp,ho,g2,e1,r2,Result.andThen]
def wMs (P:Program) (two:Bool) (k:IntKind) (x y:AOd):Op->Bool
 | .call c=>match c.callee with
  | .builtin b=>(b == .delete) && (match c.args.toList,c.argTypes.toList with
   | [x',y'],t :: _=>wEI P t (fun d=>match d with | .map kt _=>wOB P two k kt | _=>false) && (wCK x x' && wCK y y')
   | _,_=>false)
  | _=>false
 | _=>false
theorem wRj {two:Bool} {k:IntKind} {x y:AOd} {op:Op} (hc:wMs P two k x y op=true):OkE C P op (wGG two k x y):=by
 intro σA h v h' hr μ σ w hE S o ho
 unfold wMs at hc
 split at hc <;> first | (cases hc;done) | skip
 rename_i c
 obtain ⟨ce,args,tys⟩:=c
 simp only at hc
 split at hc <;> first | (cases hc;done) | skip
 rename_i b
 simp only [hH,beq_iff_eq] at hc
 obtain ⟨rfl,h2⟩:=hc
 split at h2 <;> first | (cases h2;done) | skip
 rename_i x' y' t ts h3 h4
 simp only [hH] at h2
 obtain ⟨a1,a2,a3⟩:=h2
 obtain ⟨d,d1,d2⟩:=wAi a1
 split at d2 <;> first | (cases d2;done) | skip
 rename_i kt et
 have ea:args=#[x',y']:=nI (by simpa using h3)
 have et':tys[0]?=some t:=by rw [<- kP,h4];rfl
 unfold wGG at hr
 split at hr <;> first | (cases hr;done) | skip
 rename_i b hx
 split at hr <;> first | (cases hr;done) | skip
 rename_i B hB
 split at hr <;> first | (cases hr;done) | skip
 rename_i B' hp
 split at hr <;> first | (cases hr;done) | skip
 rename_i h1' hput
 cases hr
 have g:=wAG a2 hE;rw [hx] at g
 obtain ⟨c,g1,g2⟩:=g
 obtain ⟨c',g3,g4⟩:=S.at_ b B hB
 rw [g1] at g3;cases g3
 obtain ⟨⟨K,_,mk,a,es,ck,tt,e1,e2,e3,e4,_,_,e7⟩,hl⟩:=wMq d2 g4 (wAG a3 hE) (.inr (.inr (by rw [hp];rfl)))
 obtain ⟨es',ck',r1,r2⟩:=wQH (P:=P) (ty:=o.type) et' e2 d1 e3 e4 (a:=a)
 obtain ⟨l1,l2⟩:=e7 B' hp
 obtain ⟨s1,s2,s3⟩:=S.put hput hB hl g1 (wCD w c.1 (.map es' ck')) (l2 _ es' ck' (wFD _ (wAM e2)) r1)
 refine ⟨μ,_,_,s2,s1,wMV μ,s3,by rw [ho];rfl,?_⟩
 simp [execOp,ho,ea,resolve,invoke,builtin,g2,e1,r2,undef,Result.andThen]
def wJB (P:Program) (x:AOd):Op->Bool
 | .call c=>match c.callee with
  | .builtin b=>(b == .len) && (match c.args.toList,c.argTypes.toList with
   | [x'],[t]=>wEI P t (fun d=>match d with | .map _ _=>true | _=>false) && wCK x x'
   | _,_=>false)
  | _=>false
 | _=>false
theorem wRk {x:AOd} {op:Op} (hc:wJB P x op=true):OkL C P op (wEs x):=by
 intro σA h v h' hr
 unfold wJB at hc
 split at hc <;> first | (cases hc;done) | skip
 rename_i c
 obtain ⟨ce,args,tys⟩:=c
 simp only at hc
 split at hc <;> first | (cases hc;done) | skip
 rename_i b
 simp only [hH,beq_iff_eq] at hc
 obtain ⟨rfl,h2⟩:=hc
 split at h2 <;> first | (cases h2;done) | skip
 rename_i x' t h3 h4
 simp only [hH] at h2
 obtain ⟨a1,a2⟩:=h2
 obtain ⟨d,d1,d2⟩:=wAi a1
 split at d2 <;> first | (cases d2;done) | skip
 rename_i kt et
 have ea:args=#[x']:=nI (by simpa using h3)
 have et':tys=#[t]:=nI (by simpa using h4)
 subst ea et'
 unfold wEs at hr
 split at hr
 ·rename_i hx
  cases hr
  refine ⟨rfl,fun μ σ w hE S=>⟨_,rfl,fun o ho w' K=>?_⟩⟩
  have g:=wAG a2 hE;rw [hx] at g
  have g:ev σ x'=.map none:=g
  exact ⟨by rw [ho];rfl,by simp [execOp,ho,resolve,invoke,builtin,Builtin.len_,g,run_underlying d1,goInt,Result.andThen]⟩
 ·rename_i b hx
  split at hr <;> first | (cases hr;done) | skip
  rename_i B hB
  split at hr <;> first | (cases hr;done) | skip
  rename_i n hn
  cases hr
  refine ⟨rfl,fun μ σ w hE S=>⟨_,rfl,fun o ho w' K=>?_⟩⟩
  have g:=wAG a2 hE;rw [hx] at g
  obtain ⟨c,g1,g2⟩:=g
  obtain ⟨c',g3,g4⟩:=S.at_ b B hB
  rw [g1] at g3;cases g3
  have hmap:∃ es ck,w.heap[c.1]?=some (.map es ck)/\es.size=n:=by
   unfold lenB at hn
   split at hn <;> first | (cases hn;done) | skip
   ·cases hn;obtain ⟨ck,q⟩:=g4;exact ⟨_,ck,q,rfl⟩
   ·cases hn
    obtain ⟨es,ck,tt,q1,q2,q3⟩:=g4
    refine ⟨es,ck,q1,?_⟩
    have e1:=congrArg nk q2
    have e2:=congrArg nk q3.1
    simp at e1 e2
    rw [wES];omega
   ·cases hn
    obtain ⟨es,ck,tt,q1,q2,q3⟩:=g4
    refine ⟨es,ck,q1,?_⟩
    have e1:=congrArg nk q2
    have e2:=congrArg nk q3.1
    simp at e1 e2
    rw [wES];omega
  obtain ⟨es,ck,q1,q2⟩:=hmap
  have hm:=(K.block _ (wAM q1) id).trans q1
  refine ⟨by rw [ho];rfl,?_⟩
  simp [execOp,ho,resolve,invoke,builtin,Builtin.len_,g2,run_underlying d1,MapKept.run_getObj_map hm,goInt,Result.andThen,q2]
 ·cases hr
end
end
end Go.KX
namespace Go.KX
noncomputable section
open Go.RowKit Go.KL
def kdA:AOp->Nat
 | .mv _ | .pick _ _ _ | .nilc _ | .add _ _ | .sub _ _ | .mul _ _ | .quo _ _ | .rem _ _ | .lss _ _ | .leq _ _ | .gtr _ _ | .geq _ _ | .eql _ _ | .neq _ _ | .eqb _ _ _ | .eqn _ _ _ _ | .eqs _ _ _ _
 | .bad | .and _ _ | .shr _ _ | .ixs _ _ | .neg _ | .not _ | .cvt _ _ | .mkf _ _ _ | .slc _ _ _ _ _ | .slcA _ _ _ _ _ | .fad _ _ | .fld _ _ | .fldA _ _ _ | .iad _ _ _ | .iadA _ _ _ _ | .ix _ _ _ | .ixA _ _ _ _ | .ext _ _ | .bld _ _ | .len _ | .cap _ | .min _ _ | .max _ _=>3
 | .ld _ | .ldA _ _ | .lk _ _ _ _ _ _ | .lenM _=>1
 | .st _ _ _ | .mput _ _ _ _ _=>4
 | .call _ _=>5
 | _=>0
def wMt (x:AOd) (l:List AOd):Op->Bool
 | .call c=>match c.callee with
  | .value f=>wCK x f && wIx l c.args.toList
  | _=>false
 | _=>false
def wQx:List UInt8->List Nat->Bool
 | [],[]=>true
 | a :: l,b :: k=>nB a.toNat b && wQx l k
 | _,_=>false
theorem wMu:∀ {l:List UInt8} {k:List Nat},wQx l k=true->l.map UInt8.toNat=k
 | [],[],_=>rfl
 | a :: l,b :: k,h=>by
  simp only [wQx,hH] at h
  rw [nH,nA h.1,wMu h.2]
 | [],_ :: _,h=>by simp [wQx] at h
 | _ :: _,[],h=>by simp [wQx] at h
def wQJ (P:Program) (l:List Nat) (y:AOd):Op->Bool
 | .index t (.const (.string s)) y'=>wEI P t (fun d=>match d with | .string=>true | _=>false) && (wQx s.data.toList l && wCK y y')
 | _=>false
def wHA (P:Program) (a:AOp) (op:Op):Bool:=match a with
 | .mv x=>c_mv x op
 | .pick c x y=>wMY c x y op
 | .new T z=>wMl P T z op
 | .box T x=>wMm T x op
 | .ld x=>wRd P x op
 | .ldA n x=>wMk P n x op
 | .st n x y=>c_st P n x y op
 | .nilc x=>wMZ x op
 | .add x y=>wCg .add x y op
 | .sub x y=>wCg .sub x y op
 | .mul x y=>wCg .mul x y op
 | .quo x y=>wCg .quo x y op
 | .rem x y=>wCg .rem x y op
 | .lss x y=>wCg .lss x y op
 | .leq x y=>wCg .leq x y op
 | .gtr x y=>wCg .gtr x y op
 | .geq x y=>wCg .geq x y op
 | .eql x y=>wCg .eql x y op
 | .neq x y=>wCg .neq x y op
 | .eqb ne x y=>wPp P ne x y op
 | .eqn k ne x y=>wPq P k ne x y op
 | .eqs ne s x y=>wPr P ne s x y op
 | .neg x=>wPk x op
 | .not x=>wPl x op
 | .cvt k x=>wPm (P:=P) k x op
 | .mkf f fi ca=>wPn f fi ca op
 | .mkm=>wMn op
 | .mks T sz by_ z x y=>wMo P T sz by_ z x y op
 | .slc sz x lo hi mx=>wPw P sz x lo hi mx op
 | .slcA sz n x lo hi=>wMi P sz n x lo hi op
 | .fad off x=>wPs P off x op
 | .fld off x=>wPt P off x op
 | .fldA off n x=>wMe P off n x op
 | .iad sz x y=>wPu P sz x y op
 | .iadA sz n x y=>wMf P sz n x y op
 | .ix n x y=>c_ix P n x y op
 | .ixA sz n x y=>wPv P sz n x y op
 | .lk two k ok z x y=>wRh P two k ok z x y op
 | .mput two k x y z=>wKY P two k x y z op
 | .mdel two k x y=>wMs P two k x y op
 | .ext i x=>wPo i x op
 | .bld z ps=>wPx P z ps op
 | .blds T n z ps=>wJA P T n z ps op
 | .len x=>wLI P .len x op
 | .lenM x=>wJB P x op
 | .cap x=>wLI P .cap x op
 | .app T sz by_ x y=>wOR P T sz by_ x y op
 | .cpy sz x y=>wPz P sz x y op
 | .clr z x=>wQA P z x op
 | .min x y=>wQw .min x y op
 | .max x y=>wQw .max x y op
 | .call x l=>wMt x l op
 | .bad=>true
 | .and x y=>wCg .and x y op
 | .shr x y=>wCg .shr x y op
 | .ixs l y=>wQJ P l y op
 | .apz T sz by_ z x y=>wQB P T sz by_ z x y op
section
variable {C:Chk} {P:Program} {tb:Tr AF} {ex exY:Run}
theorem p_bad {op:Op}:OkP P op (wRR):=by
 intro σA h v h' hr
 cases hr
theorem p_and {x y:AOd} {op:Op} (hc:wCg .and x y op=true):OkP P op (wMI x y):=by
 intro σA h v h' hr
 obtain ⟨t,x',y',t',rfl,h1,h2⟩:=wFa hc
 obtain ⟨hr2,rfl⟩:=wBr hr
 split at hr2
 ·rename_i k a k' b ha hb
  split at hr2
  ·rename_i hk
   cases hr2
   have hk:=wBo hk
   subst hk
   refine ⟨rfl,fun μ σ hE=>⟨_,rfl,fun o w ho=>?_⟩⟩
   have g1:=wAG h1 hE;rw [ha] at g1
   have g2:=wAG h2 hE;rw [hb] at g2
   have g1:ev σ x'=.int k a:=g1
   have g2:ev σ y'=.int k b:=g2
   exact ⟨by rw [ho];rfl,by simp [execOp,ho,g1,g2,binOp,eqGuard,Op.intBits,andI]⟩
  ·cases hr2
 ·cases hr2
theorem p_shr {x y:AOd} {op:Op} (hc:wCg .shr x y op=true):OkP P op (wMJ x y):=by
 intro σA h v h' hr
 obtain ⟨t,x',y',t',rfl,h1,h2⟩:=wFa hc
 obtain ⟨hr2,rfl⟩:=wBr hr
 split at hr2
 ·rename_i k a k' b ha hb
  cases hr2
  refine ⟨rfl,fun μ σ hE=>⟨_,rfl,fun o w ho=>?_⟩⟩
  have g1:=wAG h1 hE;rw [ha] at g1
  have g2:=wAG h2 hE;rw [hb] at g2
  have g1:ev σ x'=.int k a:=g1
  have g2:ev σ y'=.int k' (kJ b):=g2
  have hn:¬ (kJ b) < 0:=by simp
  exact ⟨by rw [ho];rfl,by simp [execOp,ho,g1,g2,binOp,eqGuard,Op.shift];intro hb0;omega⟩
 ·cases hr2
theorem p_ixs {l:List Nat} {y:AOd} {op:Op} (hc:wQJ P l y op=true):OkP P op (wJj l y):=by
 intro σA h v h' hr
 unfold wQJ at hc
 split at hc <;> first | (cases hc;done) | skip
 rename_i t s y'
 simp only [hH] at hc
 obtain ⟨c1,c2,c3⟩:=hc
 obtain ⟨d,d1,d2⟩:=wAi c1
 split at d2 <;> first | (cases d2;done) | skip
 have hl:=wMu c2
 unfold wJj at hr
 split at hr
 ·rename_i k i hy
  obtain ⟨hr2,rfl⟩:=wBr hr
  split at hr2
  ·rename_i b hb
   cases hr2
   rw [wGI,<- hl,nr] at hb
   have hi:i < s.data.toList.length:=by
    rcases nt i s.data.toList.length with q | q
    ·exact q
    ·rw [kO q] at hb;cases hb
   have hi2:i < s.size:=by simpa using hi
   rw [nl hi] at hb
   have hb:(s.data.toList[i]).toNat=b:=by simpa using hb
   refine ⟨rfl,fun μ σ hE=>⟨_,rfl,fun o w ho=>?_⟩⟩
   have g:=wAG c3 hE;rw [hy] at g
   have g:ev σ y'=.int k (kJ i):=g
   have hx:ev σ (.const (.string s))=.string s:=rfl
   have hrun:=run_index_string (P:=P) w t s k (kJ i) d1
   rw [dif_pos ⟨by simp,by simpa using hi2⟩] at hrun
   have hbb:(s[(kJ i).toNat]'(by simpa using hi2)).toNat=b:=by rw [<- hb];rfl
   rw [hbb] at hrun
   simp only [nV] at hrun
   exact ⟨by rw [ho];rfl,by simp only [execOp,ho,hx,g];simp [hrun]⟩
  ·cases hr2
 ·cases hr
theorem wHn {a:AOp} {op:Op} (hk:kdA a=3) (hc:wHA P a op=true):OkP P op (opY a tb ex exY):=by
 cases a <;> first
  | (simp [kdA] at hk;done)
  | exact p_bad | exact p_and hc | exact p_shr hc | exact p_ixs hc | exact p_mv hc | exact wRW hc | exact wRX hc | exact p_add hc | exact p_sub hc | exact p_mul hc | exact p_quo hc | exact p_rem hc
  | exact p_lss hc | exact p_leq hc | exact p_gtr hc | exact p_geq hc | exact p_eql hc | exact p_neq hc | exact p_eqb hc | exact p_eqn hc | exact p_eqs hc
  | exact p_neg hc | exact p_not hc | exact p_cvt hc | exact p_mkf hc | exact p_slc hc | exact wRb hc | exact p_fad hc | exact p_fld hc | exact wRZ hc
  | exact p_iad hc | exact wRa hc | exact p_ix hc | exact p_ixA hc | exact p_ext hc | exact p_bld hc | exact p_len hc | exact p_cap hc | exact p_min hc | exact p_max hc
theorem wHo {a:AOp} {op:Op} (hk:kdA a=1 \/ kdA a=3) (hc:wHA P a op=true):OkL C P op (opY a tb ex exY):=by
 rcases hk with hk | hk
 ·cases a <;> first
   | (simp [kdA] at hk;done)
   | exact l_ld hc | exact l_ldA hc | exact l_lk hc | exact wRk hc
 ·exact (wHn hk hc).toL
theorem wRl {a:AOp} {op:Op} (hk:kdA a=0 \/ kdA a=1 \/ kdA a=3) (hc:wHA P a op=true):OkE C P op (opY a tb ex exY):=by
 rcases hk with hk | hk
 ·cases a <;> first
   | (simp [kdA] at hk;done)
   | exact e_new hc | exact e_box hc | exact e_mkm hc | exact e_mks hc | exact wRj hc | exact wRe hc | exact e_app hc | exact e_apz hc | exact e_cpy hc | exact e_clr hc
 ·exact (wHo hk hc).toE
theorem wRm {a:AOp} {op:Op} (hk:kdA a=4) (hc:wHA P a op=true):OkU C P op (opY a tb ex exY):=by
 cases a <;> first
  | (simp [kdA] at hk;done)
  | exact u_st hc | exact wRi hc
def wGJ (C:Chk) (P:Program) (tb:Tr AF) (ex:Run):Prop:=∀ f args h v h',wIs tb ex f args h=some (v,h') ->
 (∀ (a:Array Value) (w:World),(callFunc (f.nat - 1) a).run P w=.ok (.enter (f.nat - 1) a) w) /\
 ∀ μ w vs,Sim C P μ h w->RvL μ args vs->Gv P (f.nat - 1) vs w fun cv w'=>∃ μ',Ext μ h.fl.nat w μ' w'/\Sim C P μ' h' w'/\Rv μ' v cv/\h'.fl=h.fl
def wFK (C:Chk) (P:Program) (ex:Run):Prop:=∀ b args h v h',wIt ex b args h=some (v,h') ->
 ∀ μ w x c,Sim C P μ h w->RvL μ args x->μ b=some c->Yd P c.1 x w fun t w'=>∃ μ',Ext μ h.fl.nat w μ' w'/\Sim C P μ' h' w'/\v=.bool t/\h'.fl=h.fl
def wHB (P:Program) (N:Nat) (l:List Oper) (a:AO):Bool:=match l[a.ix]? with
 | none=>false
 | some o=>wHA P a.op o.op && ((match a.dst,o.dst with
   | none,none=>true
   | some p,some d=>nB p.nat (d + 1) && nu d N
   | _,_=>false) && ((match a.grd,o.guard with
   | none,none=>true
   | some (p,b),some (j,b')=>(b == b') && (match (l[j]?).bind (·.dst) with | some d=>nB p.nat (d + 1) | none=>false)
   | _,_=>false) && ((match a.kd with
   | 3=>nB (kdA a.op) 3
   | 1=>nB (kdA a.op) 1 || nB (kdA a.op) 3
   | _=>true) && ((!Nat.beq (kdA a.op) 4 || o.dst.isNone) && !Nat.beq a.kd 1005))))
structure AOK (P:Program) (N:Nat) (l:List Oper) (a:AO) (o:Oper):Prop where
 get:l[a.ix]?=some o
 op:wHA P a.op o.op=true
 dst:(a.dst=none/\o.dst=none) \/ ∃ p d,a.dst=some p/\o.dst=some d/\d=p.nat - 1/\d < N
 grd:(a.grd=none/\o.guard=none) \/ ∃ p b j d,a.grd=some (p,b)/\o.guard=some (j,b)/\(l[j]?).bind (·.dst)=some d/\d=p.nat - 1
 k3:a.kd=3->kdA a.op=3
 k1:a.kd=1->kdA a.op=1 \/ kdA a.op=3
 un:kdA a.op=4->o.dst=none
 k5:a.kd ≠ 1005
theorem wCz {N:Nat} {l:List Oper} {a:AO} (hc:wHB P N l a=true):∃ o,AOK P N l a o:=by
 unfold wHB at hc
 split at hc
 ·cases hc
 ·rename_i o ho
  simp only [hH] at hc
  obtain ⟨c1,c2,c3,c4,c5,c6⟩:=hc
  refine ⟨o,ho,c1,?_,?_,?_,?_,?_,?_⟩
  ·split at c2
   ·rename_i h1 h2;exact .inl ⟨h1,h2⟩
   ·rename_i p d h1 h2
    simp only [hH,nK] at c2
    have:=nA c2.1
    exact .inr ⟨p,d,h1,h2,by rw [this];rfl,c2.2⟩
   ·cases c2
  ·split at c3
   ·rename_i h1 h2;exact .inl ⟨h1,h2⟩
   ·rename_i p b j b' h1 h2
    simp only [hH,beq_iff_eq] at c3
    obtain ⟨rfl,c3⟩:=c3
    split at c3
    ·rename_i d hd
     have:=nA c3
     exact .inr ⟨p,b,j,d,h1,h2,hd,by rw [this];rfl⟩
    ·cases c3
   ·cases c3
  ·intro hk;rw [hk] at c4;exact nA c4
  ·intro hk;rw [hk] at c4
   simp only [kK] at c4
   exact c4.imp nA nA
  ·intro hk;rw [hk] at c5
   simpa using c5
  ·intro hk;rw [hk] at c6
   simp at c6
theorem wIQ {N:Nat} {l:List Oper} {a:AO} {o:Oper} {μ:Mu} {σA:Tr AV} {σ:Env} (A:AOK P N l a o) (hE:EnvR μ σA σ):wanted l σ o=wCm σA a.grd:=by
 unfold wanted
 rcases A.grd with ⟨h1,h2⟩ | ⟨p,b,j,d,h1,h2,h3,h4⟩
 ·rw [h1,h2];rfl
 ·rw [h1,h2]
  simp only [h3]
  show _=isB b (evA σA (.t p))
  have g:=hE p
  rw [<- h4] at g
  unfold isB
  cases hv:evA σA (.t p) <;> rw [hv] at g <;> simp only [Rv] at g <;>
   first | (rw [g];done) | (obtain ⟨_,_,_,_,_,g⟩:=g;rw [g];done) | (obtain ⟨_,_,_,_,g⟩:=g;rw [g];done) | (obtain ⟨_,_,_,g⟩:=g;rw [g];done) | (obtain ⟨_,_,g⟩:=g;rw [g];done) | (obtain ⟨_,g⟩:=g;rw [g];done) | rw [g]
theorem wEG {N:Nat} {l:List Oper} {a:AO} {o:Oper} {μ:Mu} {σA:Tr AV} {σ:Env} {v:AV} {cv:Value} (A:AOK P N l a o) (hE:EnvR μ σA σ) (hv:Rv μ v cv):EnvR μ (wGM a.dst σA v) (put' σ o cv):=by
 rcases A.dst with ⟨h1,h2⟩ | ⟨p,d,h1,h2,h3,_⟩
 ·rw [h1];unfold put';rw [h2];exact hE
 ·rw [h1];unfold put';rw [h2];subst h3;exact hE.put hv
theorem wHp {N:Nat} {l:List Oper} {a:AO} {o:Oper} (A:AOK P N l a o):∀ d,o.dst=some d->d < N:=by
 intro d hd
 rcases A.dst with ⟨_,h2⟩ | ⟨p,d',_,h2,_,h4⟩
 ·rw [h2] at hd;cases hd
 ·rw [h2] at hd;cases hd;exact h4
theorem wRn (HC:wGJ C P tb ex) (HY:wFK C P exY) {N:Nat} {l:List Oper} {a:AO} {o:Oper} {μ:Mu} {σA:Tr AV} {σ:Env} {h h':AH} {v:AV} {w:World} (A:AOK P N l a o) (hw:wanted l σ o=true) (hr:opY a.op tb ex exY σA h=some (v,h')) (hE:EnvR μ σA σ) (S:Sim C P μ h w) :
  Step1 P l o σ w fun cv w'=>∃ μ',Ext μ h.fl.nat w μ' w'/\Sim C P μ' h' w'/\EnvR μ' (wGM a.dst σA v) (put' σ o cv)/\h'.fl=h.fl:=by
 have hop:=A.op
 by_cases k4:kdA a.op=4
 ·obtain ⟨μ',w',h1,h2,rfl,h4,h5⟩:=wRm (C:=C) k4 hop σA h v h' hr μ σ w hE S o rfl
  exact .inl ⟨hw,.inl ⟨A.un k4,w',h5,μ',h1,h2,wEG A (hE.mono h1.mono) (wMV μ'),h4⟩⟩
 ·by_cases k5:kdA a.op=5
  ·cases hq:a.op <;> rw [hq] at k5 <;> first | (simp [kdA] at k5;done) | skip
   rename_i x args
   rw [hq] at hop hr
   have hop:wMt x args o.op=true:=hop
   unfold wMt at hop
   split at hop <;> first | (cases hop;done) | skip
   rename_i c hoc
   obtain ⟨ce,cargs,tys⟩:=c
   simp only at hop
   split at hop <;> first | (cases hop;done) | skip
   rename_i f
   simp only [hH] at hop
   have hx:=wAG hop.1 hE
   have ha:=wGS hop.2 hE
   have hr:wGH x args tb ex exY σA h=some (v,h'):=hr
   unfold wGH at hr
   split at hr
   ·rename_i g fi ca hg
    rw [hg] at hx
    obtain ⟨fv,cv,g1,g2,g3⟩:=hx
    obtain ⟨hcall,hgv⟩:=HC _ _ _ _ _ hr
    have G:=hgv μ w _ S (wDx g1 (wDx ha g2))
    refine .inl ⟨hw,.inr (.inr (.inl ⟨_,_,_,Enters.mk (l:=cargs.toList) hoc g3 hcall rfl (by rw [np]),G,?_⟩))⟩
    rintro cv' w' ⟨μ',h1,h2,h3,h4⟩
    exact ⟨μ',h1,h2,wEG A (hE.mono h1.mono) h3,h4⟩
   ·rename_i b hb
    rw [hb] at hx
    obtain ⟨c,g1,g2⟩:=hx
    have hy:=HY _ _ _ _ _ hr
    have Y:=hy μ w _ c S ha g1
    have R:=Yd.rounds (σ:=σ) hoc g2 rfl Y
    refine .inl ⟨hw,.inr (.inr (.inr (R.mono ?_)))⟩
    rintro cv w' ⟨t,rfl,μ',h1,h2,rfl,h4⟩
    exact ⟨μ',h1,h2,wEG A (hE.mono h1.mono) rfl,h4⟩
   ·cases hr
  ·have hk:kdA a.op=0 \/ kdA a.op=1 \/ kdA a.op=3:=by
    cases hq:a.op <;> rw [hq] at k4 k5 <;> simp [kdA] at k4 k5 ⊢
   obtain ⟨μ',w',cv,h1,h2,h3,h4,h5⟩:=wRl (C:=C) hk hop σA h v h' hr μ σ w hE S o rfl
   exact .inl ⟨hw,.inr (.inl ⟨cv,w',h5,μ',h1,h2,wEG A (hE.mono h1.mono) h3,h4⟩)⟩
theorem wRo (HC:wGJ C P tb ex) (HY:wFK C P exY) {N:Nat} {l:List Oper} {a:AO} {o:Oper} {μ:Mu} {σA:Tr AV} {σ:Env} {h h':AH} {v:AV} {w:World} (A:AOK P N l a o) (hw:wanted l σ o=true) (hr:opK a.kd a.op tb ex exY σA h=some (v,h')) (hE:EnvR μ σA σ) (S:Sim C P μ h w) :
  Step1 P l o σ w fun cv w'=>(a.kd=2->Keep w w' Non)/\∃ μ',Ext μ h.fl.nat w μ' w'/\Sim C P μ' h' w'/\EnvR μ' (wGM a.dst σA v) (put' σ o cv)/\h'.fl=h.fl:=by
 by_cases k2:a.kd=2
 ·have hr:wOz a.op tb ex exY σA h=some (v,h'):=by rw [k2] at hr;exact hr
  unfold wOz at hr
  split at hr
  ·rename_i v0 h0 hq
   cases hr
   refine (wRn HC HY A hw hq hE (S.floor h.nx)).mono ?_
   rintro cv w' ⟨μ',h1,h2,h3,h4⟩
   obtain ⟨g1,g2⟩:=S.non h1 h.fl.nat
   exact ⟨fun _=>g1,μ',g2,h2.floor h.fl,h3,rfl⟩
  ·cases hr
 ·have hr:opY a.op tb ex exY σA h=some (v,h'):=by
   have hb:nB a.kd 2=false:=by
    cases hb:nB a.kd 2 with
    | false=>rfl
    | true=>exact absurd (nA hb) k2
   have:opK a.kd a.op=opY a.op:=by unfold opK;rw [hb]
   rw [this] at hr;exact hr
  exact (wRn HC HY A hw hr hE S).mono fun cv w' hq=>⟨fun e=>absurd e k2,hq⟩
def flK (k:Nat):Bool:=nB k 1 || nB k 3
def wJC:List AO->Sch
 | []=>.nil
 | a :: os=>match flK a.kd with
  | true=>.fl a.ix (wJC os)
  | false=>.fx a.ix (wJC os) .stop
theorem wJD (HC:wGJ C P tb ex) (HY:wFK C P exY) {N:Nat} {l:List Oper} {ks:List Nat} {Q:wDG} {D:List Deferred}:∀ (os:List AO) (σA:Tr AV) (h:AH) (σA':Tr AV) (h':AH),wAZ tb ex exY os σA h=some (σA',h') ->
  (∀ a ∈ os,wHB P N l a=true/\kOf ks a.ix=a.kd)->∀ (μ:Mu) (σ:Env) (w:World),Sim C P μ h w->EnvR μ σA σ ->
  (∀ μ' w' σ',Ext μ h.fl.nat w μ' w'->Sim C P μ' h' w'->EnvR μ' σA' σ'->h'.fl=h.fl->Q D .normal σ' w')->OKS N P l Q D ks (wJC os) σ w
 | [],σA,h,σA',h',hr,_,μ,σ,w,S,hE,hQ=>by
  rw [wAs] at hr;cases hr
  exact hQ μ w σ (Ext.refl μ _ w) S hE rfl
 | a :: os,σA,h,σA',h',hr,hc,μ,σ,w,S,hE,hQ=>by
  obtain ⟨hc1,hk⟩:=hc a (by simp)
  obtain ⟨o,A⟩:=wCz hc1
  have hc2:∀ b ∈ os,wHB P N l b=true/\kOf ks b.ix=b.kd:=fun b hb=>hc b (by simp [hb])
  rw [wAu] at hr
  have hw:=wIQ A hE
  cases hwa:wCm σA a.grd with
  | false =>
   rw [hwa] at hr hw
   simp only at hr
   have IH:=wJD HC HY os _ h σA' h' hr hc2 μ (put' σ o undef) w S (wEG A hE (wMV μ)) hQ
   unfold wJC
   split
   ·exact ⟨o,A.get,wHp A,.inr ⟨hw,IH⟩⟩
   ·exact ⟨⟨o,A.get,wHp A,.inr ⟨hw,KeepD.refl l ks _ w,IH⟩⟩,trivial⟩
  | true =>
   rw [hwa] at hr hw
   simp only at hr
   split at hr
   ·rename_i r hop
    obtain ⟨v,h1⟩:=r
    simp only at hr
    unfold wJC
    split
    ·rename_i hfl
     have hk13:a.kd=1 \/ a.kd=3:=by
      unfold flK at hfl
      simp only [kK] at hfl
      exact hfl.imp nA nA
     have hop:opY a.op tb ex exY σA h=some (v,h1):=by
      rcases hk13 with e | e <;> (rw [e] at hop;exact hop)
     have hL:kdA a.op=1 \/ kdA a.op=3:=by
      rcases hk13 with e | e
      ·exact A.k1 e
      ·exact .inr (A.k3 e)
     obtain ⟨rfl,hh⟩:=wHo (C:=C) hL A.op σA h v h1 hop
     obtain ⟨cv,g1,g2⟩:=hh μ σ w hE S
     refine ⟨o,A.get,wHp A,.inl ⟨hw,?_⟩⟩
     by_cases k3:a.kd=3
     ·obtain ⟨_,hp⟩:=wHn (tb:=tb) (ex:=ex) (exY:=exY) (A.k3 k3) A.op σA h1 v h1 hop
      obtain ⟨cv,g1,g2⟩:=hp μ σ hE
      exact ⟨cv,fun w' _=>g2 o w' rfl,⟨fun _ w'=>g2 o w' rfl,fun _ w' _=>g2 o w' rfl⟩,wJD HC HY os _ h1 σA' h' hr hc2 μ _ w S (wEG A hE g1) hQ⟩
     ·exact ⟨cv,g2 o rfl,⟨fun e=>absurd (hk ▸ e) k3,fun e=>by rw [hk] at e;rcases hk13 with q | q <;> omega⟩,wJD HC HY os _ h1 σA' h' hr hc2 μ _ w S (wEG A hE g1) hQ⟩
    ·refine ⟨⟨o,A.get,wHp A,(wRo HC HY A hw hop hE S).mono ?_⟩,trivial⟩
     rintro cv w1 ⟨q0,μ1,q1,q2,q3,q4⟩
     refine ⟨⟨fun e=>q0 (hk ▸ e),fun e=>absurd (hk ▸ e) A.k5⟩,wJD HC HY os _ h1 σA' h' hr hc2 μ1 _ w1 q2 q3 fun μ' w' σ' r1 r2 r3 r4=>?_⟩
     rw [q4] at r1 r4
     exact hQ μ' w' σ' (q1.trans r1) r2 r3 r4
   ·cases hr
end
end
end Go.KX
namespace Go.KX
open Go.RowKit Go.KL
section
variable {C:Chk} {P:Program} {tb:Tr AF} {ex exY:Run}
def OkA (C:Chk) (P:Program) (op:Op) (f:Tr AV->AH->Option (AV × AH)):Prop :=
 ∀ σA h v h',f σA h=some (v,h')->∃ (B:AB) (vf:Pos->AV),h'=h.push B/\v=vf h.nx/\(∀ h2:AH,f σA h2=some (vf h2.nx,h2.push B))/\wLF B/\∀ μ σ,EnvR μ σA σ->∀ o:Oper,o.op=op ->
  ∃ (ob:Obj) (val:Nat->Value),(∀ w:World,Runs P σ w o (val w.heap.size) (w.alloc ob)) /\
   (∀ μ' (w:World) b,μ.Le μ'->w.heap[b]?=some ob->AbR C P μ' w ⟨b,0,g0⟩ B)/\∀ μ' p b,μ' p=some ⟨b,0,g0⟩->Rv μ' (vf p) (val b)
theorem wLK {α:Type} {b:Bool} {x:Option α} (h:b=true):ifO b x=x:=by subst h;rfl
theorem a_new {T:Nat} {z:List AV} {op:Op} (hc:wMl P T z op=true):OkA C P op (wPb T z):=by
 intro σA h v h' hr
 cases hr
 unfold wMl at hc
 split at hc
 ·simp only [hH] at hc
  have e:=nA hc.1
  subst e
  obtain ⟨i,zv,z1,z2,z3⟩:=wFH hc.2
  refine ⟨.cells T z,fun p=>.ptr p 0,rfl,rfl,fun h2=>rfl,trivial,fun μ σ hE o ho=>?_⟩
  refine ⟨_,fun b=>.pointer (some ⟨b,0,none⟩),fun w=>⟨by rw [ho];rfl,?_⟩,fun μ' w b hm hb=>⟨_,z3 μ',hb⟩,fun μ' p b hp=>⟨_,hp,rfl⟩⟩
  simp [execOp,ho,Instr.alloc,wDh z1 z2,newVar,newRow,newObj,Sem.run]
 ·cases hc
theorem a_box {T:Nat} {x:AOd} {op:Op} (hc:wMm T x op=true):OkA C P op (wLB T x):=by
 intro σA h v h' hr
 cases hr
 unfold wMm at hc
 split at hc
 ·simp only [hH] at hc
  have e:=nA hc.1
  subst e
  refine ⟨.cells T _,fun p=>.ptr p 0,rfl,rfl,fun h2=>rfl,trivial,fun μ σ hE o ho=>?_⟩
  obtain ⟨vs,v1,v2⟩:=wGR (wAG hc.2 hE)
  refine ⟨.cells vs.toArray T,fun b=>.pointer (some ⟨b,0,none⟩),fun w=>⟨by rw [ho];rfl,?_⟩,fun μ' w b hm hb=>⟨vs,v1.mono hm,hb⟩,fun μ' p b hp=>⟨_,hp,rfl⟩⟩
  simp [execOp,ho,Instr.box,newVar,newRow,newObj,v2,Sem.run]
 ·cases hc
theorem a_mkm {op:Op} (hc:wMn op=true):OkA C P op wPc:=by
 intro σA h v h' hr
 cases hr
 unfold wMn at hc
 split at hc
 ·refine ⟨.map0,fun p=>.map p,rfl,rfl,fun h2=>rfl,trivial,fun μ σ hE o ho=>?_⟩
  refine ⟨.map #[] 0,fun b=>.map (some b),fun w=>⟨by rw [ho];rfl,?_⟩,fun μ' w b hm hb=>⟨0,hb⟩,fun μ' p b hp=>⟨_,hp,rfl⟩⟩
  simp [execOp,ho,Instr.makeMap,newObj,Sem.run,Result.andThen]
 ·cases hc
theorem a_mks {T sz by_:Nat} {z:List AV} {x y:AOd} {op:Op} (hc:wMo P T sz by_ z x y op=true):OkA C P op (wGo T sz by_ z x y):=by
 intro σA h v h' hr
 unfold wMo at hc
 split at hc
 ·rename_i t x' y'
  simp only [hH] at hc
  obtain ⟨c1,c2,c3,c4,c5,c6,c7⟩:=hc
  obtain ⟨d,d1,d2⟩:=wAi c1
  split at d2 <;> first | (cases d2;done) | skip
  have e:=nA d2
  subst e
  rename_i e
  obtain ⟨i,i1,i2⟩:=wGT c2
  obtain ⟨i',j1,j2⟩:=wGU c3
  obtain ⟨i'',zv,k1,k2,k3⟩:=wFH c4
  rw [i1] at j1 k1;cases j1;cases k1
  have hz:=nA c5
  unfold wGo at hr
  split at hr
  ·rename_i l c hl hcc
   obtain ⟨hb,hr⟩:=wBi hr
   cases hr
   simp only [hH,nQ] at hb
   obtain ⟨⟨⟨b1,b2⟩,b3⟩,b4⟩:=hb
   refine ⟨.cells e (rep c z),fun p=>.sl p 0 l c,rfl,rfl,fun h2=>(by simp only [wGo,hl,hcc];exact wLK (by simp [b1,b2,b3,b4])),trivial,fun μ σ hE o ho=>?_⟩
   have hx:=wAG c6 hE;rw [wCH hl] at hx
   have hy:=wAG c7 hE;rw [wCH hcc] at hy
   have hx:ev σ x'=.int .i64 (l:Int):=hx
   have hy:ev σ y'=.int .i64 (c:Int):=hy
   have zlen:zv.cells.size=sz:=by rw [<- hz,wES,<- wCu (k3 μ)];simp
   have hcells:(madeCells zv.cells (c * sz))=((nP c zv.cells.toList).flatten).toArray:=by
    apply nI
    have:=wFJ (zc:=zv.cells) (n:=0) c
    simp only [or_false] at this
    rw [zlen] at this
    show ((nW (c * sz)).map (zv.cells[· % zv.cells.size]!)).toList=_
    rw [zlen,this]
   refine ⟨.cells ((nP c zv.cells.toList).flatten).toArray e,fun b=>.slice (some ⟨b,0,none⟩) l c,fun w=>⟨by rw [ho];rfl,?_⟩,fun μ' w b hm hb=>⟨_,wGt (k3 μ') c,hb⟩,fun μ' p b hp=>⟨_,hp,b1,rfl⟩⟩
   have hrun:=run_makeSlice (P:=P) w t e i zv d1 i1 k2 .i64 .i64 (l:Int) (c:Int) (by omega) (by omega) (by rw [i2,nq];exact b2) (by rw [j2];have hb:=Int.ofNat_le.2 b3;rw [Int.natCast_mul] at hb;exact hb) (by omega)
   simp only [nq,i2] at hrun
   rw [hcells] at hrun
   simp [execOp,ho,hx,hy,hrun,Result.andThen]
  ·cases hr
 ·cases hc
theorem wRp {T n:Nat} {z:List AV} {ps:List (Nat × Nat × AOd)} {op:Op} (hc:wJA P T n z ps op=true):OkA C P op (wEQ T n z ps):=by
 intro σA h v h' hr
 unfold wJA at hc
 split at hc
 ·rename_i t m qs
  simp only [hH] at hc
  obtain ⟨c1,c2,c3⟩:=hc
  have e:=nA c1
  subst e
  obtain ⟨d,d1,d2⟩:=wAi c2
  split at d2 <;> first | (cases d2;done) | skip
  have e:=nA d2
  subst e
  rename_i e
  split at c3
  ·rename_i i hi
   simp only [hH,nQ] at c3
   obtain ⟨c3,c4,c5⟩:=c3
   split at c5
   ·rename_i zv hz
    unfold wEQ at hr
    split at hr
    ·rename_i r hr3
     cases hr
     refine ⟨.cells e r,fun p=>.sl p 0 m m,rfl,rfl,fun h2=>by simp only [wEQ,hr3],trivial,fun μ σ hE o ho=>?_⟩
     obtain ⟨R,r1,r2,r3⟩:=wGy hE hr3 c4 (wFt μ c5)
     have hf:=wDM _ _ _ _ r1
     refine ⟨.cells R.toArray e,fun b=>.slice (some ⟨b,0,none⟩) m m,fun w=>⟨by rw [ho];rfl,?_⟩,fun μ' w b hm hb=>⟨_,r2.mono hm,hb⟩,fun μ' p b hp=>⟨_,hp,nD _,rfl⟩⟩
     have hs:∀ w,(sizeOf e).run P w=.ok i.size w:=fun w=>by simp [sizeOf,typeInfo,hi]
     have hn':¬ m * i.size > 2 ^ 24:=by omega
     have hq:(qs.map fun (p:Nat × Operand)=>(p.1,ev σ p.2)).toList=qs.toList.map fun (p:Nat × Operand)=>(p.1,ev σ p.2):=by simp
     by_cases h0:m * i.size=0
     ·rw [h0] at hf
      simp only [List.range_zero,kC] at hf
      have hr0:(nW 0).map (fun x=>(#[]:Array Value)[x % (#[]:Array Value).size]!)=#[]:=by rw [show (nW 0)=#[] from rfl,Array.map_empty]
      have hn0:¬ (0:Nat) > 2 ^ 24:=by decide
      simp only [execOp,ho,Instr.buildSlice,Sem.run_bind,wAp d1,hs,Result.andThen_ok,h0,if_neg hn0,if_true,Sem.run_pure,hq,hr0,hf]
      simp [newRow,newObj,Sem.run,Result.andThen]
     ·have hzs:(nW (m * i.size)).map (zv.cells[· % zv.cells.size]!)=((kh (m * i.size)).map fun k=>zv.cells[k % zv.cells.size]!).toArray:=by rw [<- kW,List.map_toArray]
      simp only [execOp,ho,Instr.buildSlice,Sem.run_bind,wAp d1,hs,wDh hi hz,Result.andThen_ok,if_neg hn',if_neg h0,Sem.run_pure,hq,hzs,hf]
      simp [newRow,newObj,Sem.run,Result.andThen]
    ·cases hr
   ·cases c5
  ·cases c3
 ·cases hc
def wBj:AOp->List AOd
 | .mv x=>[x]
 | .pick c x y=>[c] ++ [x] ++ [y]
 | .new _ _=>[]
 | .box _ x=>[x]
 | .ld x=>[x]
 | .ldA _ x=>[x]
 | .st _ x y=>[x] ++ [y]
 | .nilc x=>[x]
 | .add x y=>[x] ++ [y]
 | .sub x y=>[x] ++ [y]
 | .mul x y=>[x] ++ [y]
 | .quo x y=>[x] ++ [y]
 | .rem x y=>[x] ++ [y]
 | .lss x y=>[x] ++ [y]
 | .leq x y=>[x] ++ [y]
 | .gtr x y=>[x] ++ [y]
 | .geq x y=>[x] ++ [y]
 | .eql x y=>[x] ++ [y]
 | .neq x y=>[x] ++ [y]
 | .eqb _ x y=>[x] ++ [y]
 | .eqn _ _ x y=>[x] ++ [y]
 | .eqs _ _ x y=>[x] ++ [y]
 | .neg x=>[x]
 | .not x=>[x]
 | .cvt _ x=>[x]
 | .mkf _ fi ca=>fi ++ ca
 | .mkm =>[]
 | .mks _ _ _ _ x y=>[x] ++ [y]
 | .slc _ x lo hi mx=>[x] ++ lo.toList ++ hi.toList ++ mx.toList
 | .slcA _ _ x lo hi=>[x] ++ lo.toList ++ hi.toList
 | .fad _ x=>[x]
 | .fld _ x=>[x]
 | .fldA _ _ x=>[x]
 | .iad _ x y=>[x] ++ [y]
 | .iadA _ _ x y=>[x] ++ [y]
 | .ix _ x y=>[x] ++ [y]
 | .ixA _ _ x y=>[x] ++ [y]
 | .lk _ _ _ _ x y=>[x] ++ [y]
 | .mput _ _ x y z=>[x] ++ [y] ++ [z]
 | .mdel _ _ x y=>[x] ++ [y]
 | .ext _ x=>[x]
 | .bld _ ps=>(ps.map fun q=>q.2.2)
 | .blds _ _ _ ps=>(ps.map fun q=>q.2.2)
 | .len x=>[x]
 | .lenM x=>[x]
 | .cap x=>[x]
 | .app _ _ _ x y=>[x] ++ [y]
 | .cpy _ x y=>[x] ++ [y]
 | .clr _ x=>[x]
 | .min x y=>[x] ++ [y]
 | .max x y=>[x] ++ [y]
 | .and x y=>[x] ++ [y]
 | .shr x y=>[x] ++ [y]
 | .ixs _ y=>[y]
 | .apz _ _ _ _ x y=>[x] ++ [y]
 | .call x l=>[x] ++ l
 | .bad=>[]
theorem wFd {σ1 σ2:Tr AV}:∀ {l:List AOd},(∀ x ∈ l,evA σ1 x=evA σ2 x)->evs σ1 l=evs σ2 l
 | [],_=>rfl
 | x :: l,h=>by
  show evA σ1 x :: evs σ1 l=evA σ2 x :: evs σ2 l
  rw [h x (by simp),wFd fun y hy=>h y (by simp [hy])]
theorem wFL {σ1 σ2:Tr AV}:∀ {ps:List (Nat × Nat × AOd)} {cs:List AV},(∀ q ∈ ps,evA σ1 q.2.2=evA σ2 q.2.2)->wIH σ1 cs ps=wIH σ2 cs ps
 | [],cs,_=>rfl
 | (off,n,x) :: ps,cs,h=>by
  have e:evA σ1 x=evA σ2 x:=h (off,n,x) (by simp)
  simp only [wIH,e]
  cases nB (len (evA σ2 x).cells) n with
  | false=>rfl
  | true =>
   cases wPZ cs off (evA σ2 x).cells with
   | none=>rfl
   | some cs'=>exact wFL fun q hq=>h q (by simp [hq])
theorem wEU {σ1 σ2:Tr AV} {o:Option AOd} (h:∀ x ∈ o.toList,evA σ1 x=evA σ2 x):bnd σ1 o=bnd σ2 o:=by
 cases o with
 | none=>rfl
 | some x =>
  have e:=h x (by simp)
  simp only [bnd,e]
theorem wMv {σ1 σ2:Tr AV} (op:AOp) (h:∀ x ∈ wBj op,evA σ1 x=evA σ2 x) (hh:AH):opY op tb ex exY σ1 hh=opY op tb ex exY σ2 hh:=by
 cases op with
 | bld z ps=>exact (show wME z ps σ1 hh=wME z ps σ2 hh by simp only [wME];rw [wFL fun q hq=>h q.2.2 (List.mem_map.2 ⟨q,hq,rfl⟩)])
 | blds T n z ps=>exact (show wEQ T n z ps σ1 hh=wEQ T n z ps σ2 hh by simp only [wEQ];rw [wFL fun q hq=>h q.2.2 (List.mem_map.2 ⟨q,hq,rfl⟩)])
 | mkf f fi ca=>exact (show wLC f fi ca σ1 hh=wLC f fi ca σ2 hh by simp only [wLC];rw [wFd fun x hx=>h x (ng _ hx),wFd fun x hx=>h x (nc _ hx)])
 | call x l=>exact (show wGH x l tb ex exY σ1 hh=wGH x l tb ex exY σ2 hh by simp only [wGH];rw [h x (ng _ (by simp)),wFd fun y hy=>h y (nc _ hy)])
 | slc sz x lo hi mx=>exact (show wJb sz x lo hi mx σ1 hh=wJb sz x lo hi mx σ2 hh by
   simp only [wJb]
   rw [h x (by simp [wBj]),wEU fun y hy=>h y (by simp only [wBj,nS];exact .inl (.inl (.inr hy))),wEU fun y hy=>h y (by simp only [wBj,nS];exact .inl (.inr hy)),wEU fun y hy=>h y (by simp only [wBj,nS];exact .inr hy)])
 | slcA sz n x lo hi=>exact (show wGp sz n x lo hi σ1 hh=wGp sz n x lo hi σ2 hh by
   simp only [wGp]
   rw [h x (by simp [wBj]),wEU fun y hy=>h y (by simp only [wBj,nS];exact .inl (.inr hy)),wEU fun y hy=>h y (by simp only [wBj,nS];exact .inr hy)])
 | mv a_x=>exact (show wQu a_x σ1 hh=wQu a_x σ2 hh by simp only [wQu,h a_x (by simp [wBj])])
 | pick a_c a_x a_y=>exact (show wGm a_c a_x a_y σ1 hh=wGm a_c a_x a_y σ2 hh by simp only [wGm,h a_c (by simp [wBj]),h a_x (by simp [wBj]),h a_y (by simp [wBj])])
 | new a_T a_z=>rfl
 | box a_T a_x=>exact (show wLB a_T a_x σ1 hh=wLB a_T a_x σ2 hh by simp only [wLB,h a_x (by simp [wBj])])
 | ld a_x=>exact (show wNz a_x σ1 hh=wNz a_x σ2 hh by simp only [wNz,h a_x (by simp [wBj])])
 | ldA a_n a_x=>exact (show wHY a_n a_x σ1 hh=wHY a_n a_x σ2 hh by simp only [wHY,h a_x (by simp [wBj])])
 | st a_n a_x a_y=>exact (show wOy a_n a_x a_y σ1 hh=wOy a_n a_x a_y σ2 hh by simp only [wOy,h a_x (by simp [wBj]),h a_y (by simp [wBj])])
 | nilc a_x=>exact (show wGn a_x σ1 hh=wGn a_x σ2 hh by simp only [wGn,h a_x (by simp [wBj])])
 | add a_x a_y=>exact (show wLs a_x a_y σ1 hh=wLs a_x a_y σ2 hh by simp only [wLs,h a_x (by simp [wBj]),h a_y (by simp [wBj])])
 | sub a_x a_y=>exact (show wLt a_x a_y σ1 hh=wLt a_x a_y σ2 hh by simp only [wLt,h a_x (by simp [wBj]),h a_y (by simp [wBj])])
 | mul a_x a_y=>exact (show wLu a_x a_y σ1 hh=wLu a_x a_y σ2 hh by simp only [wLu,h a_x (by simp [wBj]),h a_y (by simp [wBj])])
 | quo a_x a_y=>exact (show wLv a_x a_y σ1 hh=wLv a_x a_y σ2 hh by simp only [wLv,h a_x (by simp [wBj]),h a_y (by simp [wBj])])
 | rem a_x a_y=>exact (show wLw a_x a_y σ1 hh=wLw a_x a_y σ2 hh by simp only [wLw,h a_x (by simp [wBj]),h a_y (by simp [wBj])])
 | lss a_x a_y=>exact (show wLx a_x a_y σ1 hh=wLx a_x a_y σ2 hh by simp only [wLx,h a_x (by simp [wBj]),h a_y (by simp [wBj])])
 | leq a_x a_y=>exact (show wLy a_x a_y σ1 hh=wLy a_x a_y σ2 hh by simp only [wLy,h a_x (by simp [wBj]),h a_y (by simp [wBj])])
 | gtr a_x a_y=>exact (show wLz a_x a_y σ1 hh=wLz a_x a_y σ2 hh by simp only [wLz,h a_x (by simp [wBj]),h a_y (by simp [wBj])])
 | geq a_x a_y=>exact (show wMA a_x a_y σ1 hh=wMA a_x a_y σ2 hh by simp only [wMA,h a_x (by simp [wBj]),h a_y (by simp [wBj])])
 | eql a_x a_y=>exact (show wMB a_x a_y σ1 hh=wMB a_x a_y σ2 hh by simp only [wMB,h a_x (by simp [wBj]),h a_y (by simp [wBj])])
 | neq a_x a_y=>exact (show wMC a_x a_y σ1 hh=wMC a_x a_y σ2 hh by simp only [wMC,h a_x (by simp [wBj]),h a_y (by simp [wBj])])
 | eqb a_ne a_x a_y=>exact (show wJW a_ne a_x a_y σ1 hh=wJW a_ne a_x a_y σ2 hh by simp only [wJW,h a_x (by simp [wBj]),h a_y (by simp [wBj])])
 | eqn a_k a_ne a_x a_y=>exact (show wJX a_k a_ne a_x a_y σ1 hh=wJX a_k a_ne a_x a_y σ2 hh by simp only [wJX,h a_x (by simp [wBj]),h a_y (by simp [wBj])])
 | eqs a_ne a_s a_x a_y=>exact (show wJY a_ne a_s a_x a_y σ1 hh=wJY a_ne a_s a_x a_y σ2 hh by simp only [wJY,h a_x (by simp [wBj]),h a_y (by simp [wBj])])
 | neg a_x=>exact (show wMD a_x σ1 hh=wMD a_x σ2 hh by simp only [wMD,h a_x (by simp [wBj])])
 | not a_x=>exact (show wJZ a_x σ1 hh=wJZ a_x σ2 hh by simp only [wJZ,h a_x (by simp [wBj])])
 | cvt a_k a_x=>exact (show wJa a_k a_x σ1 hh=wJa a_k a_x σ2 hh by simp only [wJa,h a_x (by simp [wBj])])
 | mkm =>rfl
 | mks a_T a_sz a_bytes a_z a_x a_y=>exact (show wGo a_T a_sz a_bytes a_z a_x a_y σ1 hh=wGo a_T a_sz a_bytes a_z a_x a_y σ2 hh by simp only [wGo,h a_x (by simp [wBj]),h a_y (by simp [wBj])])
 | fad a_off a_x=>exact (show wJc a_off a_x σ1 hh=wJc a_off a_x σ2 hh by simp only [wJc,h a_x (by simp [wBj])])
 | fld a_off a_x=>exact (show wJd a_off a_x σ1 hh=wJd a_off a_x σ2 hh by simp only [wJd,h a_x (by simp [wBj])])
 | fldA a_off a_n a_x=>exact (show wGq a_off a_n a_x σ1 hh=wGq a_off a_n a_x σ2 hh by simp only [wGq,h a_x (by simp [wBj])])
 | iad a_sz a_x a_y=>exact (show wJe a_sz a_x a_y σ1 hh=wJe a_sz a_x a_y σ2 hh by simp only [wJe,h a_x (by simp [wBj]),h a_y (by simp [wBj])])
 | iadA a_sz a_n a_x a_y=>exact (show wGr a_sz a_n a_x a_y σ1 hh=wGr a_sz a_n a_x a_y σ2 hh by simp only [wGr,h a_x (by simp [wBj]),h a_y (by simp [wBj])])
 | ix a_n a_x a_y=>exact (show wPd a_n a_x a_y σ1 hh=wPd a_n a_x a_y σ2 hh by simp only [wPd,h a_x (by simp [wBj]),h a_y (by simp [wBj])])
 | ixA a_sz a_n a_x a_y=>exact (show wJf a_sz a_n a_x a_y σ1 hh=wJf a_sz a_n a_x a_y σ2 hh by simp only [wJf,h a_x (by simp [wBj]),h a_y (by simp [wBj])])
 | lk a_two a_k a_ok a_z a_x a_y=>exact (show wOA a_two a_k a_ok a_z a_x a_y σ1 hh=wOA a_two a_k a_ok a_z a_x a_y σ2 hh by simp only [wOA,h a_x (by simp [wBj]),h a_y (by simp [wBj])])
 | mput a_two a_k a_x a_y a_z=>exact (show wGF a_two a_k a_x a_y a_z σ1 hh=wGF a_two a_k a_x a_y a_z σ2 hh by simp only [wGF,h a_x (by simp [wBj]),h a_y (by simp [wBj]),h a_z (by simp [wBj])])
 | mdel a_two a_k a_x a_y=>exact (show wGG a_two a_k a_x a_y σ1 hh=wGG a_two a_k a_x a_y σ2 hh by simp only [wGG,h a_x (by simp [wBj]),h a_y (by simp [wBj])])
 | ext a_i a_x=>exact (show wJg a_i a_x σ1 hh=wJg a_i a_x σ2 hh by simp only [wJg,h a_x (by simp [wBj])])
 | len a_x=>exact (show wJh a_x σ1 hh=wJh a_x σ2 hh by simp only [wJh,h a_x (by simp [wBj])])
 | lenM a_x=>exact (show wEs a_x σ1 hh=wEs a_x σ2 hh by simp only [wEs,h a_x (by simp [wBj])])
 | cap a_x=>exact (show wJi a_x σ1 hh=wJi a_x σ2 hh by simp only [wJi,h a_x (by simp [wBj])])
 | app a_T a_sz a_bytes a_x a_y=>exact (show wIp a_T a_sz a_bytes a_x a_y σ1 hh=wIp a_T a_sz a_bytes a_x a_y σ2 hh by simp only [wIp,h a_x (by simp [wBj]),h a_y (by simp [wBj])])
 | cpy a_sz a_x a_y=>exact (show wIq a_sz a_x a_y σ1 hh=wIq a_sz a_x a_y σ2 hh by simp only [wIq,h a_x (by simp [wBj]),h a_y (by simp [wBj])])
 | clr a_z a_x=>exact (show wIr a_z a_x σ1 hh=wIr a_z a_x σ2 hh by simp only [wIr,h a_x (by simp [wBj])])
 | min a_x a_y=>exact (show wMF a_x a_y σ1 hh=wMF a_x a_y σ2 hh by simp only [wMF,h a_x (by simp [wBj]),h a_y (by simp [wBj])])
 | max a_x a_y=>exact (show wMG a_x a_y σ1 hh=wMG a_x a_y σ2 hh by simp only [wMG,h a_x (by simp [wBj]),h a_y (by simp [wBj])])
 | bad=>rfl
 | and a_x a_y=>exact (show wMI a_x a_y σ1 hh=wMI a_x a_y σ2 hh by simp only [wMI,h a_x (by simp [wBj]),h a_y (by simp [wBj])])
 | ixs a_l a_y=>exact (show wJj a_l a_y σ1 hh=wJj a_l a_y σ2 hh by simp only [wJj,h a_y (by simp [wBj])])
 | apz a_T a_sz a_b a_z a_x a_y=>exact (show wIu a_T a_sz a_b a_z a_x a_y σ1 hh=wIu a_T a_sz a_b a_z a_x a_y σ2 hh by simp only [wIu,h a_x (by simp [wBj]),h a_y (by simp [wBj])])
 | shr a_x a_y=>exact (show wMJ a_x a_y σ1 hh=wMJ a_x a_y σ2 hh by simp only [wMJ,h a_x (by simp [wBj]),h a_y (by simp [wBj])])
variable {r:Option Nat} {N:Nat} {Q:wDG} {D:List Deferred} {l:List Oper}
theorem CK.anyRel {id:Nat} {σ:Env} {w:World} (hm:P.follows .mixedOrders=true) (hpr:∀ i,i < l.length->∀ j ∈ prI l i,j < i) (J:(Nat->Bool)->Env->World->Prop)
  (h0:J (fun _=>false) σ { w with drawn:=w.drawn + 1 })
  (step:∀ S i σ w,i < l.length->S i=false->(∀ j ∈ prI l i,S j=true)->(∀ k,k < l.length->S k=true->∀ j ∈ prI l k,S j=true)->(∀ k,S k=true->k < l.length)->J S σ w ->
   ∃ o,l[i]?=some o/\(∀ d,o.dst=some d->d < N)/\Step1 P l o σ w fun v w'=>J (fun k=>k == i || S k) (put' σ o v) w')
  (fin:∀ S σ w,(∀ i,i < l.length->S i=true)->J S σ w->Q D .normal σ w):CK r N P (.region id l.toArray true) Q D σ w:=by
 intro a ha
 refine wpIn_region_any hm ?_
 have prog:∀ (listed:Array Bool),listed.size=l.length->Region.ready .any l.toArray listed=[]->∀ i,i < l.length->listed.getD i false=true:=by
  intro listed hsz hnil i
  induction i using Nat.strongRecOn with
  | _ i ih =>
   intro hi
   cases hb:listed.getD i false with
   | true=>rfl
   | false =>
    have:i ∈ Region.ready .any l.toArray listed:=(wDJ hsz).2 ⟨hi,hb,fun j hj=>ih j (hpr i hi j hj) (Nat.lt_trans (hpr i hi j hj) hi)⟩
    rw [hnil] at this;cases this
 have core:∀ (fuel:Nat) (listed:Array Bool) (σ:Env) (a:Act) (w:World),listed.size=l.length->Rep N D a σ->(∀ k,k < l.length->listed.getD k false=true->∀ j ∈ prI l k,listed.getD j false=true) ->
   J (fun i=>listed.getD i false) σ w->(listed.toList.filter (! ·)).length <= fuel->wpAnyIn (WF r) 0 P .any l.toArray (wHV N Q) fuel listed a w:=by
  intro fuel
  induction fuel with
  | zero =>
   intro listed σ a w hsz hr hdc hJ hf
   have hall:∀ i,i < l.length->listed.getD i false=true:=by
    intro i hi
    cases hb:listed.getD i false with
    | true=>rfl
    | false=>have:=wFV listed i (by omega) hb;omega
   refine ⟨?_,σ,D,hr,fin _ σ w hall hJ⟩
   cases hr:Region.ready .any l.toArray listed with
   | nil=>rfl
   | cons x xs =>
    have hx:x ∈ Region.ready .any l.toArray listed:=by rw [hr];simp
    obtain ⟨h1,h2,_⟩:=(wDJ hsz).1 hx
    rw [hall x h1] at h2;cases h2
  | succ fuel ih =>
   intro listed σ a w hsz hr hdc hJ hf
   refine ⟨fun hnil=>⟨σ,D,hr,fin _ σ w (prog listed hsz hnil) hJ⟩,fun i hi=>?_⟩
   obtain ⟨hlt,hun,hpi⟩:=(wDJ hsz).1 hi
   have hsz':(listed.setIfInBounds i true).size=l.length:=by simpa using hsz
   have hf':((listed.setIfInBounds i true).toList.filter (! ·)).length <= fuel:=by have:=wFV listed i (by omega) hun;omega
   have hS:∀ k,listed.getD k false=true->k < l.length:=by
    intro k hk
    rcases nt k l.length with h | h
    ·exact h
    ·rw [nf,Array.getElem?_eq_none (by omega)] at hk;cases hk
   obtain ⟨o,ho,hN,hst⟩:=step _ i σ w hlt hun hpi hdc hS hJ
   refine wGe ho hr hN hst ?_
   intro v w' a' hr' hJ'
   refine ih _ (KL.put' σ o v) a' w' hsz' hr' ?_ ?_ hf'
   ·intro k hk hkl j hj
    rw [wFU (by omega)] at hkl ⊢
    rcases hkl with rfl | hkl
    ·exact .inr (hpi j hj)
    ·exact .inr (hdc k hk hkl j hj)
   ·have e:(fun k=>(listed.setIfInBounds i true).getD k false)=fun k=>k == i || listed.getD k false:=by
     funext k
     rw [Bool.eq_iff_iff,wFU (by omega),kK,beq_iff_eq]
    rw [e]
    exact hJ'
 have rep:∀ k,(kL l.toArray.size false).getD k false=false:=by
  intro k
  rw [nf,kD]
  split <;> rfl
 refine core l.toArray.size (kL l.toArray.size false) σ a _ (by simp) ha ?_ ?_ ?_
 ·intro k hk hkl
  rw [rep k] at hkl
  cases hkl
 ·have e:(fun i=>(kL l.toArray.size false).getD i false)=fun _=>false:=by
   funext i
   rw [nf,kD]
   split <;> rfl
  rw [e]
  exact h0
 ·exact nR (List.length_filter_le _ _) (by simp)
end
end Go.KX
