import Derived.Test.YtghaibkggdecnaaGreatY0
import Derived.Test.YtghaibkggdecnaaGreatY3
import Derived.Test.YtghaibkggdecnaaGreatProg
import Derived.Lib.Overlaps
import Derived.Lib.AppendZerosOnto
import Derived.Test.YtghaibkggdecnaaGreatY2
set_option linter.all false
open Option renaming bind_some->nA
open List renaming length_map->nB,getElem_map->nD,nodup_iff_pairwise_ne->nG,pairwise_iff_getElem->nH,map_append->nL,range->nM,replicate->nN,length_drop->nO,all_eq_true->nP,getElem?_drop->nR,getElem?_eq_getElem->nS,length_eq_zero_iff->nT,set->nV,length_take->nW,take_length->nX,take_append_drop->nY,mem_of_mem_drop->nZ,range_succ->nb,take_of_length_le->nh,mergeSort_perm->nk,filter_eq_self->nl,all_map->np,countP_append->nr,filter_append->nt,nodup_append->nu
open Int renaming tdiv_eq_ediv_of_nonneg->nE,tmod_eq_emod_of_nonneg->nQ,le_trans->nc,natCast_add->nf,eq_ofNat_of_zero_le->ng,add_mul->ni,mul_nonneg->nj
open Nat renaming zero_add->nI,le_refl->nU,min_def->nv
open Bool renaming and_eq_true->nJ,eq_iff_iff->na,false_eq_true->nq
open Array renaming replicate->nK
open Option.some renaming inj->nw
namespace Go.Proofs.YtghaibkggdecnaaGreat
open Go.KL
noncomputable section
structure wAE where
 Bib:Int
 Nation:Int
 Rank:Int
deriving DecidableEq,Inhabited,Repr
structure wAA where
 Bib:Int
 Time:Int
 Gate:Int
deriving DecidableEq,Inhabited,Repr
structure wAD where
 Bib:Int
 Time:Int
 Gate:Int
deriving DecidableEq,Inhabited,Repr
structure wAO where
 of:(wAE->Option Int)
 lo:Int
 hi:Int
structure wBQ where
 Bib:Int
 Row:Int
 Lane:Int
deriving DecidableEq,Inhabited,Repr
structure wAS where
 Bib:Int
 Nation:Int
 Rank:Int
deriving DecidableEq,Inhabited,Repr
structure wAP where
 Bib:Int
 Row:Int
 Lane:Int
deriving DecidableEq,Inhabited,Repr
def wBf:Option Bool:=some true
def wAh (p0:List wAE):Option ((List wAE)) :=
 (app 24 ([]:List wAE) p0).bind fun x4 =>
 some x4
def wAi (p0:List wAA):Option ((List wAA)) :=
 (app 24 ([]:List wAA) p0).bind fun x4 =>
 some x4
def wBF (p0:List wAA):Option ((List wAD)) :=
 (wBx 0 (↑p0.length:Int) (fun k18 l14 =>
  (idx p0 (↑k18:Int)).bind fun x41 =>
  (app 24 l14 [(⟨x41.Bib,x41.Time,x41.Gate⟩:wAD)]).bind fun x61 =>
  some x61) []).bind fun y23 =>
 some y23
def wBM (p0:Int) (p1:Int) (p2:Int):Option (Bool) :=
 if p1 <= p0 then
  some (decide (p0 <= p2))
 else
  some false
def wAX (p0:wAE):Option (Int) :=
 some p0.Bib
def wAY (p0:wAE):Option (Int) :=
 some p0.Rank
def wAf (p0:wAE):Option (Int) :=
 some p0.Nation
def wCM :Option (Unit) :=
 some ()
def wAm (p0:wAO) (p1:List wAE):Option ((List Int)) :=
 (wBx 0 (↑p1.length:Int) (fun k22 l18 =>
  (idx p1 (↑k22:Int)).bind fun x46 =>
  (p0.of x46).bind fun x61 =>
  (app 8 l18 [x61]).bind fun x77 =>
  some x77) []).bind fun y27 =>
 some y27
def wAg (p0:Int) (p1:wAO):Option (Bool) :=
 (wBM p0 p1.lo p1.hi).bind fun x1 =>
 some x1
def wBZ (p0:List Int) (p1:(Int->Option Bool)):Option (Bool) :=
 jn (wDi 0 (↑p0.length:Int) (fun k2 _ =>
  (idx p0 (↑k2:Int)).bind fun x22 =>
  (p1 x22).bind fun x30 =>
  if x30=true then
   some (.inl ())
  else
   esc (some false)) ()) fun _ =>
 some true
def wBl (p0:List Int):Option (Bool) :=
 jn (wDi 0 (↑p0.length:Int) (fun k20 l17 =>
  (idx p0 (↑k20:Int)).bind fun x41 =>
  if (wEQ l17 x41 false)=true then
   esc (some true)
  else
   some (.inl (mput l17 x41 true))) ([]:List (Int × Bool))) fun y68 =>
 some false
def wBy (p0:List wAE):Option (Int) :=
 (wBM (↑p0.length:Int) 1 60).bind fun x1 =>
 if x1=true then
  (wCM).bind fun _ =>
  (wAm (⟨wAX,1,999⟩:wAO) p0).bind fun x39 =>
  (wBZ x39 (fun x=>wAg x (⟨wAX,1,999⟩:wAO))).bind fun x65 =>
  if x65=true then
   (wAm (⟨wAY,1,9999⟩:wAO) p0).bind fun x89 =>
   (wBZ x89 (fun x=>wAg x (⟨wAY,1,9999⟩:wAO))).bind fun x115 =>
   if x115=true then
    (wAm (⟨wAf,0,30⟩:wAO) p0).bind fun x139 =>
    (wBZ x139 (fun x=>wAg x (⟨wAf,0,30⟩:wAO))).bind fun x165 =>
    if x165=true then
     (wAm (⟨wAX,1,999⟩:wAO) p0).bind fun x195 =>
     (wBl x195).bind fun x213 =>
     if x213=true then
      some 5
     else
      (wAm (⟨wAY,1,9999⟩:wAO) p0).bind fun x237 =>
      (wBl x237).bind fun x255 =>
      if x255=true then
       some 5
      else
       some 0
    else
     some 3
   else
    some 3
  else
   some 3
 else
  some 2
def wBK (p0:Int):Option (Bool) :=
 some (decide (¬ (p0=p0)))
def wBg (p0:Int) (p1:Int):Option (Int) :=
 (wBK p0).bind fun x1 =>
 (wBK p1).bind fun x11 =>
 if x1=true then
  if x11=true then
   some 0
  else
   some (-1)
 else
  if x11=true then
   some 1
  else
   if p0 < p1 then
    some (-1)
   else
    if p1 < p0 then
     some 1
    else
     some 0
def wAo (p0:Int) (p1:Int) (p2:List wAE):Option (Int) :=
 (idx p2 p0).bind fun x3 =>
 (idx p2 p1).bind fun x10 =>
 (wBg x3.Rank x10.Rank).bind fun x17 =>
 some x17
noncomputable def wBe (p0:List Int) (p1:((Int × Int)->Option Int)):Option (List Int):=wLG p1 p0
def wBo (p0:List wAE):Option ((List Int)) :=
 (mkz 8 (↑p0.length:Int) (0:Int)).bind fun x10 =>
 (wBx 0 (↑p0.length:Int) (fun k24 l23 =>
  (chk (↑k24:Int) l23.length).bind fun _ =>
  some (nV l23 k24 (↑k24:Int))) x10).bind fun y29 =>
 (wBe y29 (fun x=>wAo x.1 x.2 p0)).bind fun x70 =>
 some x70
def wBc (p0:List wAE) (p1:Int):Option ((List wBQ) × Int) :=
 (wBy p0).bind fun x1 =>
 if x1=0 then
  (wBM p1 1 20).bind fun x13 =>
  if x13=true then
   (quo (w64 (p1 + 1)) 2).bind fun x25 =>
   iter (fun (l45,x48) =>
    if (↑l45.length:Int) < p1 then
     (chk 0 l45.length).bind fun _ =>
     (wBx 0 2 (fun k87 l84 =>
      (idx ([w64 ((gd l45 0) + x48),w64 ((gd l45 0) - x48)]:List Int) (↑k87:Int)).bind fun x110 =>
      (wBM x110 1 p1).bind fun x113 =>
      if x113=true then
       (app 8 l84 [x110]).bind fun x130 =>
       some x130
      else
       some l84) l45).bind fun y92 =>
     some (.inl (y92,w64 (x48 + 1)))
    else
     esc ((wBo p0).bind fun x174 =>
     (wBx 0 (↑x174.length:Int) (fun k204 l200 =>
      (chk (↑k204:Int) x174.length).bind fun _ =>
      (idx p0 (gd x174 k204)).bind fun x237 =>
      (quo (↑k204:Int) p1).bind fun x246 =>
      (rem (↑k204:Int) p1).bind fun x249 =>
      (chk x249 l45.length).bind fun _ =>
      (app 24 l200 [(⟨x237.Bib,w64 (x246 + 1),(gd l45 x249.toNat)⟩:wBQ)]).bind fun x262 =>
      some x262) []).bind fun y209 =>
     some (y209,0))) big ([x25],1)
  else
   some ([],3)
 else
  some ([],x1)
def wBS (p0:List wAE):Option ((List wAS)) :=
 (wBx 0 (↑p0.length:Int) (fun k18 l14 =>
  (idx p0 (↑k18:Int)).bind fun x41 =>
  (app 24 l14 [(⟨x41.Bib,x41.Nation,x41.Rank⟩:wAS)]).bind fun x61 =>
  some x61) []).bind fun y23 =>
 some y23
def wAZ (p0:Int) (p1:Int) (p2:Int):Option (Bool) :=
 if p0 < p1 then
  some true
 else
  some (decide (p2 < p0))
def wBT (p0:List wAS):Option (Int) :=
 if (↑p0.length:Int)=0 then
  some 2
 else
  if 60 < (↑p0.length:Int) then
   some 2
  else
   jn (wDi 0 (↑p0.length:Int) (fun k8 _ =>
    (idx p0 (↑k8:Int)).bind fun x26 =>
    (wAZ x26.Bib 1 999).bind fun x34 =>
    if x34=true then
     esc (some 3)
    else
     (wAZ x26.Nation 0 30).bind fun x55 =>
     if x55=true then
      esc (some 3)
     else
      (wAZ x26.Rank 1 9999).bind fun x76 =>
      if x76=true then
       esc (some 3)
      else
       some (.inl ())) ()) fun _ =>
   jn (wDi 0 (↑p0.length:Int) (fun k103 _ =>
    jn (wDi 0 (↑k103:Int) (fun k122 _ =>
     (idx p0 (↑k103:Int)).bind fun x143 =>
     (idx p0 (↑k122:Int)).bind fun x153 =>
     if x143.Bib=x153.Bib then
      esc (esc (some 5))
     else
      if x143.Rank=x153.Rank then
       esc (esc (some 5))
      else
       some (.inl ())) ()) fun _ =>
    some (.inl ())) ()) fun _ =>
   some 0
def wBB (p0:List wAS):Option ((List Int) × Int) :=
 (wBT p0).bind fun x1 =>
 if x1=0 then
  (mkz 8 (↑p0.length:Int) (0:Int)).bind fun x13 =>
  (wBx 0 (↑p0.length:Int) (fun k27 l26 =>
   (wBx 0 (↑p0.length:Int) (fun k54 x53 =>
    (idx p0 (↑k54:Int)).bind fun x78 =>
    (idx p0 (↑k27:Int)).bind fun x88 =>
    if x78.Rank < x88.Rank then
     some (w64 (x53 + 1))
    else
     some x53) 0).bind fun y59 =>
   (chk y59 l26.length).bind fun _ =>
   some (nV l26 y59.toNat (↑k27:Int))) x13).bind fun y32 =>
  some (y32,0)
 else
  some ([],x1)
def wAq (p0:List wAS) (p1:Int):Option ((List wAP) × Int) :=
 (wBB p0).bind fun (x1,x2) =>
 if x2=0 then
  (wAZ p1 1 20).bind fun x17 =>
  if x17=true then
   some ([],3)
  else
   (wBx 0 (↑x1.length:Int) (fun k49 l45 =>
    (rem (↑k49:Int) p1).bind fun x73 =>
    (quo (w64 (p1 + 1)) 2).bind fun x76 =>
    (rem x73 2).bind fun x79 =>
    if x79=1 then
     (quo (w64 (x73 + 1)) 2).bind fun x84 =>
     (chk (↑k49:Int) x1.length).bind fun _ =>
     (idx p0 (gd x1 k49)).bind fun x94 =>
     (quo (↑k49:Int) p1).bind fun x104 =>
     (app 24 l45 [(⟨x94.Bib,w64 (x104 + 1),w64 (x76 + x84)⟩:wAP)]).bind fun x112 =>
     some x112
    else
     (quo x73 2).bind fun x124 =>
     (chk (↑k49:Int) x1.length).bind fun _ =>
     (idx p0 (gd x1 k49)).bind fun x134 =>
     (quo (↑k49:Int) p1).bind fun x144 =>
     (app 24 l45 [(⟨x134.Bib,w64 (x144 + 1),w64 (x76 - x124)⟩:wAP)]).bind fun x152 =>
     some x152) []).bind fun y54 =>
   some (y54,0)
 else
  some ([],x2)
def wBC (p0:List wAA) (p1:(wAA->Option Bool)):Option (Bool) :=
 jn (wDi 0 (↑p0.length:Int) (fun k2 _ =>
  (idx p0 (↑k2:Int)).bind fun x22 =>
  (p1 x22).bind fun x37 =>
  if x37=true then
   some (.inl ())
  else
   esc (some false)) ()) fun _ =>
 some true
def wBA (p0:wAA):Option (Bool) :=
 (wBM p0.Bib 1 999).bind fun x5 =>
 if x5=true then
  (wBM p0.Time 0 360000).bind fun x17 =>
  if x17=true then
   (wBM p0.Gate 0 60).bind fun x29 =>
   some x29
  else
   some false
 else
  some false
def wBp (p0:Int) (p1:Int):Option (Bool) :=
 (wBK p0).bind fun x1 =>
 if x1=true then
  (wBK p1).bind fun x13 =>
  if x13=true then
   some (decide (p0 < p1))
  else
   some true
 else
  some (decide (p0 < p1))
def wAy (p0:List Int):Option (Bool) :=
 iter (fun x4 =>
  if 0 < x4 then
   (idx p0 x4).bind fun x21 =>
   (idx p0 (w64 (x4 - 1))).bind fun x29 =>
   (wBp x21 x29).bind fun x36 =>
   if x36=true then
    esc (some false)
   else
    some (.inl (w64 (x4 - 1)))
  else
   esc (some true)) big (w64 ((↑p0.length:Int) - 1))
def wBX (p0:List wAA):Option (Int) :=
 (wBx 0 (↑p0.length:Int) (fun k33 (l25,l29) =>
  ((idx p0 (↑k33:Int)).bind fun x70 =>
  (app 8 l25 [x70.Bib]).bind fun x90 =>
  (app 8 l29 [x70.Time]).bind fun x103 =>
  some (x90,x103)).bind fun (l61,l64) =>
  some (l61,l64)) ([],[])).bind fun (y38,y39) =>
 if 60 < (↑p0.length:Int) then
  some 2
 else
  (wBC p0 wBA).bind fun x301 =>
  if x301=true then
   (wBl y38).bind fun x318 =>
   if x318=true then
    some 5
   else
    (wAy y39).bind fun x336 =>
    if x336=true then
     some 0
    else
     some 4
  else
   some 3
def wBN (p0:wAA) (p1:Int):Option (Bool) :=
 some (decide (p0.Bib=p1))
def wAI (p0:List wAA) (p1:(wAA->Option Bool)):Option (Int) :=
 jn (wDi 0 (↑p0.length:Int) (fun k2 _ =>
  (idx p0 (↑k2:Int)).bind fun x22 =>
  (p1 x22).bind fun x30 =>
  if x30=true then
   esc (some (↑k2:Int))
  else
   some (.inl ())) ()) fun _ =>
 some (-1)
def wAG (p0:List wAA):Option ((List wAA)) :=
 (app 24 ([]:List wAA) p0).bind fun x11 =>
 some x11
def wAc (p0:List wAA) (p1:Int) (p2:Int):Option (List wAA):=delO p0 p1 p2
def wBm (p0:List wAA) (p1:Int):Option ((List wAA) × Int) :=
 (wBX p0).bind fun x11 =>
 if x11=0 then
  (wAI p0 (fun x=>wBN x p1)).bind fun x26 =>
  if x26 < 0 then
   some ([],1)
  else
   (wAG p0).bind fun x42 =>
   (wAc x42 x26 (w64 (x26 + 1))).bind fun x55 =>
   some (x55,0)
 else
  some ([],x11)
def wAt (p0:List wAD):Option (Int) :=
 if 60 < (↑p0.length:Int) then
  some 2
 else
  jn (wDi 0 (↑p0.length:Int) (fun k5 _ =>
   (idx p0 (↑k5:Int)).bind fun x23 =>
   (wAZ x23.Bib 1 999).bind fun x31 =>
   if x31=true then
    esc (some 3)
   else
    (wAZ x23.Time 0 360000).bind fun x52 =>
    if x52=true then
     esc (some 3)
    else
     (wAZ x23.Gate 0 60).bind fun x73 =>
     if x73=true then
      esc (some 3)
     else
      some (.inl ())) ()) fun _ =>
  jn (wDi 0 (↑p0.length:Int) (fun k100 _ =>
   jn (wDi 0 (↑k100:Int) (fun k119 _ =>
    (idx p0 (↑k100:Int)).bind fun x140 =>
    (idx p0 (↑k119:Int)).bind fun x150 =>
    if x140.Bib=x150.Bib then
     esc (esc (some 5))
    else
     some (.inl ())) ()) fun _ =>
   some (.inl ())) ()) fun _ =>
  jn (wDi 1 (↑p0.length:Int) (fun k188 _ =>
   (idx p0 (1 + ↑k188:Int)).bind fun x208 =>
   (idx p0 (w64 ((1 + ↑k188:Int) - 1))).bind fun x218 =>
   if x208.Time < x218.Time then
    esc (some 4)
   else
    some (.inl ())) ()) fun _ =>
  some 0
def wBG (p0:List wAD) (p1:Int):Option (Int) :=
 jn (wDi 0 (↑p0.length:Int) (fun k2 _ =>
  (idx p0 (↑k2:Int)).bind fun x21 =>
  if x21.Bib=p1 then
   esc (some (↑k2:Int))
  else
   some (.inl ())) ()) fun _ =>
 some (-1)
def wBD (p0:List wAD) (p1:Int):Option ((List wAD) × Int) :=
 (wAt p0).bind fun x1 =>
 if x1=0 then
  (wBG p0 p1).bind fun x14 =>
  if x14 < 0 then
   some ([],1)
  else
   (wBx 0 (↑p0.length:Int) (fun k46 l42 =>
    (idx p0 (↑k46:Int)).bind fun x69 =>
    if x69.Bib=p1 then
     some l42
    else
     (app 24 l42 [x69]).bind fun x93 =>
     some x93) []).bind fun y51 =>
   some (y51,0)
 else
  some ([],x1)
def wAa (p0:List wAD) (p1:List wAD):Option (Bool) :=
 if (↑p0.length:Int)=(↑p1.length:Int) then
  jn (wDi 0 (↑p0.length:Int) (fun k4 _ =>
   (idx p0 (↑k4:Int)).bind fun x26 =>
   (idx p1 (↑k4:Int)).bind fun x34 =>
   if x26=x34 then
    some (.inl ())
   else
    esc (some false)) ()) fun _ =>
  some true
 else
  some false
def wBE (p0:List wAA) (p1:List wAD):Option (Bool) :=
 (wBF p0).bind fun x1 =>
 (wAa x1 p1).bind fun x21 =>
 some x21
def wBh (p0:wAA) (p1:Int):Option (Bool) :=
 some (decide (p0.Bib=p1))
def wAT (p0:List wAA) (p1:(wAA->Option Bool)):Option (Bool) :=
 (wAI p0 p1).bind fun x1 =>
 some (decide (0 <= x1))
def wAz (p0:wAA) (p1:Int):Option (Bool) :=
 some (decide (p1 < p0.Time))
def wAK (p0:List wAA) (p1:Int) (p2:List wAA):Option (List wAA):=insO p0 p1 p2
def wCN (p0:List wAA) (p1:Int) (p2:Int):Option ((List wAA) × Int) :=
 (wBX p0).bind fun x11 =>
 if x11=0 then
  (wBM p1 1 999).bind fun x24 =>
  if x24=true then
   (wBM p2 1 360000).bind fun x36 =>
   if x36=true then
    (wAT p0 (fun x=>wBh x p1)).bind fun x54 =>
    if x54=true then
     some ([],5)
    else
     if (↑p0.length:Int)=60 then
      some ([],2)
     else
      if 0 < (↑p0.length:Int) then
       (idx p0 0).bind fun x83 =>
       (iter (fun x101 =>
        jn (wDi 0 (↑p0.length:Int) (fun k117 _ =>
         (idx p0 (↑k117:Int)).bind fun x140 =>
         if x140.Time=x101 then
          esc (some (.inl (w64 (x101 + p2))))
         else
          some (.inl ())) ()) fun _ =>
        esc (some x101)) big x83.Time).bind fun x94 =>
       if 360000 < x94 then
        some ([],10)
       else
        (wAI p0 (fun x=>wAz x x94)).bind fun x206 =>
        if x206 < 0 then
         ((wAG p0).bind fun x230 =>
         (wAK x230 (↑p0.length:Int) [(⟨p1,x94,0⟩:wAA)]).bind fun x248 =>
         some x248).bind fun l218 =>
         some (l218,0)
        else
         ((wAG p0).bind fun x354 =>
         (wAK x354 x206 [(⟨p1,x94,0⟩:wAA)]).bind fun x372 =>
         some x372).bind fun l342 =>
         some (l342,0)
      else
       (iter (fun x473 =>
        jn (wDi 0 (↑p0.length:Int) (fun k489 _ =>
         (idx p0 (↑k489:Int)).bind fun x512 =>
         if x512.Time=x473 then
          esc (some (.inl (w64 (x473 + p2))))
         else
          some (.inl ())) ()) fun _ =>
        esc (some x473)) big 0).bind fun x466 =>
       if 360000 < x466 then
        some ([],10)
       else
        (wAI p0 (fun x=>wAz x x466)).bind fun x580 =>
        if x580 < 0 then
         ((wAG p0).bind fun x604 =>
         (wAK x604 (↑p0.length:Int) [(⟨p1,x466,0⟩:wAA)]).bind fun x622 =>
         some x622).bind fun l592 =>
         some (l592,0)
        else
         ((wAG p0).bind fun x728 =>
         (wAK x728 x580 [(⟨p1,x466,0⟩:wAA)]).bind fun x746 =>
         some x746).bind fun l716 =>
         some (l716,0)
   else
    some ([],3)
  else
   some ([],3)
 else
  some ([],x11)
def wBU (p0:List wAD) (p1:Int) (p2:Int):Option ((List wAD) × Int) :=
 (wAt p0).bind fun x1 =>
 if x1=0 then
  (wAZ p1 1 999).bind fun x13 =>
  if x13=true then
   some ([],3)
  else
   (wAZ p2 1 360000).bind fun x28 =>
   if x28=true then
    some ([],3)
   else
    (wBG p0 p1).bind fun x46 =>
    if 0 <= x46 then
     some ([],5)
    else
     if (↑p0.length:Int)=60 then
      some ([],2)
     else
      if 0 < (↑p0.length:Int) then
       (idx p0 0).bind fun x68 =>
       iter (fun (x82,b83) =>
        if b83=true then
         (wBx 0 (↑p0.length:Int) (fun k107 b106 =>
          (idx p0 (↑k107:Int)).bind fun x130 =>
          if x130.Time=x82 then
           some true
          else
           some b106) false).bind fun y112 =>
         if y112=true then
          some (.inl (w64 (x82 + p2),y112))
         else
          some (.inl (x82,y112))
        else
         esc (if 360000 < x82 then
          some ([],10)
         else
          (wBx 0 (↑p0.length:Int) (fun k195 (l190,b194) =>
           (idx p0 (↑k195:Int)).bind fun x221 =>
           if x82 < x221.Time then
            if b194=true then
             (app 24 l190 [x221]).bind fun x243 =>
             some (x243,b194)
            else
             (app 24 l190 [(⟨p1,x82,0⟩:wAD)]).bind fun x261 =>
             (app 24 x261 [x221]).bind fun x278 =>
             some (x278,true)
           else
            (app 24 l190 [x221]).bind fun x300 =>
            some (x300,b194)) ([],false)).bind fun (y200,y201) =>
          if y201=true then
           some (y200,0)
          else
           (app 24 y200 [(⟨p1,x82,0⟩:wAD)]).bind fun x339 =>
           some (x339,0))) big (x68.Time,true)
      else
       iter (fun (x354,b355) =>
        if b355=true then
         (wBx 0 (↑p0.length:Int) (fun k379 b378 =>
          (idx p0 (↑k379:Int)).bind fun x402 =>
          if x402.Time=x354 then
           some true
          else
           some b378) false).bind fun y384 =>
         if y384=true then
          some (.inl (w64 (x354 + p2),y384))
         else
          some (.inl (x354,y384))
        else
         esc (if 360000 < x354 then
          some ([],10)
         else
          (wBx 0 (↑p0.length:Int) (fun k468 (l463,b467) =>
           (idx p0 (↑k468:Int)).bind fun x494 =>
           if x354 < x494.Time then
            if b467=true then
             (app 24 l463 [x494]).bind fun x517 =>
             some (x517,b467)
            else
             (app 24 l463 [(⟨p1,x354,0⟩:wAD)]).bind fun x535 =>
             (app 24 x535 [x494]).bind fun x552 =>
             some (x552,true)
           else
            (app 24 l463 [x494]).bind fun x574 =>
            some (x574,b467)) ([],false)).bind fun (y473,y474) =>
          if y474=true then
           some (y473,0)
          else
           (app 24 y473 [(⟨p1,x354,0⟩:wAD)]).bind fun x613 =>
           some (x613,0))) big (0,true)
 else
  some ([],x1)
def wAj (p0:List wAE) (p1:List wAE):Option (Bool) :=
 if (↑p0.length:Int)=(↑p1.length:Int) then
  jn (wDi 0 (↑p0.length:Int) (fun k4 _ =>
   (idx p0 (↑k4:Int)).bind fun x26 =>
   (idx p1 (↑k4:Int)).bind fun x34 =>
   if x26=x34 then
    some (.inl ())
   else
    esc (some false)) ()) fun _ =>
  some true
 else
  some false
def wAk (p0:List wAA) (p1:List wAA):Option (Bool) :=
 if (↑p0.length:Int)=(↑p1.length:Int) then
  jn (wDi 0 (↑p0.length:Int) (fun k4 _ =>
   (idx p0 (↑k4:Int)).bind fun x26 =>
   (idx p1 (↑k4:Int)).bind fun x34 =>
   if x26=x34 then
    some (.inl ())
   else
    esc (some false)) ()) fun _ =>
  some true
 else
  some false
def wBH (p0:List wAE) (p1:Int) (p2:List wAA) (p3:Int) (p4:Int):Option (Bool) :=
 if 64 < (↑p0.length:Int) then
  (wBf).bind fun x3 =>
  some x3
 else
  if 64 < (↑p2.length:Int) then
   (wBf).bind fun x16 =>
   some x16
  else
   (wAh p0).bind fun x27 =>
   (wAi p2).bind fun x41 =>
   (wBF p2).bind fun x55 =>
   (wBc x27 p1).bind fun (x73,x74) =>
   (wBS p0).bind fun x92 =>
   (wAq x92 p1).bind fun (x110,x111) =>
   if x74=x111 then
    if (↑x73.length:Int)=(↑x110.length:Int) then
     jn (wDi 0 (↑x73.length:Int) (fun k141 _ =>
      (chk (↑k141:Int) x73.length).bind fun _ =>
      (chk (↑k141:Int) x110.length).bind fun _ =>
      if (⟨(gd x73 k141).Bib,(gd x73 k141).Row,(gd x73 k141).Lane⟩:wAP)=(gd x110 k141) then
       some (.inl ())
      else
       esc (some false)) ()) fun _ =>
     (wBm x41 p3).bind fun (x210,x211) =>
     (wBD x55 p3).bind fun (x229,x230) =>
     if x211=x230 then
      (wBE x210 x229).bind fun x258 =>
      if x258=true then
       (wCN x41 p3 p4).bind fun (x282,x283) =>
       (wBU x55 p3 p4).bind fun (x299,x300) =>
       if x283=x300 then
        (wBE x282 x299).bind fun x339 =>
        if x339=true then
         (wBx 0 (↑x210.length:Int) (fun k365 l364 =>
          (chk (↑k365:Int) l364.length).bind fun _ =>
          some (nV l364 k365 (⟨0,(gd l364 k365).Time,(gd l364 k365).Gate⟩:wAA))) x210).bind fun y370 =>
         (wBx 0 (↑x282.length:Int) (fun k423 l422 =>
          (chk (↑k423:Int) l422.length).bind fun _ =>
          some (nV l422 k423 (⟨0,(gd l422 k423).Time,(gd l422 k423).Gate⟩:wAA))) x282).bind fun y428 =>
         (wAj x27 p0).bind fun x502 =>
         if x502=true then
          (wAk x41 p2).bind fun x538 =>
          if x538=true then
           (wBf).bind fun x550 =>
           some x550
          else
           some false
         else
          some false
        else
         some false
       else
        some false
      else
       some false
     else
      some false
    else
     some false
   else
    some false
end
end Go.Proofs.YtghaibkggdecnaaGreat
namespace Go.Proofs
open Go.RowKit Go.Lib
set_option maxHeartbeats 4000000 in
set_option maxRecDepth 100000 in
theorem delCalls115 (b c n i j:Nat) (cs:List Value) (w:World) (hcs:cs.length=n * 3) (h1:∀ v ∈ cs,v.oneCell'=true)
  (hcell:∀ k v,cs[k]?=some v->w.cell? ⟨b,k,none⟩=some v) (hfz:∀ k,k < n * 3->w.frozen? ⟨b,k,none⟩=false) (hn:n <= c) (_:c <= 9223372036854775807) (hij:i < j) (hj:j <= n) :
  Calls Tryz.prog 115 #[.slice (some ⟨b,0,none⟩) n c,.int .i64 i,.int .i64 j] w fun e w'=>e=.returned (.slice (some ⟨b,0,none⟩) (n - (j - i)) c) /\
   w'=(w.drew.setCells b (i * 3) (cs.drop (j * 3))).setCells b ((n - (j - i)) * 3) (nN ((j - i) * 3) (.int .i64 0)):=by
 obtain ⟨news,hnews⟩:∃ news,news=cs.drop (j * 3):=⟨_,rfl⟩
 have hlen:news.length=(n - j) * 3:=by rw [hnews,nO,hcs];omega
 obtain ⟨A,hA,hsrc⟩:∃ A:Addr,(if c=j then some (⟨b,0,none⟩:Addr) else some ⟨b,j * 3,none⟩)=some A/\Hid (∀ t u,news[t]?=some u->w.drew.cell? (A.add t)=some u):=by
  by_cases h:c=j
  ·refine ⟨⟨b,0,none⟩,by simp [h],fun t u hu=>?_⟩
   have h0:news.length=0:=by rw [hlen];omega
   rw [nT.1 h0] at hu
   simp at hu
  ·refine ⟨⟨b,j * 3,none⟩,by simp [h],fun t u hu=>?_⟩
   rw [hnews,nR] at hu
   rw [Addr.add_lit]
   exact hcell _ _ hu
 have s1:Hid (news.length=(n - j) * 3):=hlen
 have s2:Hid (∀ u ∈ news,u.oneCell'=true):=by
  intro u hu
  rw [hnews] at hu
  exact h1 u (nZ hu)
 have hsome:∀ k,k < n * 3->(w.cell? ⟨b,k,none⟩).isSome=true:=fun k hk=>by
  rw [hcell k _ (nS (by omega))];rfl
 have s3:Hid (∀ t,t < news.length->(w.drew.cell? ⟨b,0 + i * 3 + t,none⟩).isSome=true/\w.drew.frozen? ⟨b,0 + i * 3 + t,none⟩=false):=by
  intro t ht
  rw [hlen] at ht
  exact ⟨hsome _ (by omega),hfz _ (by omega)⟩
 obtain ⟨W1,hW1⟩:∃ W1,W1=w.drew.setCells b (i * 3) news:=⟨_,rfl⟩
 have hcl:∀ ty,(Builtin.clear_ #[37] ty #[.slice (some ⟨b,(i + (n - j)) * 3,none⟩) (n - (i + (n - j))) (c - (i + (n - j)))]).run Tryz.prog W1=.ok (.tuple #[]) (W1.setCells b ((i + (n - j)) * 3) (nN ((n - (i + (n - j))) * 3) (.int .i64 0))) :=
  fun ty=>Go.KL.run_clear_sliceK W1 _ _ ty _ (.int .i64 0) 3 Tryz.underlying37 Tryz.zeroValue54 rfl (by omega) rfl b _ _ _ (by omega) (fun t ht=>by
   rw [hW1]
   exact Go.KL.isSome_setCells' b news (i * 3) w.drew (fun q hq=>hsome _ (by rw [hlen] at hq;omega)) _ (hsome ((i + (n - j)) * 3 + t) (by omega))) (fun t ht=>by rw [hW1,World.frozen?_setCells];exact hfz ((i + (n - j)) * 3 + t) (by omega))
 have hW:Hid (W1=w.drew.setCells b (0 + i * 3) news):=by rw [nI];exact hW1
 have hic:i <= c:=by omega
 have hjc:j <= c:=by omega
 have ty30:=Tryz.typeInfo54
 have mixed:Tryz.prog.follows .mixedOrders=true:=rfl
 have hnews':Hid (news=cs.drop (j * 3)):=hnews
 clear hW1 hsome hlen hnews
 go_enter Tryz.func115,Tryz.ntmps115
 go_wp2_with fail
 go_region_law_o (refine step_append_room rfl (.tmp 22) (.tmp 25) 37 rfl 54 _ 3 Tryz.underlying37 Tryz.type54 rfl b 0 i c (by simp [Act.eval,Act.put]) A (n - j) (c - j) news (by simp [Act.eval,Act.put]) s1.out hsrc.out s2.out (by omega) s3.out ?_;rw [<- hW.out])
 go_wp2
 go_ret
 have e1:n - (j - i)=i + (n - j):=by omega
 have e2:n - (i + (n - j))=j - i:=by omega
 have hw:=hW.out
 rw [nI,hnews'.out] at hw
 refine ⟨by rw [e1];rfl,?_⟩
 rw [e1,hw,e2]
set_option maxHeartbeats 4000000 in
set_option maxRecDepth 100000 in
theorem insShift122 (b n c i vb vc:Nat) (cs vs:List Value) (w:World) (hcs:cs.length=n * 3) (hvs:vs.length=1 * 3) (h1:∀ v ∈ cs,v.oneCell'=true) (h2:∀ v ∈ vs,v.oneCell'=true)
  (hcell:∀ k v,cs[k]?=some v->w.cell? ⟨b,k,none⟩=some v) (hsome:∀ k,k < c * 3->(w.cell? ⟨b,k,none⟩).isSome=true) (hfz:∀ k,w.frozen? ⟨b,k,none⟩=false)
  (hvcell:∀ k v,vs[k]?=some v->w.cell? ⟨vb,k,none⟩=some v) (hvfz:∀ k,w.frozen? ⟨vb,k,none⟩=false) (hvb:vb ≠ b)
  (tA tB:TypeId) (kA kB:Nat) (hsa:w.shape? vb=some (tA,kA)) (hsb:w.shape? b=some (tB,kB)) (hkB:kB ≠ 0)
  (hi:i < n) (hroom:n + 1 <= c) (hm:c <= 9223372036854775807) :
  Calls Tryz.prog 122 #[.slice (some ⟨b,0,none⟩) n c,.int .i64 i,.slice (some ⟨vb,0,none⟩) 1 vc] w fun e w'=>e=.returned (.slice (some ⟨b,0,none⟩) (n + 1) c) /\
   w'=(w.drew.setCells b ((i + 1) * 3) (cs.drop (i * 3))).setCells b (i * 3) vs:=by
 have uS:=run_underlying Tryz.underlying37
 have hz2:¬ ((i:Int)=(n:Int)):=by omega
 have hov:∀ lb cb,(callFunc 148 #[.slice (some ⟨vb,0,none⟩) 1 vc,.slice (some ⟨b,(i + 1) * 3,none⟩) lb cb]).run Tryz.prog w=.ok (.value (.bool false)) w:=fun lb cb=>by
  rw [run_callFunc_extern Tryz.func148 (by kernel_rfl) (by kernel_rfl) (by kernel_rfl) (e:=Extern.SlicesOverlaps.overlaps #[37,37] #[4]) (by kernel_rfl),
   Lib.run_overlaps_apart w 37 4 54 Tryz.underlying37 3 Tryz.sizeOf54 ⟨vb,0,none⟩ ⟨b,(i + 1) * 3,none⟩ 1 vc lb cb hvb tA tB kA kB hsa hsb hkB (hvfz _) (hvfz _)]
  rfl
 have hdl:(cs.drop (i * 3)).length=(n - i) * 3:=by rw [nO,hcs];omega
 have mixed:Tryz.prog.follows .mixedOrders=true:=rfl
 have hw1:IntKind.i64.wrap ((i:Int) + 1)=(i:Int) + 1:=by rw [IntKind.wrap_i64];omega
 have hw2:IntKind.i64.wrap ((n:Int) + 1)=(n:Int) + 1:=by rw [IntKind.wrap_i64];omega
 have hb1:(0:Int) <= (i:Int) + 1:=by omega
 have hin:i <= n:=by omega
 have htn:((i:Int) + 1).toNat=i + 1:=by omega
 have hb2:¬ (c=i + 1):=by omega
 have hb3:(i:Int) <= (n:Int) + 1:=by omega
 have hb4:¬ (c=i):=by omega
 have hcp1:∀ ty dc sc,(Builtin.copy_ #[37,37] ty #[.slice (some ⟨b,(i + 1) * 3,none⟩) (n - i) dc,.slice (some ⟨b,i * 3,none⟩) (n + 1 - i) sc]).run Tryz.prog w.drew=.ok (goInt ((n - i:Nat):Int)) (w.drew.setCells b ((i + 1) * 3) (cs.drop (i * 3))):=fun ty dc sc =>
  Go.KL.run_copy_cellsK w.drew _ _ ty 54 3 b ((i + 1) * 3) (n - i) dc (n - i) ⟨b,i * 3,none⟩ (n + 1 - i) sc (cs.drop (i * 3)) Tryz.underlying37 Tryz.sizeOf54 (by simp only [nv];split <;> omega) hdl
   (fun j v hj=>by rw [Addr.add_lit];exact hcell (i * 3 + j) v (by rwa [nR] at hj))
   (fun j hj=>hsome _ (by omega)) (fun j hj=>hfz _) (fun v hv=>h1 v (nZ hv))
 obtain ⟨W1,hW1⟩:∃ W1,W1=w.drew.setCells b ((i + 1) * 3) (cs.drop (i * 3)):=⟨_,rfl⟩
 have hsp1:∀ k,k < c * 3->(W1.cell? ⟨b,k,none⟩).isSome=true:=fun k hk=>by
  rw [hW1]
  exact Go.KL.isSome_setCells' b (cs.drop (i * 3)) ((i + 1) * 3) w.drew (fun j hj=>hsome _ (by omega)) _ (hsome _ hk)
 have hcp2:∀ (W:World),(∀ x,W.cell? x=W1.cell? x)->(∀ x,W.frozen? x=W1.frozen? x)->∀ ty dc,(Builtin.copy_ #[37,37] ty #[.slice (some ⟨b,i * 3,none⟩) (n + 1 - i) dc,.slice (some ⟨vb,0,none⟩) 1 vc]).run Tryz.prog W=.ok (goInt 1) (W.setCells b (i * 3) vs):=fun W hWc hWf ty dc =>
  Go.KL.run_copy_cellsK W _ _ ty 54 3 b (i * 3) (n + 1 - i) dc 1 ⟨vb,0,none⟩ 1 vc vs Tryz.underlying37 Tryz.sizeOf54 (by simp only [nv];split <;> omega) hvs
   (fun j v hj=>by
    rw [Addr.add_lit,hWc,hW1,World.cell?_setCells_out b _ _ _ _ (fun h _=>absurd h hvb),nI]
    exact hvcell j v hj)
   (fun j hj=>by rw [hWc];exact hsp1 _ (by omega)) (fun j hj=>by rw [hWf,hW1,World.frozen?_setCells];exact hfz _) h2
 rw [<- hW1] at hcp1
 clear hsp1 hdl hcell hsome hfz hvcell hvfz hsa hsb
 go_enter Tryz.func122,Tryz.ntmps122
 go_wp2_with (simp only [hov])
 go_region_law_o (refine wEJ rfl _ _ 37 37 rfl _ _ (by simp [Act.eval,Act.put]) (by simp [Act.eval,Act.put]) (hcp1 _ _ _) ?_)
 go_wp2_with (at_builtin;refine wpList_copy_runI _ rfl _ _ 37 37 rfl _ _ rfl rfl (hcp2 _ (fun _=>rfl) (fun _=>rfl) _ _) ?_)
 go_ret
 first | exact ⟨rfl,rfl⟩ | exact ⟨rfl,by rw [hW1]⟩
set_option maxHeartbeats 4000000 in
set_option maxRecDepth 100000 in
theorem insEndRoom122 (b n c vb vc:Nat) (vs:List Value) (w:World) (hvs:vs.length=1 * 3) (h2:∀ v ∈ vs,v.oneCell'=true)
  (hsome:∀ k,k < c * 3->(w.cell? ⟨b,k,none⟩).isSome=true) (hfz:∀ k,w.frozen? ⟨b,k,none⟩=false)
  (hvcell:∀ k v,vs[k]?=some v->w.cell? ⟨vb,k,none⟩=some v) (hroom:n + 1 <= c) (hm:c <= 9223372036854775807) :
  Calls Tryz.prog 122 #[.slice (some ⟨b,0,none⟩) n c,.int .i64 n,.slice (some ⟨vb,0,none⟩) 1 vc] w fun e w'=>e=.returned (.slice (some ⟨b,0,none⟩) (n + 1) c) /\
   w'=w.setCells b (n * 3) vs:=by
 have uS:=run_underlying Tryz.underlying37
 have mixed:Tryz.prog.follows .mixedOrders=true:=rfl
 have hsrc:Src Tryz.prog 3 37 (.slice (some ⟨vb,0,none⟩) 1 vc) 1 vs w:=Src.ofSlice w Tryz.underlying37 ⟨vb,0,none⟩ 1 vc vs hvs (fun j u hj=>by rw [Addr.add_lit,nI];exact hvcell j u hj) h2
 have hrun:∀ ty,(Builtin.append_ #[37,37] ty #[.slice (some ⟨b,0,none⟩) n c,.slice (some ⟨vb,0,none⟩) 1 vc]).run Tryz.prog w=_:=fun ty =>
  run_append_room_src w 37 37 ty 54 Tryz.t54 Tryz.underlying37 Tryz.type54 b 0 n c _ 1 vs hsrc hroom (fun j hj=>hsome _ (by show 0 + n * 3 + j < c * 3;omega)) (fun j hj=>hfz _)
 clear hsome hfz hvcell
 go_enter Tryz.func122,Tryz.ntmps122
 go_wp2_with (at_builtin;refine Lib.wpList_append_run _ rfl _ _ _ _ rfl _ _ rfl rfl _ _ (hrun _) ?_)
 go_ret
 exact ⟨rfl,rfl⟩
set_option maxHeartbeats 4000000 in
set_option maxRecDepth 100000 in
theorem insEndGrow122 (base:Option Addr) (n c vb vc:Nat) (cs vs:List Value) (w:World) (hcs:cs.length=n * 3) (hvs:vs.length=1 * 3) (h2:∀ v ∈ vs,v.oneCell'=true)
  (hnil:base=none->n=0) (hbase:∀ a,base=some a->∃ b,a=⟨b,0,none⟩/\∀ k v,cs[k]?=some v->w.cell? ⟨b,k,none⟩=some v)
  (hvcell:∀ k v,vs[k]?=some v->w.cell? ⟨vb,k,none⟩=some v) (hnc:n <= c) (hroom:c < n + 1) (hbig:(n + 1) * 24 <= 140737488355328) :
  Calls Tryz.prog 122 #[.slice base n c,.int .i64 n,.slice (some ⟨vb,0,none⟩) 1 vc] w fun e w'=>e=.returned (.slice (some ⟨w.heap.size,0,none⟩) (n + 1) (grownCap w (n + 1) c 54)) /\
   w'=w.drew.alloc (.cells ((cs ++ vs).toArray ++ Builtin.zeroCells (nK 3 (.int .i64 0)) (grownCap w (n + 1) c 54 - (n + 1))) 54):=by
 have uS:=run_underlying Tryz.underlying37
 have mixed:Tryz.prog.follows .mixedOrders=true:=rfl
 have hsrc:Src Tryz.prog 3 37 (.slice (some ⟨vb,0,none⟩) 1 vc) 1 vs w:=Src.ofSlice w Tryz.underlying37 ⟨vb,0,none⟩ 1 vc vs hvs (fun j u hj=>by rw [Addr.add_lit,nI];exact hvcell j u hj) h2
 have hold:(Builtin.firstCells 3 n (.slice base n c)).run Tryz.prog w.drew=.ok cs.toArray w.drew:=by
  cases base with
  | none =>
   have h0:=hnil rfl
   subst h0
   have h1:cs=[]:=nT.1 (by omega)
   rw [h1]
   exact run_firstCells_none w.drew 3 0 0 c
  | some a =>
   obtain ⟨b,rfl,hc⟩:=hbase a rfl
   exact run_firstCells_some w.drew 3 n _ n c cs hcs (fun j v hj=>by rw [Addr.add_lit,nI];exact hc j v hj)
 have hrun:∀ ty,(Builtin.append_ #[37,37] ty #[.slice base n c,.slice (some ⟨vb,0,none⟩) 1 vc]).run Tryz.prog w=_:=fun ty =>
  run_append_grow_src w 37 37 ty 54 Tryz.t54 _ Tryz.underlying37 Tryz.type54 rfl base n c cs hold _ 1 vs hsrc hroom (by omega) (growslice_fits (bytes:=24) hroom hbig)
 clear hvcell hbase
 go_enter Tryz.func122,Tryz.ntmps122
 cases base with
 | none =>
  have h0:=hnil rfl
  subst h0
  go_wp2_with (at_builtin;refine Lib.wpList_append_run _ rfl _ _ _ _ rfl _ _ rfl rfl _ _ (hrun _) ?_)
  go_ret
  exact ⟨rfl,rfl⟩
 | some a =>
  obtain ⟨ab,ao,asp⟩:=a
  go_wp2_with (at_builtin;refine Lib.wpList_append_run _ rfl _ _ _ _ rfl _ _ rfl rfl _ _ (hrun _) ?_)
  all_goals (go_ret;exact ⟨rfl,rfl⟩)
set_option maxHeartbeats 4000000 in
set_option maxRecDepth 100000 in
theorem insGrow122 (b n c i vb vc:Nat) (cs vs:List Value) (w:World) (hcs:cs.length=n * 3) (hvs:vs.length=1 * 3) (h1:∀ v ∈ cs,v.oneCell'=true) (h2:∀ v ∈ vs,v.oneCell'=true)
  (hcell:∀ k v,cs[k]?=some v->w.cell? ⟨b,k,none⟩=some v) (hvcell:∀ k v,vs[k]?=some v->w.cell? ⟨vb,k,none⟩=some v)
  (hi:i < n) (hnc:n <= c) (hroom:c < n + 1) (hbig:(n + 1) * 24 <= 140737488355328) :
  Calls Tryz.prog 122 #[.slice (some ⟨b,0,none⟩) n c,.int .i64 i,.slice (some ⟨vb,0,none⟩) 1 vc] w fun e w'=>e=.returned (.slice (some ⟨w.heap.size,0,none⟩) (n + 1) (grownCap w (n + 1) c 54)) /\
   w'=(((w.alloc (.cells ((cs.take (i * 3)).toArray ++ Builtin.zeroCells (nK 3 (.int .i64 0)) (n + 1 - i) ++ Builtin.zeroCells (nK 3 (.int .i64 0)) (grownCap w (n + 1) c 54 - (n + 1))) 54)).drew.setCells w.heap.size (i * 3) vs).drew).setCells w.heap.size ((i + 1) * 3) (cs.drop (i * 3)):=by
 have uS:=run_underlying Tryz.underlying37
 have mixed:Tryz.prog.follows .mixedOrders=true:=rfl
 have hz2:¬ ((i:Int)=(n:Int)):=by omega
 have hz3:(c:Int) < (n:Int) + 1:=by omega
 have hbw:b < w.heap.size:=block_lt_of_cell (hcell 0 _ (nS (by omega)))
 have hvw:vb < w.heap.size:=block_lt_of_cell (hvcell 0 _ (nS (by omega)))
 have hkk:(n:Int) + 1 - (i:Int)=((n + 1 - i:Nat):Int):=by omega
 have hik:i + (n + 1 - i)=n + 1:=by omega
 have htl:(cs.take (i * 3)).length=i * 3:=by rw [nW,hcs];omega
 have hold:(Builtin.firstCells 3 i (.slice (some ⟨b,0,none⟩) i c)).run Tryz.prog w.drew=.ok (cs.take (i * 3)).toArray w.drew :=
  run_firstCells_some w.drew 3 i ⟨b,0,none⟩ i c (cs.take (i * 3)) htl (fun j v hj=>by
   rw [Addr.add_lit,nI]
   rw [List.getElem?_take] at hj
   split at hj
   ·exact hcell j v hj
   ·cases hj)
 have hrz:∀ ty,(Builtin.append_ #[37,3] ty #[.slice (some ⟨b,0,none⟩) i c,.int .i64 ((n:Int) + 1 - (i:Int))]).run Tryz.prog w =
   .ok (.slice (some ⟨w.heap.size,0,none⟩) (n + 1) (grownCap w (n + 1) c 54)) (w.drew.alloc (.cells ((cs.take (i * 3)).toArray ++ Builtin.zeroCells (nK 3 (.int .i64 0)) (n + 1 - i) ++ Builtin.zeroCells (nK 3 (.int .i64 0)) (grownCap w (n + 1) c 54 - (n + 1))) 54)):=fun ty=>by
  have h:=Lib.run_append_grow_zeros w 37 3 ty 54 Tryz.t54 _ .i64 .i64 Tryz.underlying37 Tryz.underlying3 Tryz.type54 rfl (some ⟨b,0,none⟩) i c (cs.take (i * 3)) hold (n + 1 - i) (by omega) (by show 0 < 3;omega) (by omega) (by omega) (by show (n + 1 - i) * 24 <= _;omega) (by rw [hik];exact growslice_fits (bytes:=24) hroom hbig)
  rw [hik] at h
  rw [hkk]
  exact h
 obtain ⟨G,hG⟩:∃ G,G=grownCap w (n + 1) c 54:=⟨_,rfl⟩
 obtain ⟨ROW,hROW⟩:∃ ROW:Array Value,ROW=(cs.take (i * 3)).toArray ++ Builtin.zeroCells (nK 3 (.int .i64 0)) (n + 1 - i) ++ Builtin.zeroCells (nK 3 (.int .i64 0)) (G - (n + 1)):=⟨_,rfl⟩
 rw [<- hG] at hrz ⊢
 rw [<- hROW] at hrz ⊢
 have hRl:(n + 1) * 3 <= ROW.size:=by
  rw [hROW,Go.KL.zeroCellsK _ _ _ (by omega),Go.KL.zeroCellsK _ _ _ (by omega)]
  simp [htl]
  omega
 obtain ⟨W1,hW1⟩:∃ W1,W1=w.drew.alloc (.cells ROW 54):=⟨_,rfl⟩
 rw [<- hW1] at hrz
 have hN:∀ j,j < (n + 1) * 3->(W1.cell? ⟨w.heap.size,j,none⟩).isSome=true:=fun j hj=>by
  rw [hW1,World.cell?_alloc_at (w:=w.drew) ROW _ w.heap.size j rfl,Array.getElem?_eq_getElem (by omega)];rfl
 have hNf:∀ j,W1.frozen? ⟨w.heap.size,j,none⟩=false:=fun j=>by rw [hW1];exact World.frozen?_alloc_at (w:=w.drew) ROW _ w.heap.size j rfl
 have hOb:∀ j v,w.cell? ⟨b,j,none⟩=some v->W1.cell? ⟨b,j,none⟩=some v:=fun j v h=>by rw [hW1,World.cell?_alloc_past (w:=w.drew) _ b j hbw];exact h
 have hOv:∀ j v,w.cell? ⟨vb,j,none⟩=some v->W1.cell? ⟨vb,j,none⟩=some v:=fun j v h=>by rw [hW1,World.cell?_alloc_past (w:=w.drew) _ vb j hvw];exact h
 have hcpA:∀ (W:World),(∀ x,W.cell? x=W1.cell? x)->(∀ x,W.frozen? x=W1.frozen? x)->∀ ty dc,(Builtin.copy_ #[37,37] ty #[.slice (some ⟨w.heap.size,i * 3,none⟩) (n + 1 - i) dc,.slice (some ⟨vb,0,none⟩) 1 vc]).run Tryz.prog W=.ok (goInt 1) (W.setCells w.heap.size (i * 3) vs):=fun W hWc hWf ty dc =>
  Go.KL.run_copy_cellsK W _ _ ty 54 3 w.heap.size (i * 3) (n + 1 - i) dc 1 ⟨vb,0,none⟩ 1 vc vs Tryz.underlying37 Tryz.sizeOf54 (by simp only [nv];split <;> omega) hvs
   (fun j v hj=>by rw [Addr.add_lit,hWc,nI];exact hOv _ v (hvcell j v hj))
   (fun j hj=>by rw [hWc];exact hN _ (by omega)) (fun j hj=>by rw [hWf];exact hNf _) h2
 have hGn:n + 1 <= G:=by rw [hG];exact grownCap_ge w _ _ _
 have hG63:G <= 9223372036854775807:=by
  have:=grownCap_le_maxLen w (n + 1) c 54 (by unfold maxLen;omega)
  rw [<- hG] at this
  unfold maxLen at this
  omega
 have hGi:¬ (G=i):=by omega
 have hGim:¬ (G=i + 1):=by omega
 have hci:¬ (c=i):=by omega
 have hbN:b ≠ w.heap.size:=by omega
 have hdl:(cs.drop (i * 3)).length=(n - i) * 3:=by rw [nO,hcs];omega
 have hcpB:∀ (W:World),(∀ x,W.cell? x=(W1.setCells w.heap.size (i * 3) vs).cell? x)->(∀ x,W.frozen? x=(W1.setCells w.heap.size (i * 3) vs).frozen? x)->∀ ty dc sc,(Builtin.copy_ #[37,37] ty #[.slice (some ⟨w.heap.size,(i + 1) * 3,none⟩) (n - i) dc,.slice (some ⟨b,i * 3,none⟩) (n - i) sc]).run Tryz.prog W=.ok (goInt ((n - i:Nat):Int)) (W.setCells w.heap.size ((i + 1) * 3) (cs.drop (i * 3))):=fun W hWc hWf ty dc sc =>
  Go.KL.run_copy_cellsK W _ _ ty 54 3 w.heap.size ((i + 1) * 3) (n - i) dc (n - i) ⟨b,i * 3,none⟩ (n - i) sc (cs.drop (i * 3)) Tryz.underlying37 Tryz.sizeOf54 (by simp) hdl
   (fun j v hj=>by
    rw [Addr.add_lit,hWc,World.cell?_setCells_out _ _ _ _ _ (fun h _=>absurd h hbN)]
    exact hOb _ v (hcell (i * 3 + j) v (by rwa [nR] at hj)))
   (fun j hj=>by rw [hWc];exact Go.KL.isSome_setCells' _ vs (i * 3) W1 (fun t ht=>hN _ (by omega)) _ (hN _ (by omega)))
   (fun j hj=>by rw [hWf,World.frozen?_setCells];exact hNf _) (fun v hv=>h1 v (nZ hv))
 subst hW1
 have hE1:∀ x,((w.alloc (.cells ROW 54)).drew).cell? x=(w.drew.alloc (.cells ROW 54)).cell? x:=fun x=>rfl
 have hE2:∀ x,((w.alloc (.cells ROW 54)).drew).frozen? x=(w.drew.alloc (.cells ROW 54)).frozen? x:=fun x=>rfl
 have hF1:∀ x,(((w.alloc (.cells ROW 54)).drew.setCells w.heap.size (i * 3) vs).drew).cell? x=((w.drew.alloc (.cells ROW 54)).setCells w.heap.size (i * 3) vs).cell? x:=fun x=>rfl
 have hF2:∀ x,(((w.alloc (.cells ROW 54)).drew.setCells w.heap.size (i * 3) vs).drew).frozen? x=((w.drew.alloc (.cells ROW 54)).setCells w.heap.size (i * 3) vs).frozen? x:=fun x=>rfl
 have hw1:IntKind.i64.wrap ((i:Int) + 1)=(i:Int) + 1:=by rw [IntKind.wrap_i64];omega
 have hw2:IntKind.i64.wrap ((n:Int) + 1)=(n:Int) + 1:=by rw [IntKind.wrap_i64];omega
 have hb1:(0:Int) <= (i:Int) + 1:=by omega
 have hin:i <= n:=by omega
 have htn:((i:Int) + 1).toNat=i + 1:=by omega
 have hb3:(i:Int) <= (n:Int):=by omega
 clear hkk hik hold hROW hG hRl hN hNf hOb hOv hcell hvcell
 go_enter Tryz.func122,Tryz.ntmps122
 go_wp2_with (first
  | (at_builtin;refine Lib.wpList_append_run _ rfl _ _ _ _ rfl _ _ rfl rfl _ _ (hrz _) ?_)
  | (at_builtin;refine wpList_copy_runI _ rfl _ _ 37 37 rfl _ _ rfl rfl (hcpA _ hE1 hE2 _ _) ?_)
  | (at_builtin;refine wpList_copy_runI _ rfl _ _ 37 37 rfl _ _ rfl rfl (hcpB _ (fun _=>rfl) (fun _=>rfl) _ _ _) ?_))
 go_region_law_o (refine wEJ rfl _ _ 37 37 rfl (.slice (some ⟨w.heap.size,(i + 1) * 3,none⟩) (n - i) (G - (i + 1))) (.slice (some ⟨b,i * 3,none⟩) (n - i) (c - i)) (by simp [Act.eval,Act.put]) (by simp [Act.eval,Act.put]) (hcpB _ hF1 hF2 3 (G - (i + 1)) (c - i)) ?_)
 go_wp2
 go_ret
 exact ⟨rfl,rfl⟩
end Go.Proofs
namespace Go.Proofs.YtghaibkggdecnaaGreat
open Go.KL
theorem wIQ (x a b:Int):wBM x a b=some (decide (a <= x) && decide (x <= b)):=by
 unfold wBM
 by_cases h:a <= x <;> simp [h]
theorem wNo {K V:Type} [DecidableEq K] {m:List (K × V)} {x y:K} {v:V}:wGd (mput m x v) y=if y=x then some v else wGd m y:=by
 induction m with
 | nil=>simp only [mput,wGd]
 | cons p m ih =>
  obtain ⟨a,u⟩:=p
  rw [mput]
  by_cases h:x=a
  ·subst h
   rw [if_pos rfl,wGd,wGd]
   split <;> rfl
  ·rw [if_neg h,wGd,wGd,ih]
   by_cases h2:y=a
   ·rw [if_pos h2,if_neg (fun e:y=x=>h (e.symm.trans h2)),if_pos h2]
   ·rw [if_neg h2,if_neg h2]
theorem wHh {l:List Int} (hl:l.length <= 1000):wBl l=some (!decide l.Nodup):=by
 unfold wBl
 rw [wDO (by omega)]
 have key:∀ (m k:Nat) (t:List (Int × Bool)),k + m=l.length->(∀ n,wEQ t n false=decide (n ∈ l.take k))->(l.take k).Nodup ->
   jn (forN (fun k20 l17 =>
  (idx l (↑k20:Int)).bind fun x41 =>
  if (wEQ l17 x41 false)=true then
   esc (some true)
  else
   some (.inl (mput l17 x41 true))) m k t) (fun _=>some false)=some (!decide l.Nodup):=by
  intro m
  induction m with
  | zero =>
   intro k t hk _ hn
   rw [nh (by omega)] at hn
   simp [forN,hn]
  | succ m ih =>
   intro k t hk ht hn
   have hlt:k < l.length:=by omega
   rw [forN,wDt hlt,nA,ht]
   by_cases c:gd l k ∈ l.take k
   ·have:¬ l.Nodup:=fun h=>by
     rw [<- nY k l,wJP hlt] at h
     exact (nu.1 h).2.2 _ c _ (by simp) rfl
    simp [c,this]
   ·rw [if_neg (by simpa using c)]
    simp only
    refine ih (k + 1) _ (by omega) (fun n=>?_) ?_
    ·unfold wEQ at ht ⊢
     rw [wNo,wEe hlt]
     by_cases e:n=gd l k
     ·rw [if_pos e];simp [e]
     ·rw [if_neg e,ht];simp [e]
    ·rw [wEe hlt,nu]
     exact ⟨hn,by simp,fun a ha b hb e=>by simp at hb;subst hb;subst e;exact c ha⟩
 exact key l.length 0 [] (by omega) (fun n=>by simp [wEQ,wGd]) (by simp)
theorem wIR {S:Type} {body:Nat->S->Option S} {n:Nat} {s0:S} (I:Nat->S->Prop) (hn:n <= 1000) (h0:I 0 s0) (h:∀ i s,i < n->I i s->∃ s',body i s=some s'/\I (i + 1) s'):∃ s,wBx 0 (n:Int) body s0=some s/\I n s:=by
 rw [wFK (by omega)]
 have:=wIN (body:=body) I n 0 s0 h0 fun i s _ h2 h3=>h i s (by omega) h3
 rwa [nI] at this
theorem wQv {α:Type} [Inhabited α] {l:List α} {n i:Nat} (h:i < n) (h2:i < l.length):gd (l.take n) i=gd l i:=by
 have h1:=wCK (xs:=l.take n) (k:=i) (by simp;omega)
 rw [List.getElem?_take_of_lt h,wCK h2] at h1
 exact (nw h1).symm
theorem wPc {α:Type} [Inhabited α] {l:List α} {n i:Nat} (h2:n + i < l.length):gd (l.drop n) i=gd l (n + i):=by
 have h1:=wCK (xs:=l.drop n) (k:=i) (by simp;omega)
 rw [nR,wCK h2] at h1
 exact (nw h1).symm
theorem wKA {α:Type} {p:α->Bool}:∀ {l:List α} {k:Nat},first p l k=-1 \/ ((k:Int) <= first p l k/\first p l k < k + l.length)
 | [],k=>.inl rfl
 | a :: l,k=>by
  rw [first]
  split
  ·right;simp;omega
  ·rcases wKA (p:=p) (l:=l) (k:=k + 1) with h | h
   ·exact .inl h
   ·right;simp at h ⊢;omega
theorem wIS {α:Type} [Inhabited α] {l:List α} {a:α} (h:a ∈ l):∃ i,i < l.length/\gd l i=a:=by
 obtain ⟨i,hi,e⟩:=List.getElem_of_mem h
 exact ⟨i,hi,by rw [wDP hi,e]⟩
theorem wIT {B:Type} {body:Nat->Unit->Option (Unit ⊕ B)} (q:Nat->Bool) (c:B):∀ (m k:Nat),(∀ i,k <= i->i < k + m->(∀ j,k <= j->j < i->q j=true)->body i ()=some (if q i=true then .inl () else .inr c))->forN body m k ()=some (if wHf q m k=true then .inl () else .inr c)
 | 0,_,_=>rfl
 | m + 1,k,h=>by
  rw [forN,h k (by omega) (by omega) (fun j h1 h2=>by omega),wHf]
  cases hq:q k with
  | false=>rfl
  | true =>
   simp only [if_true,Bool.true_and]
   exact wIT q c m (k + 1) fun i h1 h2 h3=>h i (by omega) (by omega) fun j h4 h5=>by
    by_cases e:j=k
    ·exact e ▸ hq
    ·exact h3 j (by omega) h5
theorem wFT (x a b:Int):wAZ x a b=some (decide (x < a) || decide (b < x)):=by
 unfold wAZ
 by_cases h:x < a <;> simp [h]
end Go.Proofs.YtghaibkggdecnaaGreat
namespace Go.Proofs.YtghaibkggdecnaaGreat
open Go.KL
theorem wHi {f:wAE->Option Int} {p:wAE->Int} (hf:∀ s,f s=some (p s)) (a b:Int) {l:List wAE} (hl:l.length <= 1000):wAm (⟨f,a,b⟩:wAO) l=some (l.map p):=by
 unfold wAm
 rw [wHd (bytes:=8) (f:=p) (fun s _ r=>by simp only [hf,nA,wHe]) (by omega) (by omega)]
 rfl
theorem wJR {f:wAE->Option Int} {a b:Int} {l:List Int} (hl:l.length <= 1000):wBZ l (fun x=>wAg x (⟨f,a,b⟩:wAO))=some (l.all fun x=>decide (a <= x) && decide (x <= b)):=by
 unfold wBZ
 rw [wJw (p:=fun x=>decide (a <= x) && decide (x <= b)) (z:=false) (fun x _=>by
  unfold wAg
  simp only [wIQ,nA]
  split <;> rfl) (by omega)]
 cases l.all fun x=>decide (a <= x) && decide (x <= b) <;> rfl
structure wJS (f:List wAE):Prop where
 l1:1 <= f.length
 l2:f.length <= 60
 bib:∀ s ∈ f,1 <= s.Bib/\s.Bib <= 999
 rank:∀ s ∈ f,1 <= s.Rank/\s.Rank <= 9999
 nat:∀ s ∈ f,0 <= s.Nation/\s.Nation <= 30
 bibs:(f.map (·.Bib)).Nodup
 ranks:(f.map (·.Rank)).Nodup
def okB (s:wAE):Bool:=decide (1 <= s.Bib) && decide (s.Bib <= 999)
def okR (s:wAE):Bool:=decide (1 <= s.Rank) && decide (s.Rank <= 9999)
def okN (s:wAE):Bool:=decide (0 <= s.Nation) && decide (s.Nation <= 30)
def okF (s:wAE):Bool:=okB s && (okN s && okR s)
def wOY (f:List wAE):Int:=if 1 <= f.length/\f.length <= 60 then (if f.all okF=true then (if (f.map (·.Bib)).Nodup/\(f.map (·.Rank)).Nodup then 0 else 5) else 3) else 2
theorem wGV {f:List wAE}:wOY f=0 ↔ wJS f:=by
 unfold wOY
 constructor
 ·intro h
  by_cases h1:1 <= f.length/\f.length <= 60
  ·rw [if_pos h1] at h
   by_cases h2:f.all okF=true
   ·rw [if_pos h2] at h
    by_cases h3:(f.map (·.Bib)).Nodup/\(f.map (·.Rank)).Nodup
    ·have:=fun s hs=>nP.1 h2 s hs
     simp only [okF,okB,okN,okR,nJ,decide_eq_true_iff] at this
     exact ⟨h1.1,h1.2,fun s hs=>(this s hs).1,fun s hs=>(this s hs).2.2,fun s hs=>(this s hs).2.1,h3.1,h3.2⟩
    ·rw [if_neg h3] at h;omega
   ·rw [if_neg h2] at h;omega
  ·rw [if_neg h1] at h;omega
 ·intro G
  rw [if_pos ⟨G.l1,G.l2⟩,if_pos (nP.2 fun s hs=>by
   have h1:=G.bib s hs
   have h2:=G.nat s hs
   have h3:=G.rank s hs
   simp only [okF,okB,okN,okR,nJ,decide_eq_true_iff]
   exact ⟨h1,h2,h3⟩),if_pos ⟨G.bibs,G.ranks⟩]
theorem wKB {f:List wAE} (hl:f.length <= 1000):wBy f=some (wOY f):=by
 unfold wBy wOY
 rw [wIQ,nA]
 by_cases h1:1 <= f.length/\f.length <= 60
 case neg=>rw [if_neg h1,if_neg (by simp;omega)]
 rw [if_pos h1,if_pos (by simp;omega)]
 unfold wCM
 rw [nA]
 have hall:f.all okF=(f.all okB && (f.all okN && f.all okR)):=by
  rw [na]
  simp only [nJ,nP,okF]
  constructor
  ·exact fun h=>⟨fun s hs=>(h s hs).1,fun s hs=>(h s hs).2.1,fun s hs=>(h s hs).2.2⟩
  ·exact fun h s hs=>⟨h.1 s hs,h.2.1 s hs,h.2.2 s hs⟩
 have mB:(f.map (·.Bib)).all (fun x=>decide (1 <= x) && decide (x <= 999))=f.all okB:=by rw [np];rfl
 have mR:(f.map (·.Rank)).all (fun x=>decide (1 <= x) && decide (x <= 9999))=f.all okR:=by rw [np];rfl
 have mN:(f.map (·.Nation)).all (fun x=>decide (0 <= x) && decide (x <= 30))=f.all okN:=by rw [np];rfl
 rw [wHi (f:=wAX) (p:=(·.Bib)) (fun _=>rfl) _ _ hl,nA,wJR (by simpa using hl),nA,mB]
 rw [wHi (f:=wAY) (p:=(·.Rank)) (fun _=>rfl) _ _ hl,nA,wJR (by simpa using hl),nA,mR]
 rw [wHi (f:=wAf) (p:=(·.Nation)) (fun _=>rfl) _ _ hl,nA,wJR (by simpa using hl),nA,mN]
 rw [nA,wHh (by simpa using hl),nA,nA,wHh (by simpa using hl),nA,hall]
 cases f.all okB with
 | false=>rfl
 | true =>
  cases f.all okR with
  | false=>cases f.all okN <;> rfl
  | true =>
   cases f.all okN with
   | false=>rfl
   | true =>
    simp only [if_true,Bool.true_and]
    by_cases hb:(f.map (·.Bib)).Nodup
    ·by_cases hr:(f.map (·.Rank)).Nodup
     ·simp [hb,hr]
     ·simp [hb,hr]
    ·simp [hb]
theorem wKC {f:List wAE} (G:wJS f):wBy f=some 0:=by
 rw [wKB (by have:=G.l2;omega),wGV.2 G]
def toS (s:wAE):wAS:=⟨s.Bib,s.Nation,s.Rank⟩
theorem wNp {f:List wAE} (hl:f.length <= 1000):wBS f=some (f.map toS):=by
 unfold wBS
 rw [wHd (bytes:=24) (f:=toS) (fun a _ r=>by rw [wHe];rfl) (by omega) (by omega)]
 rfl
theorem wHB {f:List wAE} {k:Nat} (h:k < f.length):idx (f.map toS) (k:Int)=some (toS (gd f k)):=by
 rw [wDt (by simpa using h),wEf _ h]
theorem wIU {α:Type} [Inhabited α] {l:List α} {p:α->Int}:(l.map p).Nodup ↔ ∀ i,i < l.length->∀ j,j < i->p (gd l i) ≠ p (gd l j):=by
 rw [nG,nH]
 constructor
 ·intro h i hi j hj e
  have:=h j i (by simp;omega) (by simpa using hi) hj
  rw [nD,nD,<- wDP (by omega),<- wDP hi] at this
  exact this e.symm
 ·intro h i j hi hj hij e
  rw [nB] at hi hj
  rw [nD,nD,<- wDP hi,<- wDP hj] at e
  exact h j hj i hij e.symm
def dfr (f:List wAE) (i j:Nat):Bool:=!decide ((gd f i).Bib=(gd f j).Bib) && !decide ((gd f i).Rank=(gd f j).Rank)
theorem wPd {f:List wAE}:wHf (fun i=>wHf (dfr f i) i 0) f.length 0=decide ((f.map (·.Bib)).Nodup/\(f.map (·.Rank)).Nodup):=by
 rw [na,wCm,decide_eq_true_iff,wIU,wIU]
 have hd:∀ i j,dfr f i j=true ↔ (gd f i).Bib ≠ (gd f j).Bib/\(gd f i).Rank ≠ (gd f j).Rank:=fun i j=>by unfold dfr;simp
 constructor
 ·intro h
  have h2:=fun i (hi:i < f.length) j (hj:j < i)=>(hd i j).1 ((wCm _ _ _).1 (h i (by omega) (by omega)) j (by omega) (by omega))
  exact ⟨fun i hi j hj=>(h2 i hi j hj).1,fun i hi j hj=>(h2 i hi j hj).2⟩
 ·intro h i _ hi
  exact (wCm _ _ _).2 fun j _ hj=>(hd i j).2 ⟨h.1 i (by omega) j (by omega),h.2 i (by omega) j (by omega)⟩
theorem wIV {f:List wAE} (hl:f.length <= 1000):wBT (f.map toS)=some (wOY f):=by
 unfold wBT wOY
 rw [nB]
 by_cases h0:f.length=0
 ·rw [if_pos (by omega),if_neg (by omega)]
 rw [if_neg (by omega)]
 by_cases h60:60 < f.length
 ·rw [if_pos (by omega),if_neg (by omega)]
 rw [if_neg (by omega),if_pos (show 1 <= f.length/\f.length <= 60 by omega)]
 rw [wEA (fun i=>okF (gd f i)) 3 (by omega) (fun i hi=>by
  rw [wHB hi,nA,wFT,nA]
  simp only [wFT,nA,toS]
  have h:okF (gd f i)=true ↔ (1 <= (gd f i).Bib/\(gd f i).Bib <= 999)/\(0 <= (gd f i).Nation/\(gd f i).Nation <= 30)/\1 <= (gd f i).Rank/\(gd f i).Rank <= 9999:=by
   unfold okF okB okN okR
   simp
  generalize gd f i=s at h ⊢
  by_cases h1:(decide (s.Bib < 1) || decide (999 < s.Bib))=true
  ·refine (if_pos h1).trans ?_
   rw [if_neg (fun e=>by have:=h.1 e;simp at h1;omega)];rfl
  ·refine (if_neg h1).trans ?_
   by_cases h2:(decide (s.Nation < 0) || decide (30 < s.Nation))=true
   ·refine (if_pos h2).trans ?_
    rw [if_neg (fun e=>by have:=h.1 e;simp at h2;omega)];rfl
   ·refine (if_neg h2).trans ?_
    by_cases h3:(decide (s.Rank < 1) || decide (9999 < s.Rank))=true
    ·refine (if_pos h3).trans ?_
     rw [if_neg (fun e=>by have:=h.1 e;simp at h3;omega)];rfl
    ·refine (if_neg h3).trans ?_
     rw [if_pos (h.2 (by simp at h1 h2 h3;omega))])]
 rw [wHg]
 by_cases ha:wHf (fun k=>okF (gd f k)) f.length 0=true
 ·rw [if_pos ha,if_pos ha,wDS]
  rw [wEA (fun i=>wHf (dfr f i) i 0) 5 (by omega) (fun i hi=>by
   rw [wEA (dfr f i) (.inr 5) (by omega) (fun j hj=>by
    rw [wHB hi,nA,wHB (by omega),nA]
    unfold dfr
    by_cases e:(gd f i).Bib=(gd f j).Bib
    ·rw [if_pos (show (toS (gd f i)).Bib=(toS (gd f j)).Bib from e)];simp [e]
    ·rw [if_neg (show ¬ (toS (gd f i)).Bib=(toS (gd f j)).Bib from e)]
     by_cases e2:(gd f i).Rank=(gd f j).Rank
     ·rw [if_pos (show (toS (gd f i)).Rank=(toS (gd f j)).Rank from e2)];simp [e2]
     ·rw [if_neg (show ¬ (toS (gd f i)).Rank=(toS (gd f j)).Rank from e2)];simp [e,e2])]
   split <;> rfl),wPd]
  by_cases hd:(f.map (·.Bib)).Nodup/\(f.map (·.Rank)).Nodup
  ·rw [if_pos (by simpa using hd),if_pos hd];rfl
  ·rw [if_neg (by simpa using hd),if_neg hd];rfl
 ·rw [if_neg ha,if_neg ha];rfl
theorem wKi (a b:Int):wBg a b=some (if a < b then -1 else if b < a then 1 else 0):=by
 unfold wBg wBK
 simp only [not_true_eq_false,decide_false,nA,nq,if_false]
 split
 ·rfl
 ·split <;> rfl
def rk (f:List wAE) (i:Int):Int:=(gd f i.toNat).Rank
theorem wHj {f:List wAE} {a b:Int} (ha:0 <= a/\a < f.length) (hb:0 <= b/\b < f.length):wAo a b f=some (if rk f a < rk f b then -1 else if rk f b < rk f a then 1 else 0):=by
 unfold wAo
 have e:∀ {i:Int},0 <= i->i < f.length->idx f i=some (gd f i.toNat):=fun h1 h2=>by
  unfold idx
  rw [if_pos h1,wCK (by omega)]
 rw [e ha.1 ha.2,nA,e hb.1 hb.2,nA,wKi,wHe]
 rfl
theorem wOZ {f:List wAE} (G:wJS f) {a b:Int} (ha:0 <= a/\a < f.length) (hb:0 <= b/\b < f.length) (e:rk f a=rk f b):a=b:=by
 unfold rk at e
 have pw:=nH.1 G.ranks
 have hi:a.toNat < (f.map (·.Rank)).length:=by simp;omega
 have hj:b.toNat < (f.map (·.Rank)).length:=by simp;omega
 have e':(f.map (·.Rank))[a.toNat]=(f.map (·.Rank))[b.toNat]:=by
  rw [nD,nD,<- wDP (by omega),<- wDP (by omega)]
  exact e
 rcases Int.lt_trichotomy a b with c | c | c
 ·exact absurd e' (pw _ _ hi hj (by omega))
 ·exact c
 ·exact absurd e'.symm (pw _ _ hj hi (by omega))
def wEB (n:Nat):List Int:=(nM n).map fun (k:Nat)=>(k:Int)
theorem wMl (n:Nat):(wEB n).Pairwise (· < ·):=by
 unfold wEB
 rw [List.pairwise_map]
 exact List.pairwise_lt_range.imp fun h=>by omega
theorem wCw {n:Nat}:∀ i ∈ wEB n,0 <= i/\i < n:=by
 intro i hi
 obtain ⟨k,hk,e⟩:=List.mem_map.1 hi
 have:=List.mem_range.1 hk
 omega
structure Rk (f:List wAE) (r:List Int):Prop where
 perm:r.Perm (wEB f.length)
 ord:r.Pairwise fun a b=>rk f a < rk f b
theorem wMm {f:List wAE} (G:wJS f):∃ r,wBo f=some r/\Rk f r:=by
 unfold wBo
 have h1:=G.l1
 have h2:=G.l2
 rw [mkz,if_pos (by omega),nA]
 have e:=wCh (body:=fun (k24:Nat) (l23:List Int) =>
  (chk (↑k24:Int) l23.length).bind fun _ =>
  some (nV l23 k24 (↑k24:Int))) (n:=f.length) (s0:=nN (f.length:Int).toNat 0) (fun k=>wEB k ++ nN (f.length - k) 0) (by simp [wEB]) (by omega) (fun i hi=>by
   have hl:(wEB i ++ nN (f.length - i) (0:Int)).length=f.length:=by simp [wEB];omega
   rw [wEo (by omega) (by omega),nA]
   congr 1
   have hn:(wEB i).length=i:=by simp [wEB]
   rw [List.set_append_right _ _ (by omega),hn,Nat.sub_self,show f.length - i=(f.length - (i + 1)) + 1 by omega,List.replicate_succ,List.set_cons_zero]
   have:wEB (i + 1)=wEB i ++ [(i:Int)]:=by unfold wEB;rw [nb,nL];rfl
   rw [this,List.append_assoc]
   rfl)
 rw [e,nA]
 simp only [Nat.sub_self,List.replicate_zero,List.append_nil]
 have C:Cmp (fun x:Int × Int=>wAo x.1 x.2 f) (wEB f.length):=by
  have lt:∀ x ∈ wEB f.length,∀ y ∈ wEB f.length,ltB (fun x:Int × Int=>wAo x.1 x.2 f) x y=decide (rk f x < rk f y):=fun x hx y hy=>by
   unfold ltB
   simp only
   rw [wHj (wCw x hx) (wCw y hy)]
   by_cases c:rk f x < rk f y
   ·simp [c]
   ·by_cases c2:rk f y < rk f x <;> simp [c,c2]
  refine ⟨by simp [wEB];omega,fun x hx y hy=>by simp only;rw [wHj (wCw x hx) (wCw y hy)];rfl,fun x hx=>by rw [lt x hx x hx];simp,fun x hx y hy z hz a b=>?_,fun x hx y hy z hz a b=>?_,fun x hx y hy a b=>?_⟩
  ·rw [lt x hx y hy] at a;rw [lt y hy z hz] at b;rw [lt x hx z hz]
   simp at a b ⊢;omega
  ·rw [lt x hx y hy] at a;rw [lt y hy z hz] at b;rw [lt x hx z hz]
   simp at a b ⊢;omega
  ·rw [lt x hx y hy] at a;rw [lt y hy x hx] at b
   simp at a b
   exact wOZ G (wCw x hx) (wCw y hy) (by omega)
 unfold wBe
 rw [wNR C,nA]
 refine ⟨_,rfl,nk _ _,?_⟩
 have hp:=nk (wEB f.length) fun x y=>!ltB (fun x:Int × Int=>wAo x.1 x.2 f) y x
 have lt:∀ x ∈ wEB f.length,∀ y ∈ wEB f.length,ltB (fun x:Int × Int=>wAo x.1 x.2 f) x y=decide (rk f x < rk f y):=fun x hx y hy=>by
  unfold ltB
  simp only
  rw [wHj (wCw x hx) (wCw y hy)]
  by_cases c:rk f x < rk f y
  ·simp [c]
  ·by_cases c2:rk f y < rk f x <;> simp [c,c2]
 rw [wEh (le':=fun x y=>decide (rk f x <= rk f y)) (wEB f.length) (fun x hx y hy=>by
  rw [lt y hy x hx,<- decide_not]
  exact decide_eq_decide.2 (by omega))] at hp ⊢
 have so:=List.pairwise_mergeSort (le:=fun x y:Int=>decide (rk f x <= rk f y)) (fun a b c h1 h2=>by simp at h1 h2 ⊢;omega) (fun a b=>by simp;omega) (wEB f.length)
 have nd:((wEB f.length).mergeSort fun x y=>decide (rk f x <= rk f y)).Pairwise (· ≠ ·):=nG.1 (hp.nodup_iff.2 (nG.2 ((wMl _).imp fun h=>by omega)))
 refine (so.and nd).imp_of_mem fun {a b} ha hb h=>?_
 have h1:rk f a <= rk f b:=by simpa using h.1
 have h2:rk f a ≠ rk f b:=fun e=>h.2 (wOZ G (wCw a (hp.mem_iff.1 ha)) (wCw b (hp.mem_iff.1 hb)) e)
 omega
end Go.Proofs.YtghaibkggdecnaaGreat
namespace Go.Proofs.YtghaibkggdecnaaGreat
open Go.KL
theorem wGW {f:List wAE} {r:List Int} (h:Rk f r) {k:Nat} (hk:k < f.length):r.length=f.length/\0 <= gd r k/\gd r k < f.length:=by
 have hl:r.length=f.length:=by rw [h.perm.length_eq];simp [wEB]
 have:=wCw _ (h.perm.mem_iff.1 (wJO (l:=r) (k:=k) (by omega)))
 exact ⟨hl,this⟩
theorem wNq {f:List wAE} {r:List Int} (R:Rk f r) {j:Nat} (hj:j < f.length):(wEB f.length).countP (fun i=>decide (rk f i < rk f (gd r j)))=j:=by
 have hl:r.length=f.length:=(wGW R hj).1
 have pw:=nH.1 R.ord
 have lt:∀ a b,a < b->b < r.length->rk f (gd r a) < rk f (gd r b):=fun a b h1 h2=>by
  have:=pw a b (by omega) h2 h1
  rwa [<- wDP (by omega),<- wDP h2] at this
 rw [<- R.perm.countP_eq]
 conv=>lhs;arg 2;rw [<- nY j r]
 rw [nr,List.countP_eq_length.2 (fun x hx=>by
  obtain ⟨i,hi,e⟩:=wIS hx
  rw [nW] at hi
  rw [wQv (by omega) (by omega)] at e
  have:=lt i j (by omega) (by omega)
  rw [e] at this
  simpa using this),List.countP_eq_zero.2 (fun x hx=>by
  obtain ⟨i,hi,e⟩:=wIS hx
  rw [nO] at hi
  rw [wPc (by omega)] at e
  rcases Nat.eq_zero_or_pos i with h | h
  ·subst h
   rw [Nat.add_zero] at e
   rw [e];simp
  ·have:=lt j (j + i) (by omega) (by omega)
   rw [e] at this
   simp;omega),nW]
 omega
theorem wIW {f:List wAE} (G:wJS f) {r:List Int} (R:Rk f r):wBB (f.map toS)=some (r,0):=by
  unfold wBB
  have h1:=G.l1
  have h2:=G.l2
  have hrl:r.length=f.length:=(wGW R (k:=0) (by omega)).1
  rw [wIV (by omega),wGV.2 G,nA,if_pos rfl,nB,mkz,if_pos (by omega),nA]
  have inner:∀ k,k < f.length->wBx 0 (↑f.length:Int) (fun k54 x53 =>
        (idx (f.map toS) (↑k54:Int)).bind fun x78 =>
        (idx (f.map toS) (↑k:Int)).bind fun x88 =>
        if x78.Rank < x88.Rank then
          some (w64 (x53 + 1))
        else
          some x53) 0=some (((wEB f.length).countP (fun i=>decide (rk f i < rk f (k:Int))):Nat):Int):=by
    intro k hk
    refine wCh (fun n=>(((wEB n).countP (fun i=>decide (rk f i < rk f (k:Int))):Nat):Int)) rfl (by omega) (fun i hi=>?_)
    have hc:=List.countP_le_length (p:=fun i=>decide (rk f i < rk f (k:Int))) (l:=wEB i)
    have hn:(wEB i).length=i:=by simp [wEB]
    have hs:wEB (i + 1)=wEB i ++ [(i:Int)]:=by unfold wEB;rw [nb,nL];rfl
    have er:∀ q:Nat,rk f (q:Int)=(gd f q).Rank:=fun q=>rfl
    rw [wHB hi,nA,wHB hk,nA,hs,nr]
    by_cases c:(gd f i).Rank < (gd f k).Rank
    · rw [if_pos (show (toS (gd f i)).Rank < (toS (gd f k)).Rank from c),wAe (by omega) (by omega)]
      simp [er,c]
    · rw [if_neg (show ¬ (toS (gd f i)).Rank < (toS (gd f k)).Rank from c)]
      simp [er,c]
  obtain ⟨s',e',hs⟩:=wIR (body:=fun (k27:Nat) (l26:List Int) =>
      (wBx 0 (↑f.length:Int) (fun k54 x53 =>
        (idx (f.map toS) (↑k54:Int)).bind fun x78 =>
        (idx (f.map toS) (↑k27:Int)).bind fun x88 =>
        if x78.Rank < x88.Rank then
          some (w64 (x53 + 1))
        else
          some x53) 0).bind fun y59 =>
      (chk y59 l26.length).bind fun _ =>
      some (nV l26 y59.toNat (↑k27:Int))) (n:=f.length) (s0:=nN (f.length:Int).toNat 0)
      (fun k s=>s.length=f.length/\∀ j,j < f.length->gd r j < k->gd s j=gd r j) (by omega) ⟨by simp,fun j hj h=>by have:=(wGW R hj).2.1;omega⟩ (by
      rintro k s hk ⟨q1,q2⟩
      have hmem:(k:Int) ∈ r:=R.perm.mem_iff.2 (List.mem_map.2 ⟨k,List.mem_range.2 hk,rfl⟩)
      obtain ⟨j,hj,ej⟩:=wIS hmem
      have hc:=wNq R (j:=j) (by omega)
      rw [ej] at hc
      rw [inner k hk,hc,nA,wEo (by omega) (by omega),nA]
      refine ⟨_,rfl,by simpa using q1,fun i hi hlt=>?_⟩
      rw [Int.toNat_natCast,wQu (by omega) (by omega)]
      by_cases c:i=j
      · subst c;rw [if_pos rfl,ej]
      · rw [if_neg c]
        refine q2 i hi ?_
        have:gd r i ≠ (k:Int):=fun e=>by
          have nd:r.Nodup:=R.perm.nodup_iff.2 (nG.2 ((wMl _).imp fun h=>by omega))
          have pw:=nH.1 (nG.1 nd)
          rcases Nat.lt_or_gt_of_ne c with h | h
          · have:=pw i j (by omega) hj h
            rw [<- wDP (by omega),<- wDP hj] at this
            exact this (e.trans ej.symm)
          · have:=pw j i hj (by omega) h
            rw [<- wDP hj,<- wDP (by omega)] at this
            exact this (ej.trans e.symm)
        omega)
  rw [e',nA]
  congr 2
  refine wQt (by omega) fun k hk=>hs.2 k (by omega) ?_
  have:=(wGW R (k:=k) (by omega)).2
  omega
end Go.Proofs.YtghaibkggdecnaaGreat
namespace Go.Proofs.YtghaibkggdecnaaGreat
open Go.KL
def wPe (w:Int) (s:List Int × Int):List Int × Int :=
 let a:=if 1 <= gd s.1 0 + s.2/\gd s.1 0 + s.2 <= w then s.1 ++ [gd s.1 0 + s.2] else s.1
 (if 1 <= gd s.1 0 - s.2/\gd s.1 0 - s.2 <= w then a ++ [gd s.1 0 - s.2] else a,s.2 + 1)
def wEz (w:Int):Nat->List Int × Int
 | 0=>([(w + 1).tdiv 2],1)
 | i + 1=>wPe w (wEz w i)
def wEH (w:Nat):List Int:=(wEz w (w / 2)).1
def far (w:Nat) (x:Int):Int:=max (2 * x - w - 1) (w + 1 - 2 * x)
structure LnP (w:Nat):Prop where
 len:(wEH w).length=w
 rng:∀ x ∈ wEH w,1 <= x/\x <= w
 one:(wEH w).Nodup
 out:∀ k,k < w - 1->far w (gd (wEH w) k) <= far w (gd (wEH w) (k + 1))
 rnd:∀ i,i < w / 2->((wEz w i).1.length:Int) < w
 num:∀ i,i <= w / 2->(wEz w i).2=i + 1/\(wEz w i).1.length <= 40/\1 <= (wEz w i).1.length/\gd (wEz w i).1 0=((w:Int) + 1).tdiv 2
instance (w:Nat):Decidable (LnP w) :=
 decidable_of_iff ((wEH w).length=w/\(∀ x ∈ wEH w,1 <= x/\x <= w)/\(wEH w).Nodup/\(∀ k,k < w - 1->far w (gd (wEH w) k) <= far w (gd (wEH w) (k + 1)))/\(∀ i,i < w / 2->((wEz w i).1.length:Int) < w)/\(∀ i,i < w / 2 + 1->(wEz w i).2=i + 1/\(wEz w i).1.length <= 40/\1 <= (wEz w i).1.length/\gd (wEz w i).1 0=((w:Int) + 1).tdiv 2))
  ⟨fun ⟨a,b,c,d,e,f⟩=>⟨a,b,c,d,e,fun i hi=>f i (by omega)⟩,fun ⟨a,b,c,d,e,f⟩=>⟨a,b,c,d,e,fun i hi=>f i (by omega)⟩⟩
theorem wIX:∀ w,w < 21->1 <= w->LnP w:=by decide
def bx (f:List wAE) (w:Nat) (r:List Int) (k:Nat):wBQ:=⟨(gd f (gd r k).toNat).Bib,((k / w:Nat):Int) + 1,gd (wEH w) (k % w)⟩
theorem wMn {w:Nat} (w1:1 <= w) (w2:w <= 20) {i:Nat} (hi:i < w / 2):((chk 0 (wEz w i).1.length).bind fun _ =>
          (wBx 0 2 (fun k87 l84 =>
            (idx ([w64 ((gd (wEz w i).1 0) + (wEz w i).2),w64 ((gd (wEz w i).1 0) - (wEz w i).2)]:List Int) (↑k87:Int)).bind fun x110 =>
            (wBM x110 1 w).bind fun x113 =>
            if x113=true then
              (app 8 l84 [x110]).bind fun x130 =>
              some x130
            else
              some l84) (wEz w i).1).bind fun y92 =>
          some (Sum.inl (β:=List wBQ × Int) (y92,w64 ((wEz w i).2 + 1))))=some (.inl (wEz w (i + 1))):=by
  have L:=wIX w (by omega) w1
  obtain ⟨n1,n2,n3,n4⟩:=L.num i (by omega)
  have hd:((w:Int) + 1).tdiv 2=(w + 1) / 2:=nE (by omega)
  have hm:0 <= gd (wEz w i).1 0/\gd (wEz w i).1 0 <= 20:=by rw [n4,hd];omega
  have e2:(wEz w (i + 1))=wPe w (wEz w i):=rfl
  rw [e2]
  unfold wPe
  generalize wEz w i=s at n1 n2 n3 hm ⊢
  obtain ⟨l,x⟩:=s
  simp only at n1 n2 n3 hm ⊢
  subst n1
  rw [wEo (by omega) (by omega),nA,wAe (by omega) (by omega),wAe (by omega) (by omega),wAe (by omega) (by omega)]
  unfold wBx
  rw [if_pos (by decide)]
  show ((forN' _ 2 0 _).bind _)=_
  generalize gd l 0=m at hm
  have i0:idx [m + ((i:Int) + 1),m - ((i:Int) + 1)] ((0:Nat):Int)=some (m + ((i:Int) + 1)):=rfl
  have i1:idx [m + ((i:Int) + 1),m - ((i:Int) + 1)] ((0 + 1:Nat):Int)=some (m - ((i:Int) + 1)):=rfl
  have ca:∀ (y:Int),(decide (1 <= y) && decide (y <= (w:Int)))=true ↔ 1 <= y/\y <= w:=fun y=>by simp
  simp only [forN',i0,i1,nA,wIQ,ca]
  by_cases c1:1 <= m + ((i:Int) + 1)/\m + ((i:Int) + 1) <= w
  · simp only [if_pos c1]
    rw [wCl (by simp;omega)]
    simp only [nA]
    by_cases c2:1 <= m - ((i:Int) + 1)/\m - ((i:Int) + 1) <= w
    · simp only [if_pos c2]
      rw [wCl (by simp;omega)]
      rfl
    · simp only [if_neg c2]
      rfl
  · simp only [if_neg c1]
    by_cases c2:1 <= m - ((i:Int) + 1)/\m - ((i:Int) + 1) <= w
    · simp only [if_pos c2]
      rw [wCl (by simp;omega)]
      rfl
    · simp only [if_neg c2]
      rfl
theorem wNr {f:List wAE} (G:wJS f) {r:List Int} (hr:wBo f=some r) (R:Rk f r) {w:Nat} (w1:1 <= w) (w2:w <= 20):wBc f w=some ((nM f.length).map (bx f w r),0):=by
  unfold wBc
  have L:=wIX w (by omega) w1
  have h2:=G.l2
  have hrl:r.length=f.length:=by rw [R.perm.length_eq];simp [wEB]
  rw [wKC G,nA,if_pos rfl,wIQ,nA,if_pos (by simp;omega),quo,if_neg (by decide),nA]
  have hd:((w:Int) + 1).tdiv 2=(w + 1) / 2:=nE (by omega)
  rw [wAe (x:=(w:Int) + 1) (by omega) (by omega),wAe (x:=((w:Int) + 1).tdiv 2) (by omega) (by omega)]
  have e0:(([((w:Int) + 1).tdiv 2],1):List Int × Int)=wEz w 0:=rfl
  refine wJQ (m:=w / 2) (wEz w) (fun i hi=>?_) ?_ e0.symm (by omega)
  · simp only
    rw [if_pos (L.rnd i hi)]
    exact wMn w1 w2 hi
  · have hlen:(wEz w (w / 2)).1.length=w:=L.len
    simp only
    rw [if_neg (by omega),hr,nA]
    have e1:(wEz w (w / 2)).1=wEH w:=rfl
    rw [e1]
    have:=wCh (body:=fun (k204:Nat) (l200:List wBQ) =>
            (chk (↑k204:Int) r.length).bind fun _ =>
            (idx f (gd r k204)).bind fun x237 =>
            (quo (↑k204:Int) w).bind fun x246 =>
            (rem (↑k204:Int) w).bind fun x249 =>
            (chk x249 (wEH w).length).bind fun _ =>
            (app 24 l200 [(⟨x237.Bib,w64 (x246 + 1),(gd (wEH w) x249.toNat)⟩:wBQ)]).bind fun x262 =>
            some x262) (n:=r.length) (s0:=[]) (fun k=>(nM k).map (bx f w r)) rfl (by omega) (fun i hi=>by
        obtain ⟨_,g0,g1⟩:=wGW R (k:=i) (by omega)
        have hmod:=Nat.mod_lt i w1
        have hdiv:=Nat.div_le_self i w
        have et:(i:Int).tmod (w:Int)=((i % w:Nat):Int):=by
          rw [nQ (by omega)];simp
        have ed:(i:Int).tdiv (w:Int)=((i / w:Nat):Int):=by
          rw [nE (by omega)];simp
        have ei:idx f (gd r i)=some (gd f (gd r i).toNat):=by
          unfold idx
          rw [if_pos g0,wCK (by omega)]
        have ll:=L.len
        have q0:(0:Int) <= ((i / w:Nat):Int):=Int.natCast_nonneg _
        have q1:((i / w:Nat):Int) <= (i:Int):=Int.ofNat_le.2 hdiv
        have q2:w64 ((i / w:Nat):Int)=((i / w:Nat):Int):=wAe (nc (by decide) q0) (nc q1 (by omega))
        have q3:w64 (((i / w:Nat):Int) + 1)=((i / w:Nat):Int) + 1:=wAe (nc (by decide) (Int.le_add_of_nonneg_left q0)) (nc (Int.add_le_add_right q1 1) (by omega))
        rw [wEo (by omega) (by omega),nA,ei,nA,quo,if_neg (by omega),nA,rem,if_neg (by omega),nA,et,ed,q2,q3,wEo (by omega) (by omega),nA,wCl (by simp;omega),nA,nb,nL]
        rfl)
    rw [this,nA,hrl]
    rfl
theorem wNs:∀ w,w < 21->1 <= w->∀ p,p < w->gd (wEH w) p=if p % 2=1 then (((w + 1) / 2:Nat):Int) + (((p + 1) / 2:Nat):Int) else (((w + 1) / 2:Nat):Int) - ((p / 2:Nat):Int):=by decide
def toX (b:wBQ):wAP:=⟨b.Bib,b.Row,b.Lane⟩
theorem wNt {f:List wAE} (G:wJS f) {r:List Int} (R:Rk f r) {w:Nat} (w1:1 <= w) (w2:w <= 20):wAq (f.map toS) w=some (((nM f.length).map (bx f w r)).map toX,0):=by
  unfold wAq
  have h2:=G.l2
  have hrl:r.length=f.length:=(wGW R (k:=0) (by have:=G.l1;omega)).1
  rw [wIW G R,nA]
  simp only [if_true]
  rw [wFT,nA,if_neg (by simp;omega)]
  have:=wCh (body:=fun (k49:Nat) (l45:List wAP) =>
        (rem (↑k49:Int) w).bind fun x73 =>
        (quo (w64 ((w:Int) + 1)) 2).bind fun x76 =>
        (rem x73 2).bind fun x79 =>
        if x79=1 then
          (quo (w64 (x73 + 1)) 2).bind fun x84 =>
          (chk (↑k49:Int) r.length).bind fun _ =>
          (idx (f.map toS) (gd r k49)).bind fun x94 =>
          (quo (↑k49:Int) w).bind fun x104 =>
          (app 24 l45 [(⟨x94.Bib,w64 (x104 + 1),w64 (x76 + x84)⟩:wAP)]).bind fun x112 =>
          some x112
        else
          (quo x73 2).bind fun x124 =>
          (chk (↑k49:Int) r.length).bind fun _ =>
          (idx (f.map toS) (gd r k49)).bind fun x134 =>
          (quo (↑k49:Int) w).bind fun x144 =>
          (app 24 l45 [(⟨x134.Bib,w64 (x144 + 1),w64 (x76 - x124)⟩:wAP)]).bind fun x152 =>
          some x152) (n:=r.length) (s0:=[]) (fun k=>((nM k).map (bx f w r)).map toX) rfl (by omega) (fun i hi=>by
      obtain ⟨_,g0,g1⟩:=wGW R (k:=i) (by omega)
      obtain ⟨q,hq⟩:=ng g0
      have hmod:=Nat.mod_lt i w1
      have hdiv:=Nat.div_le_self i w
      have ei:idx (f.map toS) (gd r i)=some (toS (gd f (gd r i).toNat)):=by
        rw [hq,wHB (by omega)];rfl
      have hlane:=wNs w (by omega) w1 (i % w) hmod
      have et:(i:Int).tmod (w:Int)=((i % w:Nat):Int):=by
        rw [nQ (by omega)];simp
      have ed:(i:Int).tdiv (w:Int)=((i / w:Nat):Int):=by
        rw [nE (by omega)];simp
      generalize hp:i % w=p at *
      generalize hd':i / w=d at *
      have t2:((p:Nat):Int).tmod 2=((p % 2:Nat):Int):=by rw [nQ (by omega)];simp
      have d1:((w:Int) + 1).tdiv 2=(((w + 1) / 2:Nat):Int):=by rw [nE (by omega)];simp
      have d2:((p:Int) + 1).tdiv 2=(((p + 1) / 2:Nat):Int):=by rw [nE (by omega)];simp
      have d3:((p:Nat):Int).tdiv 2=((p / 2:Nat):Int):=by rw [nE (by omega)];simp
      have hb:bx f w r i=⟨(gd f (gd r i).toNat).Bib,(d:Int) + 1,gd (wEH w) p⟩:=by unfold bx;rw [hp,hd']
      have quo_ok:∀ (a b:Int),b ≠ 0->-1000 <= a.tdiv b->a.tdiv b <= 1000->quo a b=some (a.tdiv b):=fun a b h1 h2 h3=>by
        unfold quo
        rw [if_neg h1,wAe (by omega) (by omega)]
      rw [rem,if_neg (by omega),nA,et,wAe (x:=(w:Int) + 1) (by omega) (by omega),quo_ok _ _ (by decide) (by rw [d1];omega) (by rw [d1];omega),nA,d1,rem,if_neg (by decide),nA,t2]
      have happ:∀ z:wAP,app 24 (((nM i).map (bx f w r)).map toX) [z]=some (((nM i).map (bx f w r)).map toX ++ [z]):=fun z=>wCl (by simp;omega)
      have hout:∀ z:wAP,z=toX (bx f w r i)->some (((nM i).map (bx f w r)).map toX ++ [z])=some (((nM (i + 1)).map (bx f w r)).map toX):=fun z hz=>by
        rw [nb,nL,nL,hz];rfl
      by_cases c:p % 2=1
      · rw [if_pos (by omega),wAe (x:=(p:Int) + 1) (by omega) (by omega),quo_ok _ _ (by decide) (by rw [d2];omega) (by rw [d2];omega),d2,nA,wEo (by omega) (by omega),nA,ei,nA,quo_ok _ _ (by omega) (by rw [ed];omega) (by rw [ed];omega),ed,nA,wAe (by omega) (by omega),wAe (by omega) (by omega),happ,nA]
        refine hout _ ?_
        rw [hb,hlane,if_pos c]
        rfl
      · rw [if_neg (by omega),quo_ok _ _ (by decide) (by rw [d3];omega) (by rw [d3];omega),d3,nA,wEo (by omega) (by omega),nA,ei,nA,quo_ok _ _ (by omega) (by rw [ed];omega) (by rw [ed];omega),ed,nA,wAe (by omega) (by omega),wAe (by omega) (by omega),happ,nA]
        refine hout _ ?_
        rw [hb,hlane,if_neg c]
        rfl)
  rw [this,nA,hrl]
end Go.Proofs.YtghaibkggdecnaaGreat
namespace Go.Proofs.YtghaibkggdecnaaGreat
open Go.KL
end Go.Proofs.YtghaibkggdecnaaGreat
namespace Go.Proofs.YtghaibkggdecnaaGreat
open Go.KL
def okS (s:wAA):Bool:=(decide (1 <= s.Bib) && decide (s.Bib <= 999)) && ((decide (0 <= s.Time) && decide (s.Time <= 360000)) && (decide (0 <= s.Gate) && decide (s.Gate <= 60)))
theorem wJT (s:wAA):okS s=true ↔ (1 <= s.Bib/\s.Bib <= 999)/\(0 <= s.Time/\s.Time <= 360000)/\0 <= s.Gate/\s.Gate <= 60:=by
 unfold okS
 simp
theorem wMo (s:wAA):wBA s=some (okS s):=by
 unfold wBA okS
 simp only [wIQ,nA]
 by_cases h:(decide (1 <= s.Bib) && decide (s.Bib <= 999))=true
 ·rw [h]
  by_cases h2:(decide (0 <= s.Time) && decide (s.Time <= 360000))=true
  ·rw [h2];simp
  ·have:(decide (0 <= s.Time) && decide (s.Time <= 360000))=false:=by simpa using h2
   rw [this];simp
 ·have:(decide (1 <= s.Bib) && decide (s.Bib <= 999))=false:=by simpa using h
  rw [this];simp
theorem wPf {l:List wAA} {f:wAA->Option Bool} {p:wAA->Bool} (hf:∀ a,f a=some (p a)) (hn:l.length <= 1000):wBC l f=some (l.all p):=by
 unfold wBC
 rw [wJw (p:=p) (z:=false) (fun a _=>by rw [hf,nA];split <;> rfl) (by omega)]
 cases l.all p <;> rfl
theorem wPg (a b:Int):wBp a b=some (decide (a < b)):=by
 unfold wBp wBK
 simp
instance ascInt (l:List Int):Decidable (∀ k,k + 1 < l.length->gd l k <= gd l (k + 1)) :=
 decidable_of_iff (∀ k,k < l.length - 1->gd l k <= gd l (k + 1)) ⟨fun h k hk=>h k (by omega),fun h k hk=>h k (by omega)⟩
theorem wMp {l:List Int} (hl:l.length <= 1000):wAy l=some (decide (∀ k,k + 1 < l.length->gd l k <= gd l (k + 1))):=by
 unfold wAy
 rw [wAe (by omega) (by omega)]
 have key:∀ (m F:Nat) (x:Int),x=(m:Int) - 1->m <= l.length->(∀ k,m <= k + 1->k + 1 < l.length->gd l k <= gd l (k + 1))->m < F->iter (fun x4 =>
  if 0 < x4 then
   (idx l x4).bind fun x21 =>
   (idx l (w64 (x4 - 1))).bind fun x29 =>
   (wBp x21 x29).bind fun x36 =>
   if x36=true then
    esc (some false)
   else
    some (.inl (w64 (x4 - 1)))
  else
   esc (some true)) F x=some (decide (∀ k,k + 1 < l.length->gd l k <= gd l (k + 1))):=by
  intro m
  induction m with
  | zero =>
   intro F x hx _ h hF
   obtain ⟨F,rfl⟩:∃ G,F=G + 1:=⟨F - 1,by omega⟩
   rw [iter,if_neg (by omega)]
   have:(∀ k,k + 1 < l.length->gd l k <= gd l (k + 1)):=fun k hk=>h k (by omega) hk
   simp only [wFa,decide_eq_true this]
  | succ m ih =>
   intro F x hx hm h hF
   obtain ⟨F,rfl⟩:∃ G,F=G + 1:=⟨F - 1,by omega⟩
   rw [iter]
   by_cases c:0 < x
   ·obtain ⟨j,rfl⟩:∃ j,m=j + 1:=⟨m - 1,by omega⟩
    have ex:x=((j + 1:Nat):Int):=by omega
    rw [if_pos c,wAe (x:=x - 1) (by omega) (by omega),show x - 1=(j:Int) by omega,ex,wDt (by omega),nA,wDt (by omega),nA,wPg,nA]
    by_cases c2:gd l (j + 1) < gd l j
    ·have:¬ (∀ k,k + 1 < l.length->gd l k <= gd l (k + 1)):=fun hh=>by have:=hh j (by omega);omega
     rw [if_pos (by simpa using c2)]
     simp only [wFa,decide_eq_false this]
    ·rw [if_neg (by simpa using c2)]
     simp only
     refine ih F _ (by omega) (by omega) (fun k h1 h2=>?_) (by omega)
     by_cases e:k=j
     ·subst e;omega
     ·exact h k (by omega) h2
   ·rw [if_neg c]
    have:(∀ k,k + 1 < l.length->gd l k <= gd l (k + 1)):=fun k hk=>h k (by omega) hk
    simp only [wFa,decide_eq_true this]
 exact key l.length big _ rfl (nU _) (fun k h1 h2=>by omega) (by unfold big;omega)
def Asc (l:List wAA):Prop:=∀ k,k + 1 < l.length->(gd l k).Time <= (gd l (k + 1)).Time
instance (l:List wAA):Decidable (Asc l) :=
 decidable_of_iff (∀ k,k < l.length - 1->(gd l k).Time <= (gd l (k + 1)).Time) ⟨fun h k hk=>h k (by omega),fun h k hk=>h k (by omega)⟩
def wKD (l:List wAA):Int:=if 60 < l.length then 2 else if l.all okS then (if (l.map (·.Bib)).Nodup then (if Asc l then 0 else 4) else 5) else 3
theorem wFU {l:List wAA} (hl:l.length <= 1000):wBX l=some (wKD l):=by
 unfold wBX
 have e:(wBx 0 (↑l.length:Int) (fun k33 (l25,l29) =>
  ((idx l (↑k33:Int)).bind fun x70 =>
  (app 8 l25 [x70.Bib]).bind fun x90 =>
  (app 8 l29 [x70.Time]).bind fun x103 =>
  some (x90,x103)).bind fun (l61,l64) =>
  some (l61,l64)) (([]:List Int),([]:List Int)))=some (l.map (·.Bib),l.map (·.Time)):=by
  have:=wCh (body:=fun (k33:Nat) ((l25,l29):List Int × List Int) =>
   ((idx l (↑k33:Int)).bind fun x70 =>
   (app 8 l25 [x70.Bib]).bind fun x90 =>
   (app 8 l29 [x70.Time]).bind fun x103 =>
   some (x90,x103)).bind fun (l61,l64) =>
   some (l61,l64)) (n:=l.length) (s0:=(([]:List Int),([]:List Int))) (fun k=>((l.take k).map (·.Bib),(l.take k).map (·.Time))) rfl (by omega) (by
    intro i hi
    simp only
    rw [wDt hi,nA,wCl (by simp;omega),nA,wCl (by simp;omega),nA,nA,wEe hi]
    simp)
  rw [nX] at this
  exact this
 rw [e,nA]
 simp only
 unfold wKD
 by_cases h60:60 < l.length
 ·rw [if_pos (by omega),if_pos h60]
 rw [if_neg (by omega),if_neg h60,wPf wMo hl,nA]
 by_cases ha:l.all okS=true
 ·rw [if_pos ha,if_pos ha,wHh (by simpa using hl),nA]
  by_cases hd:(l.map (·.Bib)).Nodup
  ·rw [if_neg (by simpa using hd),if_pos hd,wMp (by simpa using hl),nA]
   have:(∀ k,k + 1 < (l.map (·.Time)).length->gd (l.map (·.Time)) k <= gd (l.map (·.Time)) (k + 1)) ↔ Asc l:=by
    unfold Asc
    rw [nB]
    constructor
    ·intro h k hk
     have:=h k hk
     rwa [wEf _ (by omega),wEf _ hk] at this
    ·intro h k hk
     rw [wEf _ (by omega),wEf _ hk]
     exact h k hk
   simp only [this]
   by_cases hs:Asc l <;> simp [hs]
  ·rw [if_pos (by simpa using hd),if_neg hd]
 ·rw [if_neg ha,if_neg ha]
structure wNu (l:List wAA):Prop where
 len:l.length <= 60
 ok:∀ s ∈ l,(1 <= s.Bib/\s.Bib <= 999)/\(0 <= s.Time/\s.Time <= 360000)/\0 <= s.Gate/\s.Gate <= 60
 one:(l.map (·.Bib)).Nodup
 asc:Asc l
theorem wGX {l:List wAA}:wKD l=0 ↔ wNu l:=by
 unfold wKD
 constructor
 ·intro h
  by_cases h60:60 < l.length
  ·simp [h60] at h
  rw [if_neg h60] at h
  by_cases ha:l.all okS=true
  ·rw [if_pos ha] at h
   by_cases hd:(l.map (·.Bib)).Nodup
   ·rw [if_pos hd] at h
    by_cases hs:Asc l
    ·exact ⟨by omega,fun s hs=>(wJT s).1 (nP.1 ha s hs),hd,hs⟩
    ·rw [if_neg hs] at h;omega
   ·rw [if_neg hd] at h;omega
  ·rw [if_neg ha] at h;omega
 ·intro h
  rw [if_neg (by have:=h.len;omega),if_pos (nP.2 fun s hs=>(wJT s).2 (h.ok s hs)),if_pos h.one,if_pos h.asc]
theorem wOa {l:List wAA} (h:Asc l):∀ {j i:Nat},i <= j->j < l.length->(gd l i).Time <= (gd l j).Time
 | 0,i,h1,_=>by
  have:i=0:=by omega
  subst this;exact Int.le_refl _
 | j + 1,i,h1,h2=>by
  by_cases e:i=j + 1
  ·subst e;exact Int.le_refl _
  ·exact nc (wOa h (show i <= j by omega) (by omega)) (h j h2)
theorem wQw {l:List wAA} {k:Nat} (h:k < l.length):gd l k ∈ l:=wJO h
theorem wJU {l:List wAA} {f:wAA->Option Bool} {p:wAA->Bool} (hf:∀ a ∈ l,f a=some (p a)) (hn:l.length <= 1000):wAI l f=some (first p l 0):=by
 unfold wAI
 exact wHA (p:=p) hf (by omega) id
theorem wEi {l:List wAA} (hl:l.length <= 1000):wAG l=some l:=by
 unfold wAG
 rw [wCl (by simp;omega)];rfl
theorem wMq {l:List wAA} (h:(l.map (·.Bib)).Nodup) {i j:Nat} (hi:i < l.length) (hj:j < l.length) (e:(gd l i).Bib=(gd l j).Bib):i=j:=by
 have hi':i < (l.map (·.Bib)).length:=by simpa using hi
 have hj':j < (l.map (·.Bib)).length:=by simpa using hj
 have e':(l.map (·.Bib))[i]=(l.map (·.Bib))[j]:=by
  rw [nD,nD,<- wDP hi,<- wDP hj]
  exact e
 have pw:=nH.1 h
 rcases Nat.lt_trichotomy i j with c | c | c
 ·exact absurd e' (pw i j hi' hj' c)
 ·exact c
 ·exact absurd e'.symm (pw j i hj' hi' c)
end Go.Proofs.YtghaibkggdecnaaGreat
namespace Go.Proofs.YtghaibkggdecnaaGreat
open Go.KL
def tks (l:List wAA) (x:Int):Bool:=l.any fun s=>decide (s.Time=x)
theorem wMr {l:List wAA} {x:Int}:tks l x=true ↔ x ∈ l.map (·.Time):=by
 unfold tks
 simp [List.any_eq_true]
theorem wPh {g:Int} (hg:1 <= g):∀ (n:Nat) (T:List Int) (x:Int),T.length <= n->∃ m:Nat,m <= n/\(∀ j:Nat,j < m->x + j * g ∈ T)/\x + m * g ∉ T:=by
 intro n
 induction n with
 | zero =>
  intro T x h
  have:T=[]:=nT.1 (by omega)
  subst this
  exact ⟨0,nU _,fun j hj=>by omega,by simp⟩
 | succ n ih =>
  intro T x h
  by_cases hx:x ∈ T
  ·have hlen:(T.filter (· ≠ x)).length <= n:=by
    have h2:(T.filter (· ≠ x)).length < T.length:=by
     rw [<- List.countP_eq_length_filter]
     have:=List.length_eq_countP_add_countP (p:=fun y=>decide (y ≠ x)) (l:=T)
     have:0 < T.countP (fun y=>decide ¬ (decide (y ≠ x)=true)):=List.countP_pos_iff.2 ⟨x,hx,by simp⟩
     omega
    omega
   obtain ⟨m,h1,h2,h3⟩:=ih (T.filter (· ≠ x)) (x + g) hlen
   refine ⟨m + 1,by omega,fun j hj=>?_,fun hm=>h3 ?_⟩
   ·cases j with
    | zero=>simpa using hx
    | succ j =>
     have:=(List.mem_filter.1 (h2 j (by omega))).1
     rwa [show x + ((j + 1:Nat):Int) * g=x + g + (j:Int) * g by rw [nf,ni];omega]
   ·refine List.mem_filter.2 ⟨?_,?_⟩
    ·rwa [show x + g + (m:Int) * g=x + ((m + 1:Nat):Int) * g by rw [nf,ni];omega]
    ·have:0 <= (m:Int) * g:=nj (by omega) (by omega)
     simp;omega
  ·exact ⟨0,by omega,fun j hj=>by omega,by simpa using hx⟩
structure Fr (l:List wAA) (x g:Int) (m:Nat):Prop where
 le:m <= l.length
 all:∀ j:Nat,j < m->tks l (x + j * g)=true
 no:tks l (x + m * g)=false
theorem fr_ex (l:List wAA) (x:Int) {g:Int} (hg:1 <= g):∃ m,Fr l x g m:=by
 obtain ⟨m,h1,h2,h3⟩:=wPh hg l.length (l.map (·.Time)) x (by simp)
 refine ⟨m,h1,fun j hj=>wMr.2 (h2 j hj),?_⟩
 cases h:tks l (x + m * g) with
 | false=>rfl
 | true=>exact absurd (wMr.1 h) h3
def pos (f:Int):List wAA->Nat
 | []=>0
 | s :: l=>if f < s.Time then 0 else pos f l + 1
theorem wHC (f:Int):∀ l,pos f l <= l.length
 | []=>nU _
 | s :: l=>by
  have:=wHC f l
  unfold pos
  split <;> simp <;> omega
theorem wIY (f:Int):∀ (l:List wAA) (k:Nat),first (fun s=>decide (f < s.Time)) l k=if pos f l=l.length then -1 else (k:Int) + pos f l
 | [],k=>rfl
 | s :: l,k=>by
  have:=wHC f l
  rw [first,pos,wIY f l (k + 1)]
  by_cases h:f < s.Time
  ·rw [if_pos (by simpa using h),if_pos h,if_neg (by simp)];omega
  ·rw [if_neg (by simpa using h),if_neg h]
   by_cases e:pos f l=l.length
   ·rw [if_pos e,if_pos (by simp;omega)]
   ·rw [if_neg e,if_neg (by simp;omega)];omega
theorem wHD {f:Int}:∀ {l:List wAA} {i:Nat},i < pos f l->(gd l i).Time <= f
 | [],i,h=>by simp [pos] at h
 | s :: l,i,h=>by
  unfold pos at h
  split at h
  ·omega
  ·rename_i h0
   cases i with
   | zero=>show s.Time <= f;omega
   | succ i=>exact wHD (l:=l) (by omega)
theorem wMs {f:Int}:∀ {l:List wAA},pos f l < l.length->f < (gd l (pos f l)).Time
 | [],h=>by simp at h
 | s :: l,h=>by
  unfold pos at h ⊢
  split
  ·rename_i h0;exact h0
  ·rename_i h0
   rw [if_neg h0] at h
   exact wMs (l:=l) (by simpa using h)
def ins (l:List wAA) (b f:Int):List wAA:=l.take (pos f l) ++ [(⟨b,f,0⟩:wAA)] ++ l.drop (pos f l)
theorem wPi {l:List wAA} {b f:Int}:(ins l b f).length=l.length + 1:=by
 have:=wHC f l
 unfold ins
 simp;omega
theorem wIZ (p:wAA->Bool) (l:List wAA):decide (0 <= first p l 0)=l.any p:=wIO p l 0
theorem wJV {l:List wAA} {f:wAA->Option Bool} {p:wAA->Bool} (hf:∀ a ∈ l,f a=some (p a)) (hn:l.length <= 1000):wAT l f=some (l.any p):=by
 unfold wAT
 rw [wJU hf hn,nA,wIZ]
def wd (l:List wAA) (b:Int):List wAA × Int :=
 if wKD l=0 then (if first (fun s=>decide (s.Bib=b)) l 0 < 0 then ([],1) else (l.take (first (fun s=>decide (s.Bib=b)) l 0).toNat ++ l.drop ((first (fun s=>decide (s.Bib=b)) l 0).toNat + 1),0)) else ([],wKD l)
theorem wMt {l:List wAA} {k:Int} (h0:0 <= k) (h1:k < l.length) (hl:l.length <= 1000):wAc l k (w64 (k + 1))=some (l.take k.toNat ++ l.drop (k.toNat + 1)):=by
 unfold wAc delO
 rw [wAe (by omega) (by omega),if_pos (by omega)]
 congr 3
 omega
theorem wJW {l:List wAA} (hl:l.length <= 1000) (b:Int):wBm l b=some (wd l b):=by
 unfold wBm wd
 rw [wFU hl,nA]
 by_cases h:wKD l=0
 ·rw [if_pos h,if_pos h,wJU (f:=fun x=>wBN x b) (p:=fun s=>decide (s.Bib=b)) (fun a _=>rfl) hl,nA]
  by_cases h2:first (fun s=>decide (s.Bib=b)) l 0 < 0
  ·rw [if_pos h2,if_pos h2]
  ·rw [if_neg h2,if_neg h2,wEi hl,nA]
   have:=wKA (p:=fun s:wAA=>decide (s.Bib=b)) (l:=l) (k:=0)
   rw [wMt (by omega) (by omega) hl,nA]
 ·rw [if_neg h,if_neg h]
def x0 (l:List wAA):Int:=if 0 < l.length then (gd l 0).Time else 0
def en (l:List wAA) (b g:Int) (m:Nat):List wAA × Int :=
 if wKD l=0 then
  if 1 <= b/\b <= 999 then
   if 1 <= g/\g <= 360000 then
    if l.any (fun s=>decide (s.Bib=b))=true then ([],5)
    else if l.length=60 then ([],2)
    else if 360000 < x0 l + m * g then ([],10)
    else (ins l b (x0 l + m * g),0)
   else ([],3)
  else ([],3)
 else ([],wKD l)
theorem wIa {l:List wAA} {k:Nat} {s:wAA} (h1:k <= l.length) (hl:l.length <= 1000):wAK l (k:Int) [s]=some (l.take k ++ [s] ++ l.drop k):=by
 unfold wAK insO
 rw [if_pos ⟨rfl,by omega,by omega,by omega⟩]
 rfl
theorem wIb {l:List wAA} (hl:l.length <= 1000) (g x:Int) {R:Type} :
    (jn (wDi 0 (↑l.length:Int) (fun k117 _ =>
                  (idx l (↑k117:Int)).bind fun x140 =>
                  if x140.Time=x then
                    esc (some (.inl (w64 (x + g))))
                  else
                    some (.inl ())) ()) fun _ =>
                esc (some x))=some (if tks l x=true then (.inl (w64 (x + g)):Int ⊕ Int) else .inr x):=by
  have h:=wJz (n:=l.length) (body:=fun (k117:Nat) (_:Unit) =>
                  (idx l (↑k117:Int)).bind fun x140 =>
                  if x140.Time=x then
                    (esc (some (.inl (w64 (x + g)))):Option (Unit ⊕ (Int ⊕ Int)))
                  else
                    some (.inl ())) (fun k=>if (!decide ((gd l k).Time=x))=true then none else some (.inl (w64 (x + g)):Int ⊕ Int)) hl (fun i hi=>by
      rw [wDt hi,nA]
      by_cases e:(gd l i).Time=x <;> simp [e,out])
  rw [h,wMk (q:=fun k=>!decide ((gd l k).Time=x))]
  have ha:wHf (fun k=>!decide ((gd l k).Time=x)) l.length 0=l.all (fun s=>!decide (s.Time=x)):=(wHg (fun s:wAA=>!decide (s.Time=x)) l).symm
  have hb:tks l x=!l.all (fun s=>!decide (s.Time=x)):=by
    unfold tks
    rw [List.not_all_eq_any_not]
    simp
  rw [ha,hb]
  cases l.all (fun s=>!decide (s.Time=x)) <;> rfl
theorem wHE {l:List wAA} (hl:l.length <= 60) {b g x:Int} {m:Nat} (hx:0 <= x) (hx2:x <= 360000) (hg:1 <= g) (hg2:g <= 360000) (F:Fr l x g m) :
    ((iter (fun x101 =>
                jn (wDi 0 (↑l.length:Int) (fun k117 _ =>
                  (idx l (↑k117:Int)).bind fun x140 =>
                  if x140.Time=x101 then
                    esc (some (.inl (w64 (x101 + g))))
                  else
                    some (.inl ())) ()) fun _ =>
                esc (some x101)) big x).bind fun x94 =>
              if 360000 < x94 then
                some (([]:List wAA),(10:Int))
              else
                (wAI l (fun x=>wAz x x94)).bind fun x206 =>
                if x206 < 0 then
                  ((wAG l).bind fun x230 =>
                  (wAK x230 (↑l.length:Int) [(⟨b,x94,0⟩:wAA)]).bind fun x248 =>
                  some x248).bind fun l218 =>
                  some (l218,0)
                else
                  ((wAG l).bind fun x354 =>
                  (wAK x354 x206 [(⟨b,x94,0⟩:wAA)]).bind fun x372 =>
                  some x372).bind fun l342 =>
                  some (l342,0))=some (if 360000 < x + m * g then ([],10) else (ins l b (x + m * g),0)):=by
  have hm:=F.le
  have bnd:∀ j:Nat,j <= m->0 <= (j:Int) * g/\(j:Int) * g <= 60 * 360000:=fun j hj =>
    ⟨nj (by omega) (by omega),Int.mul_le_mul (by omega) hg2 (by omega) (by omega)⟩
  have hi:=wJQ (body:=fun x101 =>
                jn (wDi 0 (↑l.length:Int) (fun k117 _ =>
                  (idx l (↑k117:Int)).bind fun x140 =>
                  if x140.Time=x101 then
                    esc (some (.inl (w64 (x101 + g))))
                  else
                    some (.inl ())) ()) fun _ =>
                esc (some x101)) (m:=m) (fun j:Nat=>x + (j:Int) * g) (fun j hj=>by
      rw [wIb (by omega) g _ (R:=Unit),F.all j hj,if_pos rfl]
      have b1:=bnd j (by omega)
      have b2:=bnd (j + 1) (by omega)
      have e:x + ((j + 1:Nat):Int) * g=x + (j:Int) * g + g:=by rw [nf,ni];omega
      rw [wAe (by omega) (by omega),e]) (b:=x + (m:Int) * g) (by
      rw [wIb (by omega) g _ (R:=Unit),F.no]
      rfl) (s0:=x) (by simp) (by omega)
  rw [hi,nA]
  by_cases hbig:360000 < x + m * g
  · rw [if_pos hbig,if_pos hbig]
  rw [if_neg hbig,if_neg hbig,wJU (f:=fun y=>wAz y (x + m * g)) (p:=fun s=>decide (x + m * g < s.Time)) (fun a _=>rfl) (by omega),nA,wIY]
  have hp:=wHC (x + m * g) l
  by_cases e:pos (x + m * g) l=l.length
  · rw [if_pos e,if_pos (by omega),wEi (by omega),nA,wIa (nU _) (by omega),nA,nA]
    unfold ins
    rw [e]
  · rw [if_neg e,if_neg (by omega),wEi (by omega),nA,show ((0:Nat):Int) + (pos (x + m * g) l:Int)=(pos (x + m * g) l:Int) by omega,wIa hp (by omega),nA,nA]
    rfl
theorem wNv {l:List wAA} (hl:l.length <= 1000) {b g:Int} {m:Nat} (F:1 <= g->Fr l (x0 l) g m):wCN l b g=some (en l b g m):=by
 unfold wCN en
 rw [wFU hl,nA]
 by_cases h:wKD l=0
 case neg=>rw [if_neg h,if_neg h]
 have G:=wGX.1 h
 have h60:=G.len
 rw [if_pos h,if_pos h,wIQ,nA]
 by_cases hb:1 <= b/\b <= 999
 case neg =>
  rw [if_neg hb,if_neg (by rw [nJ,decide_eq_true_iff,decide_eq_true_iff];exact hb)]
 rw [if_pos hb,if_pos (by rw [nJ,decide_eq_true_iff,decide_eq_true_iff];exact hb),wIQ,nA]
 by_cases hg:1 <= g/\g <= 360000
 case neg =>
  rw [if_neg hg,if_neg (by rw [nJ,decide_eq_true_iff,decide_eq_true_iff];exact hg)]
 rw [if_pos hg,if_pos (by rw [nJ,decide_eq_true_iff,decide_eq_true_iff];exact hg),wJV (f:=fun x=>wBh x b) (p:=fun s=>decide (s.Bib=b)) (fun a _=>rfl) hl,nA]
 by_cases ha:l.any (fun s=>decide (s.Bib=b))=true
 ·rw [if_pos ha,if_pos ha]
 rw [if_neg ha,if_neg ha]
 by_cases hc:l.length=60
 ·rw [if_pos (by omega),if_pos hc]
 rw [if_neg (by omega),if_neg hc]
 have F:=F hg.1
 by_cases hp:0 < l.length
 ·have e0:x0 l=(gd l 0).Time:=if_pos hp
  rw [e0] at F ⊢
  have ht:=(G.ok _ (wQw hp)).2.1
  have hi0:idx l 0=some (gd l 0):=wDt (k:=0) hp
  rw [if_pos (by omega),hi0,nA]
  exact wHE h60 ht.1 ht.2 hg.1 hg.2 F
 ·have e0:x0 l=0:=if_neg hp
  rw [e0] at F ⊢
  rw [if_neg (by omega)]
  exact wHE h60 (by omega) (by omega) hg.1 hg.2 F
end Go.Proofs.YtghaibkggdecnaaGreat
namespace Go.Proofs.YtghaibkggdecnaaGreat
open Go.KL
def toR (s:wAA):wAD:=⟨s.Bib,s.Time,s.Gate⟩
theorem wMu {l:List wAA} (hl:l.length <= 1000):wBF l=some (l.map toR):=by
 unfold wBF
 rw [wHd (bytes:=24) (f:=toR) (fun a _ r=>by rw [wHe];rfl) (by omega) (by omega)]
 rfl
theorem wDu {l:List wAA} {k:Nat} (h:k < l.length):idx (l.map toR) (k:Int)=some (toR (gd l k)):=by
 rw [wDt (by simpa using h),wEf _ h]
theorem wKj {l:List wAA}:wHf (fun i=>wHf (fun j=>!decide ((gd l i).Bib=(gd l j).Bib)) i 0) l.length 0=decide (l.map (·.Bib)).Nodup:=by
 rw [na,wCm,decide_eq_true_iff,nG,nH]
 constructor
 ·intro h i j hi hj hij e
  rw [nB] at hi hj
  rw [nD,nD,<- wDP hi,<- wDP hj] at e
  have:=(wCm _ _ _).1 (h j (by omega) (by omega)) i (by omega) (by omega)
  simp [e] at this
 ·intro h i _ hi
  refine (wCm _ _ _).2 fun j _ hj=>?_
  have:=h j i (by simp;omega) (by simp;omega) (by omega)
  rw [nD,nD,<- wDP (by omega),<- wDP (by omega)] at this
  simp only [Bool.not_eq_true',decide_eq_false_iff_not]
  exact fun e=>this e.symm
theorem wNw {l:List wAA}:wHf (fun k=>!decide ((gd l (1 + k)).Time < (gd l k).Time)) (l.length - 1) 0=decide (Asc l):=by
 rw [na,wCm,decide_eq_true_iff]
 unfold Asc
 constructor
 ·intro h k hk
  have:=h k (by omega) (by omega)
  rw [show k + 1=1 + k by omega]
  simpa using this
 ·intro h k _ hk
  have:=h k (by omega)
  rw [show k + 1=1 + k by omega] at this
  simpa using this
theorem wKE {l:List wAA} (hl:l.length <= 1000):wAt (l.map toR)=some (wKD l):=by
 unfold wAt wKD
 rw [nB]
 by_cases h60:60 < l.length
 ·rw [if_pos (by omega),if_pos h60]
 rw [if_neg (by omega),if_neg h60]
 rw [wEA (fun i=>okS (gd l i)) 3 (by omega) (fun i hi=>by
  rw [wDu hi,nA,wFT,nA]
  have h:=wJT (gd l i)
  simp only [wFT,nA,toR]
  generalize gd l i=s at h ⊢
  by_cases h1:(decide (s.Bib < 1) || decide (999 < s.Bib))=true
  ·refine (if_pos h1).trans ?_
   rw [if_neg (fun e=>by have:=h.1 e;simp at h1;omega)];rfl
  ·refine (if_neg h1).trans ?_
   by_cases h2:(decide (s.Time < 0) || decide (360000 < s.Time))=true
   ·refine (if_pos h2).trans ?_
    rw [if_neg (fun e=>by have:=h.1 e;simp at h2;omega)];rfl
   ·refine (if_neg h2).trans ?_
    by_cases h3:(decide (s.Gate < 0) || decide (60 < s.Gate))=true
    ·refine (if_pos h3).trans ?_
     rw [if_neg (fun e=>by have:=h.1 e;simp at h3;omega)];rfl
    ·refine (if_neg h3).trans ?_
     rw [if_pos (h.2 (by simp at h1 h2 h3;omega))])]
 rw [wHg]
 by_cases ha:wHf (fun k=>okS (gd l k)) l.length 0=true
 ·rw [if_pos ha,if_pos ha,wDS]
  rw [wEA (fun i=>wHf (fun j=>!decide ((gd l i).Bib=(gd l j).Bib)) i 0) 5 (by omega) (fun i hi=>by
   rw [wEA (fun j=>!decide ((gd l i).Bib=(gd l j).Bib)) (.inr 5) (by omega) (fun j hj=>by
    rw [wDu hi,nA,wDu (by omega),nA]
    by_cases e:(gd l i).Bib=(gd l j).Bib
    ·rw [if_pos (show (toR (gd l i)).Bib=(toR (gd l j)).Bib from e)];simp [e]
    ·rw [if_neg (show ¬ (toR (gd l i)).Bib=(toR (gd l j)).Bib from e)];simp [e])]
   split <;> rfl),wKj]
  by_cases hd:(l.map (·.Bib)).Nodup
  ·rw [if_pos (by simpa using hd),if_pos hd,wDS]
   have e3:wDi 1 (l.length:Int) (fun k188 (_:Unit) =>
   (idx (l.map toR) (1 + ↑k188:Int)).bind fun x208 =>
   (idx (l.map toR) (w64 ((1 + ↑k188:Int) - 1))).bind fun x218 =>
   if x208.Time < x218.Time then
    esc (some (4:Int))
   else
    some (.inl ())) ()=some (if Asc l then .inl () else .inr 4):=by
    unfold wDi
    rw [if_pos (by omega),show ((l.length:Int) - 1).toNat=l.length - 1 by omega,wIT (fun k=>!decide ((gd l (1 + k)).Time < (gd l k).Time)) 4 (l.length - 1) 0 (fun i _ hi _=>by
     rw [show (1 + (i:Int))=((1 + i:Nat):Int) by omega,wDu (by omega),nA,wAe (by omega) (by omega),show ((1 + i:Nat):Int) - 1=(i:Int) by omega,wDu (by omega),nA]
     by_cases e:(gd l (1 + i)).Time < (gd l i).Time
     ·rw [if_pos (show (toR (gd l (1 + i))).Time < (toR (gd l i)).Time from e)];simp [e]
     ·rw [if_neg (show ¬ (toR (gd l (1 + i))).Time < (toR (gd l i)).Time from e)];simp [e]),wNw]
    by_cases hs:Asc l <;> simp [hs]
   rw [e3]
   by_cases hs:Asc l
   ·rw [if_pos hs,if_pos hs];rfl
   ·rw [if_neg hs,if_neg hs];rfl
  ·rw [if_neg (by simpa using hd),if_neg hd];rfl
 ·rw [if_neg ha,if_neg ha];rfl
def fb (l:List wAA) (b:Int):Int:=first (fun s=>decide (s.Bib=b)) l 0
theorem wMv {l:List wAA} (hl:l.length <= 1000) (b:Int):wBG (l.map toR) b=some (fb l b):=by
 unfold wBG
 have:=wHA (R:=Int) (l:=l.map toR) (f:=fun x=>some (decide (x.Bib=b))) (p:=fun x=>decide (x.Bib=b)) (fun a _=>rfl) (by simp;omega) id
 simp only [id,nA,decide_eq_true_iff] at this
 rw [this]
 congr 1
 unfold fb
 generalize 0=k
 clear this hl
 induction l generalizing k with
 | nil=>rfl
 | cons a l ih =>
  rw [List.map_cons,first,first,ih]
  rfl
section
variable {l:List wAA}
theorem wMw (G:wNu l) {k:Nat} (hk:k < l.length):l.filter (fun s=>!decide (s.Bib=(gd l k).Bib))=l.take k ++ l.drop (k + 1):=by
 have e:l=l.take k ++ gd l k :: l.drop (k + 1):=by rw [<- wJP hk,nY]
 have h1:(l.take k).filter (fun s=>!decide (s.Bib=(gd l k).Bib))=l.take k:=by
  refine nl.2 fun s hs=>?_
  obtain ⟨i,hi,e⟩:=wIS hs
  rw [nW] at hi
  rw [wQv (by omega) (by omega)] at e
  have:=mt (wMq G.one (show i < l.length by omega) hk) (by omega)
  rw [e] at this
  simpa using this
 have h2:(l.drop (k + 1)).filter (fun s=>!decide (s.Bib=(gd l k).Bib))=l.drop (k + 1):=by
  refine nl.2 fun s hs=>?_
  obtain ⟨i,hi,e⟩:=wIS hs
  rw [nO] at hi
  rw [wPc (by omega)] at e
  have:=mt (wMq G.one (show k + 1 + i < l.length by omega) hk) (by omega)
  rw [e] at this
  simpa using this
 generalize gd l k=x at *
 rw [e,nt,List.filter_cons_of_neg (by simp),<- e,h1,h2]
theorem wIc {p:wAA->Bool}:∀ {l:List wAA} {k:Nat},0 <= first p l k->∃ i,i < l.length/\first p l k=((k + i:Nat):Int)/\p (gd l i)=true
 | [],k,h=>by simp [first] at h
 | a :: l,k,h=>by
  rw [first] at h ⊢
  by_cases e:p a=true
  ·rw [if_pos e];exact ⟨0,by simp,rfl,e⟩
  ·rw [if_neg e] at h ⊢
   obtain ⟨i,h1,h2,h3⟩:=wIc h
   exact ⟨i + 1,by simpa using h1,by rw [h2];congr 1;omega,h3⟩
theorem wJX (hl:l.length <= 1000) (b:Int):wBD (l.map toR) b=some ((wd l b).1.map toR,(wd l b).2):=by
  unfold wBD wd
  rw [wKE hl,nA]
  by_cases h:wKD l=0
  case neg=>rw [if_neg h,if_neg h];rfl
  have G:=wGX.1 h
  rw [if_pos h,if_pos h,wMv hl,nA]
  unfold fb
  by_cases h2:first (fun s=>decide (s.Bib=b)) l 0 < 0
  · rw [if_pos h2,if_pos h2];rfl
  rw [if_neg h2,if_neg h2]
  obtain ⟨k,hk,e,hp⟩:=wIc (p:=fun s:wAA=>decide (s.Bib=b)) (l:=l) (k:=0) (by omega)
  have hp:(gd l k).Bib=b:=by simpa using hp
  rw [e]
  simp only [nI,Int.toNat_natCast]
  rw [nB]
  have:=wCh (body:=fun (k46:Nat) (l42:List wAD) =>
        (idx (l.map toR) (↑k46:Int)).bind fun x69 =>
        if x69.Bib=b then
          some l42
        else
          (app 24 l42 [x69]).bind fun x93 =>
          some x93) (n:=l.length) (s0:=[]) (fun k=>((l.take k).filter (fun s=>!decide (s.Bib=b))).map toR) rfl (by omega) (fun i hi=>by
      have hlen:(((l.take i).filter (fun s=>!decide (s.Bib=b))).map toR).length <= 1000:=by
        rw [nB]
        have:=List.length_filter_le (fun s:wAA=>!decide (s.Bib=b)) (l.take i)
        simp at this
        omega
      rw [wDu hi,nA,wEe hi,nt,nL]
      by_cases c:(gd l i).Bib=b
      · rw [if_pos (show (toR (gd l i)).Bib=b from c)];simp [c]
      · rw [if_neg (show ¬ (toR (gd l i)).Bib=b from c),wCl (by have:([toR (gd l i)]:List wAD).length=1:=rfl;omega),nA];simp [c])
  rw [this,nA,nX,<- hp,wMw G hk]
theorem wHF (hl:l.length <= 1000) (x:Int):wBx 0 (↑(l.map toR).length:Int) (fun k107 b106 =>
                    (idx (l.map toR) (↑k107:Int)).bind fun x130 =>
                    if x130.Time=x then
                      some true
                    else
                      some b106) false=some (tks l x):=by
  rw [nB]
  have:=wCh (body:=fun (k107:Nat) (b106:Bool) =>
                    (idx (l.map toR) (↑k107:Int)).bind fun x130 =>
                    if x130.Time=x then
                      some true
                    else
                      some b106) (n:=l.length) (s0:=false) (fun k=>tks (l.take k) x) rfl (by omega) (fun i hi=>by
      rw [wDu hi,nA,wEe hi]
      unfold tks
      rw [List.any_append]
      by_cases c:(gd l i).Time=x
      · rw [if_pos (show (toR (gd l i)).Time=x from c)];simp [c]
      · rw [if_neg (show ¬ (toR (gd l i)).Time=x from c)];simp [c])
  rw [this,nX]
theorem wNx (G:wNu l) {b f:Int}:wBx 0 (↑(l.map toR).length:Int) (fun k195 (l190,b194) =>
                      (idx (l.map toR) (↑k195:Int)).bind fun x221 =>
                      if f < x221.Time then
                        if b194=true then
                          (app 24 l190 [x221]).bind fun x243 =>
                          some (x243,b194)
                        else
                          (app 24 l190 [(⟨b,f,0⟩:wAD)]).bind fun x261 =>
                          (app 24 x261 [x221]).bind fun x278 =>
                          some (x278,true)
                      else
                        (app 24 l190 [x221]).bind fun x300 =>
                        some (x300,b194)) ([],false)=some (if pos f l < l.length then ((ins l b f).map toR,true) else (l.map toR,false)):=by
  have h60:=G.len
  have hp:=wHC f l
  rw [nB]
  have:=wCh (body:=fun (k195:Nat) ((l190,b194):List wAD × Bool) =>
                      (idx (l.map toR) (↑k195:Int)).bind fun x221 =>
                      if f < x221.Time then
                        if b194=true then
                          (app 24 l190 [x221]).bind fun x243 =>
                          some (x243,b194)
                        else
                          (app 24 l190 [(⟨b,f,0⟩:wAD)]).bind fun x261 =>
                          (app 24 x261 [x221]).bind fun x278 =>
                          some (x278,true)
                      else
                        (app 24 l190 [x221]).bind fun x300 =>
                        some (x300,b194)) (n:=l.length) (s0:=(([]:List wAD),false)) (fun k=>if k <= pos f l then ((l.take k).map toR,false) else ((l.take (pos f l) ++ [(⟨b,f,0⟩:wAA)] ++ (l.drop (pos f l)).take (k - pos f l)).map toR,true)) (by simp) (by omega) (fun i hi=>by
      rcases Nat.lt_trichotomy i (pos f l) with c | c | c
      · have h1:=wHD c
        simp only [if_pos (show i <= pos f l by omega),if_pos (show i + 1 <= pos f l by omega)]
        rw [wDu hi,nA,if_neg (show ¬ f < (toR (gd l i)).Time by show ¬ f < (gd l i).Time;omega),wCl (by simp;omega),nA,wEe hi]
        simp
      · have h1:=wMs (f:=f) (l:=l) (by omega)
        rw [<- c] at h1
        simp only [if_pos (show i <= pos f l by omega),if_neg (show ¬ i + 1 <= pos f l by omega)]
        rw [wDu hi,nA,if_pos (show f < (toR (gd l i)).Time from h1),if_neg (by decide),wCl (by simp;omega),nA,wCl (by simp;omega),nA,<- c,show i + 1 - i=1 by omega,wJP hi]
        simp [toR]
      · have h1:=wMs (f:=f) (l:=l) (by omega)
        have h2:=wOa G.asc (show pos f l <= i by omega) hi
        simp only [if_neg (show ¬ i <= pos f l by omega),if_neg (show ¬ i + 1 <= pos f l by omega)]
        have e:(l.drop (pos f l)).take (i + 1 - pos f l)=(l.drop (pos f l)).take (i - pos f l) ++ [gd l i]:=by
          rw [show i + 1 - pos f l=(i - pos f l) + 1 by omega,wEe (by simp;omega),wPc (by omega),show pos f l + (i - pos f l)=i by omega]
        rw [wDu hi,nA,if_pos (show f < (toR (gd l i)).Time by show f < (gd l i).Time;omega),if_pos trivial,wCl (by simp;omega),nA,e]
        simp)
  rw [this]
  by_cases c:pos f l < l.length
  · rw [if_neg (by omega),if_pos c]
    unfold ins
    rw [nh (l:=l.drop (pos f l)) (by simp)]
  · rw [if_pos (by omega),if_neg c,nX]
theorem wKF (G:wNu l) {b g x:Int} {m:Nat} (hx:0 <= x) (hx2:x <= 360000) (hg:1 <= g) (hg2:g <= 360000) (F:Fr l x g m) :
    iter (fun (x82,b83) =>
                if b83=true then
                  (wBx 0 (↑(l.map toR).length:Int) (fun k107 b106 =>
                    (idx (l.map toR) (↑k107:Int)).bind fun x130 =>
                    if x130.Time=x82 then
                      some true
                    else
                      some b106) false).bind fun y112 =>
                  if y112=true then
                    some (.inl (w64 (x82 + g),y112))
                  else
                    some (.inl (x82,y112))
                else
                  esc (if 360000 < x82 then
                    some (([]:List wAD),(10:Int))
                  else
                    (wBx 0 (↑(l.map toR).length:Int) (fun k195 (l190,b194) =>
                      (idx (l.map toR) (↑k195:Int)).bind fun x221 =>
                      if x82 < x221.Time then
                        if b194=true then
                          (app 24 l190 [x221]).bind fun x243 =>
                          some (x243,b194)
                        else
                          (app 24 l190 [(⟨b,x82,0⟩:wAD)]).bind fun x261 =>
                          (app 24 x261 [x221]).bind fun x278 =>
                          some (x278,true)
                      else
                        (app 24 l190 [x221]).bind fun x300 =>
                        some (x300,b194)) ([],false)).bind fun (y200,y201) =>
                    if y201=true then
                      some (y200,0)
                    else
                      (app 24 y200 [(⟨b,x82,0⟩:wAD)]).bind fun x339 =>
                      some (x339,0))) big (x,true)=some (if 360000 < x + m * g then ([],(10:Int)) else ((ins l b (x + m * g)).map toR,(0:Int))):=by
  have h60:=G.len
  have hm:=F.le
  have bnd:∀ j:Nat,j <= m->0 <= (j:Int) * g/\(j:Int) * g <= 60 * 360000:=fun j hj =>
    ⟨nj (by omega) (by omega),Int.mul_le_mul (by omega) hg2 (by omega) (by omega)⟩
  refine wJQ (m:=m + 1) (fun j:Nat=>if j <= m then (x + (j:Int) * g,true) else (x + (m:Int) * g,false)) (fun j hj=>?_) ?_ (s0:=(x,true)) (by simp) (by omega)
  · by_cases c:j < m
    · simp only [if_pos (show j <= m by omega),if_pos (show j + 1 <= m by omega),if_true]
      rw [wHF (by omega),F.all j c,nA,if_pos rfl]
      have b1:=bnd j (by omega)
      have e:x + ((j + 1:Nat):Int) * g=x + (j:Int) * g + g:=by rw [nf,ni];omega
      rw [wAe (by omega) (by omega),e]
    · have e:j=m:=by omega
      subst e
      simp only [if_pos (nU _),if_neg (show ¬ j + 1 <= j by omega),if_true]
      rw [wHF (by omega),F.no,nA,if_neg (by decide)]
  · simp only [if_neg (show ¬ m + 1 <= m by omega)]
    rw [if_neg (by decide)]
    by_cases hbig:360000 < x + m * g
    · rw [if_pos hbig,if_pos hbig];rfl
    rw [if_neg hbig,if_neg hbig,wNx G,nA]
    by_cases c:pos (x + m * g) l < l.length
    · rw [if_pos c];rfl
    · rw [if_neg c]
      simp only [nq,if_false]
      rw [wCl (by simp;omega),nA]
      have e:ins l b (x + m * g)=l ++ [(⟨b,x + m * g,0⟩:wAA)]:=by
        have:=wHC (x + m * g) l
        unfold ins
        rw [show pos (x + m * g) l=l.length by omega]
        simp
      rw [e,nL]
      rfl
theorem wKG (b:Int):0 <= fb l b ↔ l.any (fun s=>decide (s.Bib=b))=true:=by
 rw [<- wIZ,decide_eq_true_iff]
 rfl
theorem wNy (hl:l.length <= 1000) {b g:Int} {m:Nat} (F:1 <= g->Fr l (x0 l) g m):wBU (l.map toR) b g=some ((en l b g m).1.map toR,(en l b g m).2):=by
 unfold wBU en
 rw [wKE hl,nA]
 by_cases h:wKD l=0
 case neg=>rw [if_neg h,if_neg h];rfl
 have G:=wGX.1 h
 have h60:=G.len
 rw [if_pos h,if_pos h,wFT,nA]
 by_cases hb:1 <= b/\b <= 999
 case neg =>
  rw [if_neg hb,if_pos (by simp;omega)];rfl
 rw [if_pos hb,if_neg (by simp;omega),wFT,nA]
 by_cases hg:1 <= g/\g <= 360000
 case neg =>
  rw [if_neg hg,if_pos (by simp;omega)];rfl
 rw [if_pos hg,if_neg (by simp;omega),wMv hl,nA]
 by_cases ha:l.any (fun s=>decide (s.Bib=b))=true
 ·rw [if_pos ha,if_pos ((wKG b).2 ha)];rfl
 rw [if_neg ha,if_neg (mt (wKG b).1 ha)]
 by_cases hc:l.length=60
 ·rw [if_pos (by rw [nB];omega),if_pos hc];rfl
 rw [if_neg (by rw [nB];omega),if_neg hc]
 have F:=F hg.1
 have key:∀ {A:List wAD × Int} {B:List wAA × Int},A=(B.1.map toR,B.2)->some A=some (B.1.map toR,B.2):=fun h=>by rw [h]
 have fin:∀ y:Int,some (if 360000 < y then (([]:List wAD),(10:Int)) else ((ins l b y).map toR,0))=some ((if 360000 < y then (([]:List wAA),(10:Int)) else (ins l b y,0)).1.map toR,(if 360000 < y then (([]:List wAA),(10:Int)) else (ins l b y,0)).2):=by
  intro y
  split <;> rfl
 by_cases hp:0 < l.length
 ·have e0:x0 l=(gd l 0).Time:=if_pos hp
  rw [e0] at F ⊢
  have ht:=(G.ok _ (wQw hp)).2.1
  have hi0:idx (l.map toR) 0=some (toR (gd l 0)):=wDu (k:=0) hp
  rw [if_pos (by rw [nB];omega),hi0,nA]
  exact (wKF G ht.1 ht.2 hg.1 hg.2 F).trans (fin _)
 ·have e0:x0 l=0:=if_neg hp
  rw [e0] at F ⊢
  rw [if_neg (by rw [nB];omega)]
  exact (wKF G (by omega) (by omega) hg.1 hg.2 F).trans (fin _)
end
end Go.Proofs.YtghaibkggdecnaaGreat
namespace Go.Proofs.YtghaibkggdecnaaGreat
open Go.KL
theorem wQx (l:List wAA) (hl:l.length <= 1000):wAk l l=some true:=by
 unfold wAk
 exact wFL (by omega)
theorem wQy (l:List wAE) (hl:l.length <= 1000):wAj l l=some true:=by
 unfold wAj
 exact wFL (by omega)
theorem wQz (l:List wAD) (hl:l.length <= 1000):wAa l l=some true:=by
 unfold wAa
 exact wFL (by omega)
theorem wRA {l:List wAA} (hl:l.length <= 1000):wAi l=some l:=by
 unfold wAi
 rw [wCl (by simp;omega)];rfl
theorem wRB {l:List wAE} (hl:l.length <= 1000):wAh l=some l:=by
 unfold wAh
 rw [wCl (by simp;omega)];rfl
theorem wKH {l:List wAA} (hl:l.length <= 1000):wBE l (l.map toR)=some true:=by
 unfold wBE
 rw [wMu hl,nA,wQz _ (by simpa using hl)]
 rfl
theorem wKk {f:List wAE} (hl:f.length <= 1000) (w:Int):∃ b e,b.length <= 1000/\wBc f w=some (b,e)/\wAq (f.map toS) w=some (b.map toX,e):=by
 by_cases h:wOY f=0
 ·have G:=wGV.1 h
  have h2:=G.l2
  obtain ⟨r,hr,R⟩:=wMm G
  by_cases hw:1 <= w/\w <= 20
  ·obtain ⟨n,rfl⟩:=ng (show 0 <= w by omega)
   exact ⟨_,0,by simp;omega,wNr G hr R (by omega) (by omega),wNt G R (by omega) (by omega)⟩
  ·refine ⟨[],3,by simp,?_,?_⟩
   ·unfold wBc
    rw [wKC G,nA,if_pos rfl,wIQ,nA,if_neg (by simp;omega)]
   ·unfold wAq
    rw [wIW G R,nA]
    simp only [if_true]
    rw [wFT,nA,if_pos (by simp;omega)]
    rfl
 ·refine ⟨[],wOY f,by simp,?_,?_⟩
  ·unfold wBc
   rw [wKB hl,nA,if_neg h]
  ·unfold wAq wBB
   rw [wIV hl,nA,if_neg h,nA]
   exact if_neg h
theorem wId (l:List wAA) (hl:l.length <= 1000):∃ y,(wBx 0 (↑l.length:Int) (fun k365 l364 =>
                    (chk (↑k365:Int) l364.length).bind fun _ =>
                    some (nV l364 k365 (⟨0,(gd l364 k365).Time,(gd l364 k365).Gate⟩:wAA))) l)=some y:=by
  obtain ⟨s,h,_⟩:=wIR (body:=fun (k365:Nat) (l364:List wAA) =>
                    (chk (↑k365:Int) l364.length).bind fun _ =>
                    some (nV l364 k365 (⟨0,(gd l364 k365).Time,(gd l364 k365).Gate⟩:wAA))) (n:=l.length) (s0:=l) (fun _ s=>s.length=l.length) hl rfl (fun i s hi hs=>by
      rw [wEo (by omega) (by omega),nA]
      exact ⟨_,rfl,by simpa using hs⟩)
  exact ⟨s,h⟩
theorem wRC (l:List wAA) (b:Int):(wd l b).1.length <= l.length:=by
 unfold wd
 split
 ·split
  ·simp
  ·simp;omega
 ·simp
theorem wRD (l:List wAA) (b g:Int) (m:Nat):(en l b g m).1.length <= l.length + 1:=by
 unfold en
 split
 ·split
  ·split
   ·split
    ·simp
    ·split
     ·simp
     ·split
      ·simp
      ·rw [wPi];exact nU _
   ·simp
  ·simp
 ·simp
theorem wMx (p0:List wAE) (p1:Int) (p2:List wAA) (p3:Int) (p4:Int) (_:-9223372036854775808 <= p1) (_:p1 <= 9223372036854775807) (_:-9223372036854775808 <= p3) (_:p3 <= 9223372036854775807) (_:-9223372036854775808 <= p4) (_:p4 <= 9223372036854775807):wBH p0 p1 p2 p3 p4=some true:=by
 unfold wBH
 by_cases h0:64 < (p0.length:Int)
 ·rw [if_pos h0];rfl
 by_cases h2:64 < (p2.length:Int)
 ·rw [if_neg h0,if_pos h2];rfl
 obtain ⟨bs,e,hbs,e1,e2⟩:=wKk (f:=p0) (by omega) p1
 have hm:∃ m,1 <= p4->Fr p2 (x0 p2) p4 m:=by
  by_cases h:1 <= p4
  ·obtain ⟨m,h'⟩:=fr_ex p2 (x0 p2) h
   exact ⟨m,fun _=>h'⟩
  ·exact ⟨0,fun h'=>absurd h' h⟩
 obtain ⟨m,hm⟩:=hm
 have w1:=wRC p2 p3
 have w2:=wRD p2 p3 p4 m
 rw [if_neg h0,if_neg h2,wRB (by omega),nA,wRA (by omega),nA,wMu (by omega),nA,e1,nA]
 simp only
 rw [wNp (by omega),nA,e2,nA]
 simp only [if_true]
 rw [nB,if_pos rfl]
 rw [wMi (by omega) (fun i hi=>by
  rw [wEo (by omega) (by omega),nA,nA,wEf toX hi]
  exact if_pos rfl),wDS]
 rw [wJW (by omega),nA]
 generalize hw:wd p2 p3=W at *
 obtain ⟨W1,W2⟩:=W
 have eW:=wJX (l:=p2) (by omega) p3
 rw [hw] at eW
 simp only at w1 eW ⊢
 rw [eW,nA]
 simp only [if_true]
 rw [wKH (by omega),nA,if_pos rfl,wNv (by omega) hm,nA]
 generalize hE:en p2 p3 p4 m=E at *
 obtain ⟨E1,E2⟩:=E
 have eE:=wNy (l:=p2) (by omega) hm (b:=p3)
 rw [hE] at eE
 simp only at w2 eE ⊢
 rw [eE,nA]
 simp only [if_true]
 obtain ⟨y,hy⟩:=wId W1 (by omega)
 obtain ⟨z,hz⟩:=wId E1 (by omega)
 rw [wKH (by omega),nA,if_pos rfl,hy,nA,hz,nA,wQy p0 (by omega),nA,if_pos rfl,wQx p2 (by omega),nA,if_pos rfl]
 rfl
end Go.Proofs.YtghaibkggdecnaaGreat
