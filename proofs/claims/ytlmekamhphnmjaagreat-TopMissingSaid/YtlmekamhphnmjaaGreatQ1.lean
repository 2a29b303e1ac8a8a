import Derived.Test.YtlmekamhphnmjaaGreatQ0
set_option linter.all false
open Option renaming bind_some->hD
open List renaming length_append->hJ,set->hM,append_assoc->nA,take_append_drop->nB,length_cons->nE,getElem?_eq_getElem->nG,getD_eq_getElem?_getD->nH,pairwise_append->nI,mem_singleton->nJ,length_take->nK,getElem_of_mem->nL,mem_append_left->nM,length_set->nN,length_map->nO,take_length->nP,length_drop->nQ,mem_cons->nS,length_singleton->nT,mem_append_right->nU,mem_append->nV,length_nil->nW,getElem?_append_left->nY,pairwise_iff_getElem->nZ,eq_nil_of_length_eq_zero->na,getElem?_append_right->nb,set_append_right->nc,pairwise_cons->nf,drop_eq_getElem_cons->ni,replicate->nk,getElem_mem->nl,filter_cons_of_neg->nn,filter_cons_of_pos->np,filter_append->nq,drop_eq_nil_of_le->ns,getElem?_eq_none->nt,mem_of_mem_take->nu,all_eq_true->nv,perm_append_singleton->ny,pairwise_map->kA,getElem_drop->kB,getElem_take->kC,take_of_length_le->kD,mem_cons_of_mem->kH,map_append->kI,getElem?_range->kJ,getElem?_take->kM,getElem?_drop->kO,take_add_one->kP,ext_getElem?->kQ,getElem?_set->kR,cons_append->kT,mem_map->kU,not_mem_nil->kV,not_all_eq_any_not->kX,append_nil->kY,length_eq_one_iff->kZ,eq_nil_or_concat->ka,concat_eq_append->kb,any_cons->ke,all_cons->kf,getElem?_map->kh,nodup_append->ki,range->kj
open Int renaming toNat_natCast->nD,le_trans->ng,tmod_eq_emod_of_nonneg->nh,le_refl->nj
open Nat renaming le_refl->nR,zero_add->nm,min_eq_left->nr,min_eq_right->nw,sub_self->kG,add_sub_cancel->kL,le_of_lt->kW,pow_le_pow_right->kd,lt_or_ge->kg
open Option.some renaming inj->nX
open List.Pairwise renaming nil->nz
open List.Perm renaming append_left->kE,refl->kc
open Array renaming replicate->kF
open Bool renaming false_eq_true->kK,eq_false_iff->kS
namespace Go.Proofs.YtlmekamhphnmjaaGreat
open Go.KL
noncomputable section
structure wAW where
 bytes:List Int
 next:Int
 state:Int
deriving DecidableEq,Inhabited,Repr
structure wDD where
 Lo:Int
 Hi:Int
deriving DecidableEq,Inhabited,Repr
structure wAE where
 From:Int
 To:Int
 Loops:wDD
deriving DecidableEq,Inhabited,Repr
structure wAZ where
 Kind:Int
 Index:Int
deriving DecidableEq,Inhabited,Repr
structure wAL where
 Step:wAZ
 from_:Int
 to_:Int
 count:(Unit->Option Int)
structure wAH where
 Bib:Int
 Time:Int
deriving DecidableEq,Inhabited,Repr
structure wAC where
 Number:Int
 Kind:Int
 Minute:Int
 Bib:Int
 Much:Int
 About:Int
deriving DecidableEq,Inhabited,Repr
structure wAO where
 Deadline:Int
 Skiers:List wAH
 Decisions:List wAC
deriving DecidableEq,Inhabited,Repr
structure wAR where
 Record:wAO
 at_:List (Int × wAC)
 about:List (Int × Unit)
structure wAA where
 Bib:Int
 Place:Int
 Total:Int
deriving DecidableEq,Inhabited,Repr
structure wAJ where
 Bib:Int
 Time:Int
deriving DecidableEq,Inhabited,Repr
structure wAX where
 Unit:Int
 Limit:Int
deriving DecidableEq,Inhabited,Repr
structure wBn where
 Bib:Int
 Time:Int
 Gate:Int
deriving DecidableEq,Inhabited,Repr
def wCy (p0:List Int):Option (wAW) :=
 some (⟨p0,0,17⟩:wAW)
def wAU (p0:wAW) (p1:Int):Option (Int × wAW) :=
 if p1 <= 1 then
  some (0,p0)
 else
  if (↑p0.bytes.length:Int)=0 then
   some (0,p0)
  else
   (rem p0.next (↑p0.bytes.length:Int)).bind fun x10 =>
   (idx p0.bytes x10).bind fun x13 =>
   (quo p0.next (↑p0.bytes.length:Int)).bind fun x20 =>
   (rem (wEf ((wEf ((wEf ((wEf (p0.state * 45)) + (wEf x13))) + (wEf (77 * (wEf x20))))) + 1)) 65519).bind fun x32 =>
   if (wEf x20)=0 then
    if p1 <= 256 then
     (rem (w64 (wEf x13)) p1).bind fun x42 =>
     some (x42,(⟨p0.bytes,w64 (p0.next + 1),x32⟩:wAW))
    else
     (rem (w64 (wEf ((wEf (x32 * 256)) + (wEf x13)))) p1).bind fun x46 =>
     some (x46,(⟨p0.bytes,w64 (p0.next + 1),x32⟩:wAW))
   else
    (rem (w64 (wEf ((wEf (x32 * 256)) + (wEf x13)))) p1).bind fun x50 =>
    some (x50,(⟨p0.bytes,w64 (p0.next + 1),x32⟩:wAW))
def wBI (p0:wAW) (p1:Int) (p2:Int):Option (Int × wAW) :=
 (wAU p0 (w64 ((w64 (p2 - p1)) + 1))).bind fun (x2,x3) =>
 some (w64 (p1 + x2),x3)
def wBi (p0:Int) (p1:Int) (p2:Int):Option (Bool) :=
 if p1 <= p0 then
  some (decide (p0 <= p2))
 else
  some false
def wBr (p0:Int) (p1:(Int->Option Bool)):Option (Bool) :=
 (p1 p0).bind fun x1 =>
 some (!x1)
def wBk (p0:List Int) (p1:(Int->Option Bool)):Option (Int) :=
 jn (wFU 0 (↑p0.length:Int) (fun k2 _ =>
  (idx p0 (↑k2:Int)).bind fun x22 =>
  (p1 x22).bind fun x30 =>
  if x30=true then
   esc (some (↑k2:Int))
  else
   some (.inl ())) ()) fun _ =>
 some (-1)
def wBZ (p0:List Int) (p1:(Int->Option Bool)):Option (Bool) :=
 (wBk p0 p1).bind fun x1 =>
 some (decide (0 <= x1))
def wCh (p0:List Int) (p1:(Int->Option Bool)):Option (Bool) :=
 (wBZ p0 (fun x=>wBr x p1)).bind fun x13 =>
 some (!x13)
def wCm (p0:Int):Option (Bool) :=
 (wBi p0 0 5).bind fun x1 =>
 some x1
def wBN (p0:wAE) (p1:Int):Option (Bool) :=
 (wBi p0.From 0 p0.To).bind fun x5 =>
 if x5=true then
  some (decide (p0.To < p1))
 else
  some false
def wAz (p0:wAE) (p1:(wAE->Option Bool)):Option (Bool) :=
 (p1 p0).bind fun x5 =>
 some (!x5)
def wAm (p0:List wAE) (p1:(wAE->Option Bool)):Option (Int) :=
 jn (wFU 0 (↑p0.length:Int) (fun k2 _ =>
  (idx p0 (↑k2:Int)).bind fun x22 =>
  (p1 x22).bind fun x30 =>
  if x30=true then
   esc (some (↑k2:Int))
  else
   some (.inl ())) ()) fun _ =>
 some (-1)
def wAk (p0:List wAE) (p1:(wAE->Option Bool)):Option (Bool) :=
 (wAm p0 p1).bind fun x1 =>
 some (decide (0 <= x1))
def wBJ (p0:List wAE) (p1:(wAE->Option Bool)):Option (Bool) :=
 (wAk p0 (fun x=>wAz x p1)).bind fun x13 =>
 some (!x13)
def wBO (p0:wAE):Option (Bool) :=
 (wBi p0.Loops.Lo 0 p0.Loops.Hi).bind fun x5 =>
 if x5=true then
  some (decide (p0.Loops.Hi <= 72))
 else
  some false
def wBv (p0:Int) (p1:List wAE):Option (Int) :=
 (wBi p0 1 8).bind fun x10 =>
 if x10=true then
  if 20 < (↑p1.length:Int) then
   some 2
  else
   (wBJ p1 (fun x=>wBN x p0)).bind fun x29 =>
   if x29=true then
    (wBJ p1 wBO).bind fun x43 =>
    if x43=true then
     some 0
    else
     some 3
   else
    some 1
 else
  some 2
def wDo (p0:List Int) (p1:List wAE):Option (Int) :=
 (wBi (↑p0.length:Int) 1 8).bind fun x1 =>
 if x1=true then
  (wCh p0 wCm).bind fun x15 =>
  if x15=true then
   (wBv (↑p0.length:Int) p1).bind fun x29 =>
   some x29
  else
   some 3
 else
  some 2
def wCr (p0:Int):Option (Int) :=
 some p0
def wAw (p0:Int):Option ((Unit->Option Int)) :=
 some (fun _=>wCr p0)
def wDH (p0:Int) (p1:List wAE) (p2:List Int):Option ((List wAL)) :=
 (wBx 0 (↑p1.length:Int) (fun k22 l17 =>
  (idx p1 (↑k22:Int)).bind fun x49 =>
  (wAw x49.Loops.Hi).bind fun x66 =>
  (wAw (w64 (-x49.Loops.Lo))).bind fun x81 =>
  (app 40 l17 [(⟨(⟨0,(↑k22:Int)⟩:wAZ),x49.From,w64 (x49.To + 1),x66⟩:wAL),(⟨(⟨1,(↑k22:Int)⟩:wAZ),w64 (x49.To + 1),x49.From,x81⟩:wAL)]).bind fun x103 =>
  some x103) []).bind fun y27 =>
 (wBx 0 p0 (fun k159 l155 =>
  (wAw 9).bind fun x182 =>
  (wAw 0).bind fun x197 =>
  (app 40 l155 [(⟨(⟨2,(↑k159:Int)⟩:wAZ),(↑k159:Int),(↑(k159 + 1):Int),x182⟩:wAL),(⟨(⟨3,(↑k159:Int)⟩:wAZ),(↑(k159 + 1):Int),(↑k159:Int),x197⟩:wAL)]).bind fun x219 =>
  some x219) y27).bind fun y164 =>
 (wBx 0 (↑p2.length:Int) (fun k273 l269 =>
  (idx p2 (↑k273:Int)).bind fun x296 =>
  (wAw (w64 (-x296))).bind fun x306 =>
  (app 40 l269 [(⟨(⟨4,(↑k273:Int)⟩:wAZ),(↑(k273 + 1):Int),(↑k273:Int),x306⟩:wAL)]).bind fun x327 =>
  some x327) y164).bind fun y278 =>
 some y278
def wCJ (p0:Int) (p1:List wAL):Option ((Arr Int 81) × Bool) :=
 (wBx 0 9 (fun k17 a16 =>
  (wBx 0 9 (fun k45 a44 =>
   if (↑k17:Int)=(↑k45:Int) then
    some a44
   else
    (chk (↑k17:Int) 9).bind fun _ =>
    (chk (↑k45:Int) 9).bind fun _ =>
    some (a44.set (k17 * 9 + k45) 1048576)) a16).bind fun y50 =>
  some y50) (Arr.fill 81 0)).bind fun y22 =>
 (wBx 0 (↑p1.length:Int) (fun k117 a116 =>
  (idx p1 (↑k117:Int)).bind fun x140 =>
  (chk x140.from_ 9).bind fun _ =>
  (chk x140.to_ 9).bind fun _ =>
  (x140.count ()).bind fun x171 =>
  some (a116.set (x140.from_.toNat * 9 + x140.to_.toNat) (min (a116.get (x140.from_.toNat * 9 + x140.to_.toNat)) x171))) y22).bind fun y122 =>
 (wBx 0 (w64 (p0 + 1)) (fun k206 a205 =>
  (wBx 0 (w64 (p0 + 1)) (fun k234 a233 =>
   (wBx 0 (w64 (p0 + 1)) (fun k265 a264 =>
    (chk (↑k234:Int) 9).bind fun _ =>
    (chk (↑k265:Int) 9).bind fun _ =>
    (chk (↑k206:Int) 9).bind fun _ =>
    some (a264.set (k234 * 9 + k265) (min (a264.get (k234 * 9 + k265)) (w64 ((a264.get (k234 * 9 + k206)) + (a264.get (k206 * 9 + k265))))))) a233).bind fun y270 =>
   some y270) a205).bind fun y239 =>
  some y239) y122).bind fun y211 =>
 jn (wFU 0 (w64 (p0 + 1)) (fun k360 _ =>
  (chk (↑k360:Int) 9).bind fun _ =>
  if (y211.get (k360 * 9 + k360)) < 0 then
   esc (some (y211,false))
  else
   some (.inl ())) ()) fun _ =>
 some (y211,true)
def wDQ (p0:List Int) (p1:List wAE):Option (Bool × Int) :=
 (wDo p0 p1).bind fun x1 =>
 if x1=0 then
  (wDH (↑p0.length:Int) p1 p0).bind fun x15 =>
  (wCJ (↑p0.length:Int) x15).bind fun (x35,x36) =>
  some (!x36,0)
 else
  some (false,x1)
def wDR (p0:List (List Int)) (p1:List (List wAE)):Option ((List Int) × Int) :=
 if 8 < (↑p0.length:Int) then
  some ([],2)
 else
  if (↑p1.length:Int)=(↑p0.length:Int) then
   jn (wFU 0 (↑p0.length:Int) (fun k25 l21 =>
    (idx p0 (↑k25:Int)).bind fun x50 =>
    (idx p1 (↑k25:Int)).bind fun x63 =>
    (wDQ x50 x63).bind fun (x76,x77) =>
    if x77=0 then
     if x76=true then
      (app 8 l21 [(↑k25:Int)]).bind fun x96 =>
      some (.inl x96)
     else
      some (.inl l21)
    else
     esc (some ([],x77))) []) fun y121 =>
   some (y121,0)
  else
   some ([],2)
def wAu (p0:Int) (p1:Int) (p2:Int):Option (Bool) :=
 if p1 <= p0 then
  some (decide (p0 <= p2))
 else
  some false
def wBH (p0:wAH) (p1:(wAH->Option Bool)):Option (Bool) :=
 (p1 p0).bind fun x5 =>
 some (!x5)
def wAj (p0:List wAH) (p1:(wAH->Option Bool)):Option (Int) :=
 jn (wFU 0 (↑p0.length:Int) (fun k2 _ =>
  (idx p0 (↑k2:Int)).bind fun x22 =>
  (p1 x22).bind fun x30 =>
  if x30=true then
   esc (some (↑k2:Int))
  else
   some (.inl ())) ()) fun _ =>
 some (-1)
def wAn (p0:List wAH) (p1:(wAH->Option Bool)):Option (Bool) :=
 (wAj p0 p1).bind fun x1 =>
 some (decide (0 <= x1))
def wBo (p0:List wAH) (p1:(wAH->Option Bool)):Option (Bool) :=
 (wAn p0 (fun x=>wBH x p1)).bind fun x13 =>
 some (!x13)
def wCn (p0:wAH):Option (Bool) :=
 (wAu p0.Bib 1 999).bind fun x5 =>
 if x5=true then
  (wAu p0.Time (-1) 360000).bind fun x17 =>
  some x17
 else
  some false
def wAr (p0:wAC) (p1:(wAC->Option Bool)):Option (Bool) :=
 (p1 p0).bind fun x5 =>
 some (!x5)
def wAb (p0:List wAC) (p1:(wAC->Option Bool)):Option (Int) :=
 jn (wFU 0 (↑p0.length:Int) (fun k2 _ =>
  (idx p0 (↑k2:Int)).bind fun x22 =>
  (p1 x22).bind fun x30 =>
  if x30=true then
   esc (some (↑k2:Int))
  else
   some (.inl ())) ()) fun _ =>
 some (-1)
def wAg (p0:List wAC) (p1:(wAC->Option Bool)):Option (Bool) :=
 (wAb p0 p1).bind fun x1 =>
 some (decide (0 <= x1))
def wBA (p0:List wAC) (p1:(wAC->Option Bool)):Option (Bool) :=
 (wAg p0 (fun x=>wAr x p1)).bind fun x13 =>
 some (!x13)
def wAp (p0:Int):Option (Bool) :=
 some (decide (p0 <= 4))
def wBP (p0:wAC):Option (Bool) :=
 (if p0.Kind=3 then
  some true
 else
  (wAp p0.Kind).bind fun x13 =>
  if x13=true then
   some false
  else
   some (decide (¬ (p0.Kind=6)))).bind fun b5 =>
 if b5=true then
  (wAu p0.Number 1 9999).bind fun x38 =>
  if x38=true then
   (wAu p0.Kind 0 9).bind fun x50 =>
   if x50=true then
    (wAu p0.Minute 0 10000).bind fun x62 =>
    if x62=true then
     (wAu p0.Much 0 0).bind fun x74 =>
     some x74
    else
     some false
   else
    some false
  else
   some false
 else
  (wAu p0.Number 1 9999).bind fun x88 =>
  if x88=true then
   (wAu p0.Kind 0 9).bind fun x100 =>
   if x100=true then
    (wAu p0.Minute 0 10000).bind fun x112 =>
    if x112=true then
     (wAu p0.Much 0 36000).bind fun x124 =>
     some x124
    else
     some false
   else
    some false
  else
   some false
def wBs (p0:wAO):Option ((List Int)) :=
 (wBx 0 (↑p0.Skiers.length:Int) (fun k22 l18 =>
  (idx p0.Skiers (↑k22:Int)).bind fun x45 =>
  (app 8 l18 [x45.Bib]).bind fun x65 =>
  some x65) []).bind fun y27 =>
 some y27
def wDS (p0:List Int):Option (Bool) :=
 jn (wFU 0 (↑p0.length:Int) (fun k20 l17 =>
  (idx p0 (↑k20:Int)).bind fun x41 =>
  if (wEH l17 x41 false)=true then
   esc (some true)
  else
   some (.inl (wGn l17 x41 true))) ([]:List (Int × Bool))) fun y68 =>
 some false
def wBp (p0:wAO):Option ((List Int)) :=
 (wBx 0 (↑p0.Decisions.length:Int) (fun k22 l18 =>
  (idx p0.Decisions (↑k22:Int)).bind fun x45 =>
  (app 8 l18 [x45.Number]).bind fun x65 =>
  some x65) []).bind fun y27 =>
 some y27
def wCC (p0:List Int) (p1:Int):Option (Int) :=
 jn (wFU 0 (↑p0.length:Int) (fun k2 _ =>
  (idx p0 (↑k2:Int)).bind fun x22 =>
  if p1=x22 then
   esc (some (↑k2:Int))
  else
   some (.inl ())) ()) fun _ =>
 some (-1)
def wBK (p0:List Int) (p1:Int):Option (Bool) :=
 (wCC p0 p1).bind fun x1 =>
 some (decide (0 <= x1))
def wCo (p0:wAC) (p1:wAO):Option (Bool) :=
 (wAp p0.Kind).bind fun x5 =>
 if x5=true then
  (wBs p1).bind fun x22 =>
  (wBK x22 p0.Bib).bind fun x40 =>
  some x40
 else
  some (decide (p0.Bib=0))
def wCp (p0:wAC):Option (Bool) :=
 (wAp p0.Kind).bind fun x5 =>
 if x5=true then
  some (decide (p0.About=0))
 else
  (wAu p0.About 1 (w64 (p0.Number - 1))).bind fun x18 =>
  some x18
def wDp (p0:wAO):Option (Int) :=
 (wAu (↑p0.Skiers.length:Int) 1 30).bind fun x10 =>
 if x10=true then
  if 40 < (↑p0.Decisions.length:Int) then
   some 2
  else
   (wAu p0.Deadline 0 10000).bind fun x26 =>
   if x26=true then
    (wBo p0.Skiers wCn).bind fun x43 =>
    if x43=true then
     (wBA p0.Decisions wBP).bind fun x61 =>
     if x61=true then
      (wBs p0).bind fun x77 =>
      (wDS x77).bind fun x95 =>
      if x95=true then
       some 5
      else
       (wBp p0).bind fun x117 =>
       (wDS x117).bind fun x135 =>
       if x135=true then
        some 5
       else
        (wBA p0.Decisions (fun x=>wCo x p0)).bind fun x161 =>
        if x161=true then
         (wBA p0.Decisions wCp).bind fun x176 =>
         if x176=true then
          some 0
         else
          some 4
        else
         some 1
     else
      some 3
    else
     some 3
   else
    some 3
 else
  some 2
noncomputable def wBS (p0:List wAH) (p1:((wAH × wAH)->Option Int)):Option (List wAH):=wIW p1 p0
def wCT (p0:Int):Option (Bool) :=
 some (decide (¬ (p0=p0)))
def wBB (p0:Int) (p1:Int):Option (Int) :=
 (wCT p0).bind fun x1 =>
 (wCT p1).bind fun x11 =>
 if x1=true then
  if x11=true then
   some 0
  else
   some (-1)
 else
  if x11=true then
   some 1
  else
   if p0 < p1 then
    some (-1)
   else
    if p1 < p0 then
     some 1
    else
     some 0
def wCU (p0:wAH) (p1:wAH):Option (Int) :=
 (wBB p0.Bib p1.Bib).bind fun x9 =>
 some x9
noncomputable def wBC (p0:List wAC) (p1:((wAC × wAC)->Option Int)):Option (List wAC):=wIW p1 p0
def wCV (p0:wAC) (p1:wAC):Option (Int) :=
 (wBB p0.Number p1.Number).bind fun x9 =>
 some x9
def wDY (p0:wAO):Option (wAO × Int) :=
 (wDp p0).bind fun x9 =>
 if x9=0 then
  ((mkz 16 (↑p0.Skiers.length:Int) (⟨0,0⟩:wAH)).bind fun x32 =>
  (mkz 48 (↑p0.Decisions.length:Int) (⟨0,0,0,0,0,0⟩:wAC)).bind fun x40 =>
  some (x32,x40)).bind fun (l23,l26) =>
  (wLY l23 0 p0.Skiers).bind fun x223 =>
  (wLY l26 0 p0.Decisions).bind fun x233 =>
  (wBS x223 (fun x=>wCU x.1 x.2)).bind fun x242 =>
  (wBC x233 (fun x=>wCV x.1 x.2)).bind fun x256 =>
  some ((⟨p0.Deadline,x242,x256⟩:wAO),0)
 else
  some ((⟨0,[],[]⟩:wAO),x9)
def wAa {S E:Type} (f:S->(Int × wAC)->Option (S ⊕ E)) (s0:S) (p1:List wAC):Option (S ⊕ E) :=
 iter (fun (x11,s12) =>
  if 0 <= x11 then
   (idx p1 x11).bind fun x31 =>
   (f s12 (x11,x31)).bind fun yr39 =>
   match yr39 with
   | .inl s49 =>
    some (.inl (w64 (x11 - 1),s49))
   | .inr s49 =>
    esc (some (.inr s49))
  else
   esc (some (.inl s12))) big (w64 ((↑p1.length:Int) - 1),s0)
def wAl (p0:List wAC):Option (Unit) :=
 some ()
def wDq (p0:wAO):Option ((Option wAR) × Int) :=
 (wDY p0).bind fun (x5,x6) =>
 if x6=0 then
  (wAl x5.Decisions).bind fun _ =>
  (wAa (S:=(List (Int × wAC))) (E:=Empty) (fun l121 x134 =>
   if 0 < x134.2.About then
    none
   else
    some (.inl (wGn l121 x134.2.Number x134.2))) ([]:List (Int × wAC)) x5.Decisions).bind fun rr127 =>
  match rr127 with
  | .inl y186 =>
   some ((some (⟨x5,y186,([]:List (Int × Unit))⟩:wAR)),0)
  | .inr e189 =>
   e189.elim
 else
  some (none,x6)
def wDK (p0:Int):Option (Bool) :=
 if p0=4 then
  some true
 else
  some (decide (p0=7))
def wCi (p0:wAR) (p1:wAC):Option (Bool) :=
 (wDK p1.Kind).bind fun x7 =>
 if x7=true then
  some (decide (p0.Record.Deadline < p1.Minute))
 else
  some false
def wCs (p0:wAC) (p1:(Int->Option Bool)) (p2:wAR) (p3:Unit):Option (wAC × Bool) :=
 (wBx 0 0 (fun k12 _ =>
  none) ()).bind fun _ =>
 some ((⟨0,0,0,0,0,0⟩:wAC),false)
def wCW (p0:Int):Option (Bool) :=
 if p0=8 then
  some true
 else
  some (decide (p0=9))
def wCK (p0:wAC) (p1:List (Int × Bool)) (p2:wAR) (p3:wAR) (p4:Unit):Option (Bool × (List (Int × Bool))) :=
 if (wKi p1 p0.Number)=true then
  some ((wEH p1 p0.Number false),p1)
 else
  (wCi p2 p0).bind fun x9 =>
  (wBx 0 0 (fun k25 _ =>
   none) ()).bind fun _ =>
  some (!x9,(wGn p1 p0.Number (!x9)))
def wDZ (p0:wAC) (p1:wAR):Option (wAC × Bool) :=
 (wCs p0 wCW p1 ()).bind fun (x10,x11) =>
 some (x10,x11)
def wDa (p0:wAC) (p1:wAR) (p2:List Int):Option (Bool) :=
 (wDZ p0 p1).bind fun (x5,x6) =>
 if x6=true then
  some (decide (x5.Kind=8))
 else
  (wBK p2 p0.Number).bind fun x28 =>
  some x28
def wBw (p0:Int):Option (Bool) :=
 some (decide (p0=6))
def wDb (p0:wAC) (p1:wAR):Option (wAC × Bool) :=
 (wCs p0 wBw p1 ()).bind fun (x10,x11) =>
 some (x10,x11)
def wAQ (p0:wAC) (p1:wAR):Option (Int) :=
 (wDb p0 p1).bind fun (x5,x6) =>
 if x6=true then
  none
 else
  some p0.Much
def wDL (p0:wAR) (p1:List Int):Option ((List (Int × Bool))) :=
 some ([]:List (Int × Bool))
def wCX (p0:(wAR × List Int × List (Int × Bool))) (p1:wAC) (p2:Int):Option (Bool × (List (Int × Bool))) :=
 (wAp p1.Kind).bind fun x10 =>
 if x10=true then
  if p1.Bib=p2 then
   (wCK p1 p0.2.2 p0.1 p0.1 ()).bind fun (x32,x33) =>
   if x32=true then
    if p1.Kind=4 then
     (wDa p1 p0.1 p0.2.1).bind fun x65 =>
     some (x65,x33)
    else
     some (true,x33)
   else
    some (false,x33)
  else
   some (false,p0.2.2)
 else
  some (false,p0.2.2)
def wAx (p0:Int) (p1:Int):Option (Int) :=
 some (w64 (p0 + p1))
def wCG (p0:Int) (p1:Int):Option (Int) :=
 some (w64 (p0 - p1))
def wBj (p0:Int) (p1:Int):Option (Int) :=
 some (w64 (p0 + (w64 (1200 * p1))))
def wCH (p0:Int) (p1:Int):Option (Int) :=
 some p0
def wAV :Option (Unit) :=
 some ()
def wCz (p0:Int) (p1:List Int):Option (Int) :=
 (wBx 0 (↑p1.length:Int) (fun k7 x6 =>
  (idx p1 (↑k7:Int)).bind fun x28 =>
  some (max x6 x28)) p0).bind fun y12 =>
 some y12
def wBz (p0:wAR) (p1:wAH) (p2:(wAR × List Int × List (Int × Bool))):Option (Int × Bool × (List (Int × Bool))) :=
 (wBx 0 (↑p0.Record.Decisions.length:Int) (fun k34 (l29,b32,x33) =>
  ((idx p0.Record.Decisions (↑k34:Int)).bind fun x69 =>
  (wCX (p2.1,p2.2.1,l29) x69 p1.Bib).bind fun (x96,x97) =>
  if x96=true then
   if b32=true then
    if x69.Kind=0 then
     (wAV).bind fun _ =>
     (wAQ x69 p2.1).bind fun x144 =>
     (wAx x33 x144).bind fun x154 =>
     some (x97,true,x154)
    else
     if x69.Kind=1 then
      (wAV).bind fun _ =>
      (wAQ x69 p2.1).bind fun x199 =>
      (wCG x33 x199).bind fun x209 =>
      some (x97,true,x209)
     else
      if x69.Kind=2 then
       (wAV).bind fun _ =>
       (wAQ x69 p2.1).bind fun x254 =>
       (wBj x33 x254).bind fun x264 =>
       some (x97,true,x264)
      else
       if x69.Kind=3 then
        (wAV).bind fun _ =>
        (wAQ x69 p2.1).bind fun x309 =>
        (wCH x33 x309).bind fun x319 =>
        some (x97,true,x319)
       else
        if x69.Kind=4 then
         (wAV).bind fun _ =>
         (wAQ x69 p2.1).bind fun x364 =>
         (wAx x33 x364).bind fun x374 =>
         some (x97,true,x374)
        else
         none
   else
    if x69.Kind=0 then
     (wAV).bind fun _ =>
     (wAQ x69 p2.1).bind fun x420 =>
     (wAx x33 x420).bind fun x430 =>
     some (x97,decide (x69.Kind=3),x430)
    else
     if x69.Kind=1 then
      (wAV).bind fun _ =>
      (wAQ x69 p2.1).bind fun x475 =>
      (wCG x33 x475).bind fun x485 =>
      some (x97,decide (x69.Kind=3),x485)
     else
      if x69.Kind=2 then
       (wAV).bind fun _ =>
       (wAQ x69 p2.1).bind fun x530 =>
       (wBj x33 x530).bind fun x540 =>
       some (x97,decide (x69.Kind=3),x540)
      else
       if x69.Kind=3 then
        (wAV).bind fun _ =>
        (wAQ x69 p2.1).bind fun x585 =>
        (wCH x33 x585).bind fun x595 =>
        some (x97,decide (x69.Kind=3),x595)
       else
        if x69.Kind=4 then
         (wAV).bind fun _ =>
         (wAQ x69 p2.1).bind fun x640 =>
         (wAx x33 x640).bind fun x650 =>
         some (x97,decide (x69.Kind=3),x650)
        else
         none
  else
   some (x97,b32,x33)).bind fun (l61,b64,x65) =>
  some (l61,b64,x65)) (p2.2.2,decide (p1.Time=(-1)),p1.Time)).bind fun (y39,y40,y41) =>
 if y40=true then
  some (0,true,y39)
 else
  (wCz 0 [y41]).bind fun x725 =>
  some (x725,false,y39)
def wAc (p0:List wAA) (p1:Int) (p2:Int) (p3:((wAA × wAA)->Option Int)):Option ((List wAA)) :=
 iter (fun (l8,x9) =>
  if x9 < p2 then
   iter (fun (l34,x35) =>
    if p1 < x35 then
     (chk x35 l34.length).bind fun _ =>
     (chk (w64 (x35 - 1)) l34.length).bind fun _ =>
     (p3 ((gd l34 x35.toNat),(gd l34 (w64 (x35 - 1)).toNat))).bind fun x65 =>
     if x65 < 0 then
      (chk (w64 (x35 - 1)) (hM l34 x35.toNat (gd l34 (w64 (x35 - 1)).toNat)).length).bind fun _ =>
      some (.inl ((hM (hM l34 x35.toNat (gd l34 (w64 (x35 - 1)).toNat)) (w64 (x35 - 1)).toNat (gd l34 x35.toNat)),w64 (x35 - 1)))
     else
      esc (some (.inl (l34,w64 (x9 + 1))))
    else
     esc (some (.inl (l34,w64 (x9 + 1))))) big (l8,x9)
  else
   esc (some l8)) big (p0,w64 (p1 + 1))
def wAo (p0:List wAA) (p1:Int) (p2:Int) (p3:Int) (p4:((wAA × wAA)->Option Int)):Option ((List wAA)) :=
 (wBx 0 p3 (fun k8 l7 =>
  (chk (w64 (p2 + (↑k8:Int))) l7.length).bind fun _ =>
  (chk (w64 (p1 + (↑k8:Int))) l7.length).bind fun _ =>
  (chk (w64 (p2 + (↑k8:Int))) (hM l7 (w64 (p1 + (↑k8:Int))).toNat (gd l7 (w64 (p2 + (↑k8:Int))).toNat)).length).bind fun _ =>
  some (hM (hM l7 (w64 (p1 + (↑k8:Int))).toNat (gd l7 (w64 (p2 + (↑k8:Int))).toNat)) (w64 (p2 + (↑k8:Int))).toNat (gd l7 (w64 (p1 + (↑k8:Int))).toNat))) p0).bind fun y13 =>
 some y13
def wBQ (p0:List wAA) (p1:Int) (p2:Int) (p3:Int) (p4:((wAA × wAA)->Option Int)):Option ((List wAA)) :=
 (iter (fun (l16,x17,x18) =>
  if x17=x18 then
   esc (some (l16,x17))
  else
   if x18 < x17 then
    (wAo l16 (w64 (p2 - x17)) p2 x18 p4).bind fun x46 =>
    some (.inl (x46,w64 (x17 - x18),x18))
   else
    (wAo l16 (w64 (p2 - x17)) (w64 ((w64 (p2 + x18)) - x17)) x17 p4).bind fun x62 =>
    some (.inl (x62,x17,w64 (x18 - x17)))) big (p0,w64 (p2 - p1),w64 (p3 - p2))).bind fun (l2,x3) =>
 (wAo l2 (w64 (p2 - x3)) p2 x3 p4).bind fun x87 =>
 some x87
def wBX (rec_:(List wAA)->Int->Int->Int->((wAA × wAA)->Option Int)->Option ((List wAA))) (p0:List wAA) (p1:Int) (p2:Int) (p3:Int) (p4:((wAA × wAA)->Option Int)):Option ((List wAA)) :=
 if (w64 (p2 - p1))=1 then
  (iter (fun (x14,x15) =>
   if x14 < x15 then
    (chk (w64 ((wAP (w64 (x14 + x15))) / 2)) p0.length).bind fun _ =>
    (chk p1 p0.length).bind fun _ =>
    (p4 ((gd p0 (w64 ((wAP (w64 (x14 + x15))) / 2)).toNat),(gd p0 p1.toNat))).bind fun x43 =>
    if x43 < 0 then
     some (.inl (w64 ((w64 ((wAP (w64 (x14 + x15))) / 2)) + 1),x15))
    else
     some (.inl (x14,w64 ((wAP (w64 (x14 + x15))) / 2)))
   else
    esc (some x14)) big (p2,p3)).bind fun x4 =>
  iter (fun (l80,x81) =>
   if x81 < (w64 (x4 - 1)) then
    (chk (w64 (x81 + 1)) l80.length).bind fun _ =>
    (chk x81 l80.length).bind fun _ =>
    (chk (w64 (x81 + 1)) (hM l80 x81.toNat (gd l80 (w64 (x81 + 1)).toNat)).length).bind fun _ =>
    some (.inl ((hM (hM l80 x81.toNat (gd l80 (w64 (x81 + 1)).toNat)) (w64 (x81 + 1)).toNat (gd l80 x81.toNat)),w64 (x81 + 1)))
   else
    esc (some l80)) big (p0,p1)
 else
  if (w64 (p3 - p2))=1 then
   (iter (fun (x137,x138) =>
    if x137 < x138 then
     (chk p2 p0.length).bind fun _ =>
     (chk (w64 ((wAP (w64 (x137 + x138))) / 2)) p0.length).bind fun _ =>
     (p4 ((gd p0 p2.toNat),(gd p0 (w64 ((wAP (w64 (x137 + x138))) / 2)).toNat))).bind fun x166 =>
     if x166 < 0 then
      some (.inl (x137,w64 ((wAP (w64 (x137 + x138))) / 2)))
     else
      some (.inl (w64 ((w64 ((wAP (w64 (x137 + x138))) / 2)) + 1),x138))
    else
     esc (some x137)) big (p1,p2)).bind fun x127 =>
   iter (fun (l203,x204) =>
    if x127 < x204 then
     (chk (w64 (x204 - 1)) l203.length).bind fun _ =>
     (chk x204 l203.length).bind fun _ =>
     (chk (w64 (x204 - 1)) (hM l203 x204.toNat (gd l203 (w64 (x204 - 1)).toNat)).length).bind fun _ =>
     some (.inl ((hM (hM l203 x204.toNat (gd l203 (w64 (x204 - 1)).toNat)) (w64 (x204 - 1)).toNat (gd l203 x204.toNat)),w64 (x204 - 1)))
    else
     esc (some l203)) big (p0,p2)
  else
   if (w64 ((wAP (w64 (p1 + p3))) / 2)) < p2 then
    (iter (fun (x260,x261) =>
     if x260 < x261 then
      (chk (w64 ((w64 ((w64 ((w64 ((wAP (w64 (p1 + p3))) / 2)) + p2)) - 1)) - (w64 ((wAP (w64 (x260 + x261))) / 2)))) p0.length).bind fun _ =>
      (chk (w64 ((wAP (w64 (x260 + x261))) / 2)) p0.length).bind fun _ =>
      (p4 ((gd p0 (w64 ((w64 ((w64 ((w64 ((wAP (w64 (p1 + p3))) / 2)) + p2)) - 1)) - (w64 ((wAP (w64 (x260 + x261))) / 2)))).toNat),(gd p0 (w64 ((wAP (w64 (x260 + x261))) / 2)).toNat))).bind fun x294 =>
      if x294 < 0 then
       some (.inl (x260,w64 ((wAP (w64 (x260 + x261))) / 2)))
      else
       some (.inl (w64 ((w64 ((wAP (w64 (x260 + x261))) / 2)) + 1),x261))
     else
      esc (some x260)) big (w64 ((w64 ((w64 ((wAP (w64 (p1 + p3))) / 2)) + p2)) - p3),w64 ((wAP (w64 (p1 + p3))) / 2))).bind fun x250 =>
    (if x250 < p2 then
     some (decide (p2 < (w64 ((w64 ((w64 ((wAP (w64 (p1 + p3))) / 2)) + p2)) - x250))))
    else
     some false).bind fun b330 =>
    if b330=true then
     (wBQ p0 x250 p2 (w64 ((w64 ((w64 ((wAP (w64 (p1 + p3))) / 2)) + p2)) - x250)) p4).bind fun x357 =>
     if p1 < x250 then
      if x250 < (w64 ((wAP (w64 (p1 + p3))) / 2)) then
       (rec_ x357 p1 x250 (w64 ((wAP (w64 (p1 + p3))) / 2)) p4).bind fun x373 =>
       if (w64 ((wAP (w64 (p1 + p3))) / 2)) < (w64 ((w64 ((w64 ((wAP (w64 (p1 + p3))) / 2)) + p2)) - x250)) then
        if (w64 ((w64 ((w64 ((wAP (w64 (p1 + p3))) / 2)) + p2)) - x250)) < p3 then
         (rec_ x373 (w64 ((wAP (w64 (p1 + p3))) / 2)) (w64 ((w64 ((w64 ((wAP (w64 (p1 + p3))) / 2)) + p2)) - x250)) p3 p4).bind fun x389 =>
         some x389
        else
         some x373
       else
        some x373
      else
       if (w64 ((wAP (w64 (p1 + p3))) / 2)) < (w64 ((w64 ((w64 ((wAP (w64 (p1 + p3))) / 2)) + p2)) - x250)) then
        if (w64 ((w64 ((w64 ((wAP (w64 (p1 + p3))) / 2)) + p2)) - x250)) < p3 then
         (rec_ x357 (w64 ((wAP (w64 (p1 + p3))) / 2)) (w64 ((w64 ((w64 ((wAP (w64 (p1 + p3))) / 2)) + p2)) - x250)) p3 p4).bind fun x408 =>
         some x408
        else
         some x357
       else
        some x357
     else
      if (w64 ((wAP (w64 (p1 + p3))) / 2)) < (w64 ((w64 ((w64 ((wAP (w64 (p1 + p3))) / 2)) + p2)) - x250)) then
       if (w64 ((w64 ((w64 ((wAP (w64 (p1 + p3))) / 2)) + p2)) - x250)) < p3 then
        (rec_ x357 (w64 ((wAP (w64 (p1 + p3))) / 2)) (w64 ((w64 ((w64 ((wAP (w64 (p1 + p3))) / 2)) + p2)) - x250)) p3 p4).bind fun x427 =>
        some x427
       else
        some x357
      else
       some x357
    else
     if p1 < x250 then
      if x250 < (w64 ((wAP (w64 (p1 + p3))) / 2)) then
       (rec_ p0 p1 x250 (w64 ((wAP (w64 (p1 + p3))) / 2)) p4).bind fun x447 =>
       if (w64 ((wAP (w64 (p1 + p3))) / 2)) < (w64 ((w64 ((w64 ((wAP (w64 (p1 + p3))) / 2)) + p2)) - x250)) then
        if (w64 ((w64 ((w64 ((wAP (w64 (p1 + p3))) / 2)) + p2)) - x250)) < p3 then
         (rec_ x447 (w64 ((wAP (w64 (p1 + p3))) / 2)) (w64 ((w64 ((w64 ((wAP (w64 (p1 + p3))) / 2)) + p2)) - x250)) p3 p4).bind fun x463 =>
         some x463
        else
         some x447
       else
        some x447
      else
       if (w64 ((wAP (w64 (p1 + p3))) / 2)) < (w64 ((w64 ((w64 ((wAP (w64 (p1 + p3))) / 2)) + p2)) - x250)) then
        if (w64 ((w64 ((w64 ((wAP (w64 (p1 + p3))) / 2)) + p2)) - x250)) < p3 then
         (rec_ p0 (w64 ((wAP (w64 (p1 + p3))) / 2)) (w64 ((w64 ((w64 ((wAP (w64 (p1 + p3))) / 2)) + p2)) - x250)) p3 p4).bind fun x483 =>
         some x483
        else
         some p0
       else
        some p0
     else
      if (w64 ((wAP (w64 (p1 + p3))) / 2)) < (w64 ((w64 ((w64 ((wAP (w64 (p1 + p3))) / 2)) + p2)) - x250)) then
       if (w64 ((w64 ((w64 ((wAP (w64 (p1 + p3))) / 2)) + p2)) - x250)) < p3 then
        (rec_ p0 (w64 ((wAP (w64 (p1 + p3))) / 2)) (w64 ((w64 ((w64 ((wAP (w64 (p1 + p3))) / 2)) + p2)) - x250)) p3 p4).bind fun x503 =>
        some x503
       else
        some p0
      else
       some p0
   else
    (iter (fun (x527,x528) =>
     if x527 < x528 then
      (chk (w64 ((w64 ((w64 ((w64 ((wAP (w64 (p1 + p3))) / 2)) + p2)) - 1)) - (w64 ((wAP (w64 (x527 + x528))) / 2)))) p0.length).bind fun _ =>
      (chk (w64 ((wAP (w64 (x527 + x528))) / 2)) p0.length).bind fun _ =>
      (p4 ((gd p0 (w64 ((w64 ((w64 ((w64 ((wAP (w64 (p1 + p3))) / 2)) + p2)) - 1)) - (w64 ((wAP (w64 (x527 + x528))) / 2)))).toNat),(gd p0 (w64 ((wAP (w64 (x527 + x528))) / 2)).toNat))).bind fun x561 =>
      if x561 < 0 then
       some (.inl (x527,w64 ((wAP (w64 (x527 + x528))) / 2)))
      else
       some (.inl (w64 ((w64 ((wAP (w64 (x527 + x528))) / 2)) + 1),x528))
     else
      esc (some x527)) big (p1,p2)).bind fun x517 =>
    (if x517 < p2 then
     some (decide (p2 < (w64 ((w64 ((w64 ((wAP (w64 (p1 + p3))) / 2)) + p2)) - x517))))
    else
     some false).bind fun b597 =>
    if b597=true then
     (wBQ p0 x517 p2 (w64 ((w64 ((w64 ((wAP (w64 (p1 + p3))) / 2)) + p2)) - x517)) p4).bind fun x624 =>
     if p1 < x517 then
      if x517 < (w64 ((wAP (w64 (p1 + p3))) / 2)) then
       (rec_ x624 p1 x517 (w64 ((wAP (w64 (p1 + p3))) / 2)) p4).bind fun x640 =>
       if (w64 ((wAP (w64 (p1 + p3))) / 2)) < (w64 ((w64 ((w64 ((wAP (w64 (p1 + p3))) / 2)) + p2)) - x517)) then
        if (w64 ((w64 ((w64 ((wAP (w64 (p1 + p3))) / 2)) + p2)) - x517)) < p3 then
         (rec_ x640 (w64 ((wAP (w64 (p1 + p3))) / 2)) (w64 ((w64 ((w64 ((wAP (w64 (p1 + p3))) / 2)) + p2)) - x517)) p3 p4).bind fun x656 =>
         some x656
        else
         some x640
       else
        some x640
      else
       if (w64 ((wAP (w64 (p1 + p3))) / 2)) < (w64 ((w64 ((w64 ((wAP (w64 (p1 + p3))) / 2)) + p2)) - x517)) then
        if (w64 ((w64 ((w64 ((wAP (w64 (p1 + p3))) / 2)) + p2)) - x517)) < p3 then
         (rec_ x624 (w64 ((wAP (w64 (p1 + p3))) / 2)) (w64 ((w64 ((w64 ((wAP (w64 (p1 + p3))) / 2)) + p2)) - x517)) p3 p4).bind fun x675 =>
         some x675
        else
         some x624
       else
        some x624
     else
      if (w64 ((wAP (w64 (p1 + p3))) / 2)) < (w64 ((w64 ((w64 ((wAP (w64 (p1 + p3))) / 2)) + p2)) - x517)) then
       if (w64 ((w64 ((w64 ((wAP (w64 (p1 + p3))) / 2)) + p2)) - x517)) < p3 then
        (rec_ x624 (w64 ((wAP (w64 (p1 + p3))) / 2)) (w64 ((w64 ((w64 ((wAP (w64 (p1 + p3))) / 2)) + p2)) - x517)) p3 p4).bind fun x694 =>
        some x694
       else
        some x624
      else
       some x624
    else
     if p1 < x517 then
      if x517 < (w64 ((wAP (w64 (p1 + p3))) / 2)) then
       (rec_ p0 p1 x517 (w64 ((wAP (w64 (p1 + p3))) / 2)) p4).bind fun x714 =>
       if (w64 ((wAP (w64 (p1 + p3))) / 2)) < (w64 ((w64 ((w64 ((wAP (w64 (p1 + p3))) / 2)) + p2)) - x517)) then
        if (w64 ((w64 ((w64 ((wAP (w64 (p1 + p3))) / 2)) + p2)) - x517)) < p3 then
         (rec_ x714 (w64 ((wAP (w64 (p1 + p3))) / 2)) (w64 ((w64 ((w64 ((wAP (w64 (p1 + p3))) / 2)) + p2)) - x517)) p3 p4).bind fun x730 =>
         some x730
        else
         some x714
       else
        some x714
      else
       if (w64 ((wAP (w64 (p1 + p3))) / 2)) < (w64 ((w64 ((w64 ((wAP (w64 (p1 + p3))) / 2)) + p2)) - x517)) then
        if (w64 ((w64 ((w64 ((wAP (w64 (p1 + p3))) / 2)) + p2)) - x517)) < p3 then
         (rec_ p0 (w64 ((wAP (w64 (p1 + p3))) / 2)) (w64 ((w64 ((w64 ((wAP (w64 (p1 + p3))) / 2)) + p2)) - x517)) p3 p4).bind fun x750 =>
         some x750
        else
         some p0
       else
        some p0
     else
      if (w64 ((wAP (w64 (p1 + p3))) / 2)) < (w64 ((w64 ((w64 ((wAP (w64 (p1 + p3))) / 2)) + p2)) - x517)) then
       if (w64 ((w64 ((w64 ((wAP (w64 (p1 + p3))) / 2)) + p2)) - x517)) < p3 then
        (rec_ p0 (w64 ((wAP (w64 (p1 + p3))) / 2)) (w64 ((w64 ((w64 ((wAP (w64 (p1 + p3))) / 2)) + p2)) - x517)) p3 p4).bind fun x770 =>
        some x770
       else
        some p0
      else
       some p0
def wAq:Nat->(List wAA)->Int->Int->Int->((wAA × wAA)->Option Int)->Option ((List wAA))
 | 0=>fun _ _ _ _ _=>none
 | n_ + 1=>wBX (wAq n_)
def wBR (p0:List wAA) (p1:Int) (p2:((wAA × wAA)->Option Int)):Option ((List wAA)) :=
 (iter (fun (l16,x17,x18) =>
  if x18 <= p1 then
   (wAc l16 x17 x18 p2).bind fun x39 =>
   some (.inl (x39,x18,w64 (x18 + 20)))
  else
   esc (some (l16,x17))) big (p0,0,20)).bind fun (l2,x3) =>
 (wAc l2 x3 p1 p2).bind fun x71 =>
 iter (fun (l88,x89) =>
  if x89 < p1 then
   (iter (fun (l121,x122,x123) =>
    if x123 <= p1 then
     (wAq 1000 l121 x122 (w64 (x122 + x89)) x123 p2).bind fun x146 =>
     some (.inl (x146,x123,w64 (x123 + (w64 (2 * x89)))))
    else
     esc (some (l121,x122))) big (l88,0,w64 (2 * x89))).bind fun (l107,x108) =>
   if (w64 (x108 + x89)) < p1 then
    (wAq 1000 l107 x108 (w64 (x108 + x89)) p1 p2).bind fun x182 =>
    some (.inl (x182,w64 (x89 * 2)))
   else
    some (.inl (l107,w64 (x89 * 2)))
  else
   esc (some l88)) big (x71,20)
def wAY (p0:List wAA) (p1:((wAA × wAA)->Option Int)):Option ((List wAA)) :=
 (wBR p0 (↑p0.length:Int) p1).bind fun x2 =>
 some x2
def wBM (p0:wAA) (p1:wAA):Option (Int) :=
 (wBB p0.Total p1.Total).bind fun x9 =>
 some x9
def wCt (p0:wAR) (p1:(wAR × List Int × List (Int × Bool))):Option ((List wAA) × (List (Int × Bool))) :=
 (wBx 0 (↑p0.Record.Skiers.length:Int) (fun k50 (l39,l42,l46) =>
  (idx p0.Record.Skiers (↑k50:Int)).bind fun x81 =>
  (wBz p0 x81 (p1.1,p1.2.1,l39)).bind fun (x112,x113,x114) =>
  if x113=true then
   (app 24 l46 [(⟨x81.Bib,-1,0⟩:wAA)]).bind fun x135 =>
   some (x114,l42,x135)
  else
   (app 24 l42 [(⟨x81.Bib,0,x112⟩:wAA)]).bind fun x158 =>
   some (x114,x158,l46)) (p1.2.2,[],[])).bind fun (y55,y56,y57) =>
 (wAY y56 (fun x=>wBM x.1 x.2)).bind fun x206 =>
 (wBx 0 (↑x206.length:Int) (fun k224 l223 =>
  (chk (↑k224:Int) l223.length).bind fun _ =>
  if 0 < (↑k224:Int) then
   (chk (↑k224:Int) (hM l223 k224 (⟨(gd l223 k224).Bib,(↑(k224 + 1):Int),(gd l223 k224).Total⟩:wAA)).length).bind fun _ =>
   (chk (w64 ((↑k224:Int) - 1)) (hM l223 k224 (⟨(gd l223 k224).Bib,(↑(k224 + 1):Int),(gd l223 k224).Total⟩:wAA)).length).bind fun _ =>
   if ((gd (hM l223 k224 (⟨(gd l223 k224).Bib,(↑(k224 + 1):Int),(gd l223 k224).Total⟩:wAA)) k224).Total)=((gd (hM l223 k224 (⟨(gd l223 k224).Bib,(↑(k224 + 1):Int),(gd l223 k224).Total⟩:wAA)) (w64 ((↑k224:Int) - 1)).toNat).Total) then
    some (hM (hM l223 k224 (⟨(gd l223 k224).Bib,(↑(k224 + 1):Int),(gd l223 k224).Total⟩:wAA)) k224 (⟨(gd (hM l223 k224 (⟨(gd l223 k224).Bib,(↑(k224 + 1):Int),(gd l223 k224).Total⟩:wAA)) k224).Bib,(gd (hM l223 k224 (⟨(gd l223 k224).Bib,(↑(k224 + 1):Int),(gd l223 k224).Total⟩:wAA)) (w64 ((↑k224:Int) - 1)).toNat).Place,(gd (hM l223 k224 (⟨(gd l223 k224).Bib,(↑(k224 + 1):Int),(gd l223 k224).Total⟩:wAA)) k224).Total⟩:wAA))
   else
    some (hM l223 k224 (⟨(gd l223 k224).Bib,(↑(k224 + 1):Int),(gd l223 k224).Total⟩:wAA))
  else
   some (hM l223 k224 (⟨(gd l223 k224).Bib,(↑(k224 + 1):Int),(gd l223 k224).Total⟩:wAA))) x206).bind fun y229 =>
 (app 24 y229 y57).bind fun x289 =>
 some (x289,y55)
def wCe (p0:wAO):Option ((List wAA) × Int) :=
 (wDq p0).bind fun (x5,x6) =>
 match x5 with
 | none =>
  if x6=0 then
   none
  else
   some ([],x6)
 | some x27 =>
  if x6=0 then
   (wDL x27 []).bind fun x74 =>
   (wCt x27 (x27,[],x74)).bind fun (x106,x107) =>
   some (x106,0)
  else
   some ([],x6)
def wBc (p0:List wAJ) (p1:(wAJ->Option Bool)):Option (Bool) :=
 jn (wFU 0 (↑p0.length:Int) (fun k2 _ =>
  (idx p0 (↑k2:Int)).bind fun x22 =>
  (p1 x22).bind fun x37 =>
  if x37=true then
   some (.inl ())
  else
   esc (some false)) ()) fun _ =>
 some true
def wDT (p0:Int) (p1:Int) (p2:Int):Option (Bool) :=
 if p1 <= p0 then
  some (decide (p0 <= p2))
 else
  some false
def wBd (p0:wAJ):Option (Bool) :=
 (wDT p0.Bib 1 999).bind fun x5 =>
 if x5=true then
  (wDT p0.Time 0 360000).bind fun x17 =>
  some x17
 else
  some false
def wDc (p0:List Int):Option (Bool) :=
 jn (wFU 0 (↑p0.length:Int) (fun k20 l17 =>
  (idx p0 (↑k20:Int)).bind fun x41 =>
  if (wEH l17 x41 false)=true then
   esc (some true)
  else
   some (.inl (wGn l17 x41 true))) ([]:List (Int × Bool))) fun y68 =>
 some false
def wDA (p0:List wAJ) (p1:wAX):Option (Int) :=
 (wBx 0 (↑p0.length:Int) (fun k22 l18 =>
  (idx p0 (↑k22:Int)).bind fun x47 =>
  (app 8 l18 [x47.Bib]).bind fun x67 =>
  some x67) []).bind fun y27 =>
 if 60 < (↑p0.length:Int) then
  some 2
 else
  (wBc p0 wBd).bind fun x101 =>
  if x101=true then
   (wDT p1.Unit 1 600).bind fun x113 =>
   if x113=true then
    (wDT p1.Limit 0 360000).bind fun x125 =>
    if x125=true then
     (wDc y27).bind fun x142 =>
     if x142=true then
      some 5
     else
      some 0
    else
     some 3
   else
    some 3
  else
   some 3
def wCj (p0:List wAJ) (p1:wAX):Option ((List Int) × Int) :=
 (wDA p0 p1).bind fun x5 =>
 if x5=0 then
  (wBx 0 (↑p0.length:Int) (fun k23 x22 =>
   (idx p0 (↑k23:Int)).bind fun x46 =>
   some (min x22 x46.Time)) 360000).bind fun y28 =>
  (wBx 0 (↑p0.length:Int) (fun k94 l90 =>
   (idx p0 (↑k94:Int)).bind fun x119 =>
   (rem (w64 (x119.Time - y28)) p1.Unit).bind fun x138 =>
   (app 8 l90 [min (w64 ((w64 (x119.Time - y28)) - x138)) p1.Limit]).bind fun x146 =>
   some x146) []).bind fun y99 =>
  some (y99,0)
 else
  some ([],x5)
def wDr (p0:List Int):Option (Int) :=
 jn (wFU 0 (↑p0.length:Int) (fun k2 _ =>
  (idx p0 (↑k2:Int)).bind fun x22 =>
  if x22=0 then
   some (.inl ())
  else
   esc (some x22)) ()) fun _ =>
 some 0
def wBe (p0:Int) (p1:Int) (p2:List Int) (p3:List wAJ):Option (Int) :=
 (idx p2 p0).bind fun x3 =>
 (idx p2 p1).bind fun x10 =>
 (idx p3 p0).bind fun x17 =>
 (idx p3 p1).bind fun x24 =>
 (wBB x3 x10).bind fun x31 =>
 (wBB x17.Time x24.Time).bind fun x41 =>
 (wDr [x31,x41]).bind fun x61 =>
 some x61
def wAS (p0:List Int) (p1:Int) (p2:Int) (p3:((Int × Int)->Option Int)):Option ((List Int)) :=
 iter (fun (l8,x9) =>
  if x9 < p2 then
   iter (fun (l34,x35) =>
    if p1 < x35 then
     (chk x35 l34.length).bind fun _ =>
     (chk (w64 (x35 - 1)) l34.length).bind fun _ =>
     (p3 ((gd l34 x35.toNat),(gd l34 (w64 (x35 - 1)).toNat))).bind fun x65 =>
     if x65 < 0 then
      (chk (w64 (x35 - 1)) (hM l34 x35.toNat (gd l34 (w64 (x35 - 1)).toNat)).length).bind fun _ =>
      some (.inl ((hM (hM l34 x35.toNat (gd l34 (w64 (x35 - 1)).toNat)) (w64 (x35 - 1)).toNat (gd l34 x35.toNat)),w64 (x35 - 1)))
     else
      esc (some (.inl (l34,w64 (x9 + 1))))
    else
     esc (some (.inl (l34,w64 (x9 + 1))))) big (l8,x9)
  else
   esc (some l8)) big (p0,w64 (p1 + 1))
def wAM (p0:List Int) (p1:Int) (p2:Int) (p3:Int) (p4:((Int × Int)->Option Int)):Option ((List Int)) :=
 (wBx 0 p3 (fun k8 l7 =>
  (chk (w64 (p2 + (↑k8:Int))) l7.length).bind fun _ =>
  (chk (w64 (p1 + (↑k8:Int))) l7.length).bind fun _ =>
  (chk (w64 (p2 + (↑k8:Int))) (hM l7 (w64 (p1 + (↑k8:Int))).toNat (gd l7 (w64 (p2 + (↑k8:Int))).toNat)).length).bind fun _ =>
  some (hM (hM l7 (w64 (p1 + (↑k8:Int))).toNat (gd l7 (w64 (p2 + (↑k8:Int))).toNat)) (w64 (p2 + (↑k8:Int))).toNat (gd l7 (w64 (p1 + (↑k8:Int))).toNat))) p0).bind fun y13 =>
 some y13
def wAs (p0:List Int) (p1:Int) (p2:Int) (p3:Int) (p4:((Int × Int)->Option Int)):Option ((List Int)) :=
 (iter (fun (l16,x17,x18) =>
  if x17=x18 then
   esc (some (l16,x17))
  else
   if x18 < x17 then
    (wAM l16 (w64 (p2 - x17)) p2 x18 p4).bind fun x46 =>
    some (.inl (x46,w64 (x17 - x18),x18))
   else
    (wAM l16 (w64 (p2 - x17)) (w64 ((w64 (p2 + x18)) - x17)) x17 p4).bind fun x62 =>
    some (.inl (x62,x17,w64 (x18 - x17)))) big (p0,w64 (p2 - p1),w64 (p3 - p2))).bind fun (l2,x3) =>
 (wAM l2 (w64 (p2 - x3)) p2 x3 p4).bind fun x87 =>
 some x87
def wBF (rec_:(List Int)->Int->Int->Int->((Int × Int)->Option Int)->Option ((List Int))) (p0:List Int) (p1:Int) (p2:Int) (p3:Int) (p4:((Int × Int)->Option Int)):Option ((List Int)) :=
 if (w64 (p2 - p1))=1 then
  (iter (fun (x14,x15) =>
   if x14 < x15 then
    (chk (w64 ((wAP (w64 (x14 + x15))) / 2)) p0.length).bind fun _ =>
    (chk p1 p0.length).bind fun _ =>
    (p4 ((gd p0 (w64 ((wAP (w64 (x14 + x15))) / 2)).toNat),(gd p0 p1.toNat))).bind fun x43 =>
    if x43 < 0 then
     some (.inl (w64 ((w64 ((wAP (w64 (x14 + x15))) / 2)) + 1),x15))
    else
     some (.inl (x14,w64 ((wAP (w64 (x14 + x15))) / 2)))
   else
    esc (some x14)) big (p2,p3)).bind fun x4 =>
  iter (fun (l80,x81) =>
   if x81 < (w64 (x4 - 1)) then
    (chk (w64 (x81 + 1)) l80.length).bind fun _ =>
    (chk x81 l80.length).bind fun _ =>
    (chk (w64 (x81 + 1)) (hM l80 x81.toNat (gd l80 (w64 (x81 + 1)).toNat)).length).bind fun _ =>
    some (.inl ((hM (hM l80 x81.toNat (gd l80 (w64 (x81 + 1)).toNat)) (w64 (x81 + 1)).toNat (gd l80 x81.toNat)),w64 (x81 + 1)))
   else
    esc (some l80)) big (p0,p1)
 else
  if (w64 (p3 - p2))=1 then
   (iter (fun (x137,x138) =>
    if x137 < x138 then
     (chk p2 p0.length).bind fun _ =>
     (chk (w64 ((wAP (w64 (x137 + x138))) / 2)) p0.length).bind fun _ =>
     (p4 ((gd p0 p2.toNat),(gd p0 (w64 ((wAP (w64 (x137 + x138))) / 2)).toNat))).bind fun x166 =>
     if x166 < 0 then
      some (.inl (x137,w64 ((wAP (w64 (x137 + x138))) / 2)))
     else
      some (.inl (w64 ((w64 ((wAP (w64 (x137 + x138))) / 2)) + 1),x138))
    else
     esc (some x137)) big (p1,p2)).bind fun x127 =>
   iter (fun (l203,x204) =>
    if x127 < x204 then
     (chk (w64 (x204 - 1)) l203.length).bind fun _ =>
     (chk x204 l203.length).bind fun _ =>
     (chk (w64 (x204 - 1)) (hM l203 x204.toNat (gd l203 (w64 (x204 - 1)).toNat)).length).bind fun _ =>
     some (.inl ((hM (hM l203 x204.toNat (gd l203 (w64 (x204 - 1)).toNat)) (w64 (x204 - 1)).toNat (gd l203 x204.toNat)),w64 (x204 - 1)))
    else
     esc (some l203)) big (p0,p2)
  else
   if (w64 ((wAP (w64 (p1 + p3))) / 2)) < p2 then
    (iter (fun (x260,x261) =>
     if x260 < x261 then
      (chk (w64 ((w64 ((w64 ((w64 ((wAP (w64 (p1 + p3))) / 2)) + p2)) - 1)) - (w64 ((wAP (w64 (x260 + x261))) / 2)))) p0.length).bind fun _ =>
      (chk (w64 ((wAP (w64 (x260 + x261))) / 2)) p0.length).bind fun _ =>
      (p4 ((gd p0 (w64 ((w64 ((w64 ((w64 ((wAP (w64 (p1 + p3))) / 2)) + p2)) - 1)) - (w64 ((wAP (w64 (x260 + x261))) / 2)))).toNat),(gd p0 (w64 ((wAP (w64 (x260 + x261))) / 2)).toNat))).bind fun x294 =>
      if x294 < 0 then
       some (.inl (x260,w64 ((wAP (w64 (x260 + x261))) / 2)))
      else
       some (.inl (w64 ((w64 ((wAP (w64 (x260 + x261))) / 2)) + 1),x261))
     else
      esc (some x260)) big (w64 ((w64 ((w64 ((wAP (w64 (p1 + p3))) / 2)) + p2)) - p3),w64 ((wAP (w64 (p1 + p3))) / 2))).bind fun x250 =>
    (if x250 < p2 then
     some (decide (p2 < (w64 ((w64 ((w64 ((wAP (w64 (p1 + p3))) / 2)) + p2)) - x250))))
    else
     some false).bind fun b330 =>
    if b330=true then
     (wAs p0 x250 p2 (w64 ((w64 ((w64 ((wAP (w64 (p1 + p3))) / 2)) + p2)) - x250)) p4).bind fun x357 =>
     if p1 < x250 then
      if x250 < (w64 ((wAP (w64 (p1 + p3))) / 2)) then
       (rec_ x357 p1 x250 (w64 ((wAP (w64 (p1 + p3))) / 2)) p4).bind fun x373 =>
       if (w64 ((wAP (w64 (p1 + p3))) / 2)) < (w64 ((w64 ((w64 ((wAP (w64 (p1 + p3))) / 2)) + p2)) - x250)) then
        if (w64 ((w64 ((w64 ((wAP (w64 (p1 + p3))) / 2)) + p2)) - x250)) < p3 then
         (rec_ x373 (w64 ((wAP (w64 (p1 + p3))) / 2)) (w64 ((w64 ((w64 ((wAP (w64 (p1 + p3))) / 2)) + p2)) - x250)) p3 p4).bind fun x389 =>
         some x389
        else
         some x373
       else
        some x373
      else
       if (w64 ((wAP (w64 (p1 + p3))) / 2)) < (w64 ((w64 ((w64 ((wAP (w64 (p1 + p3))) / 2)) + p2)) - x250)) then
        if (w64 ((w64 ((w64 ((wAP (w64 (p1 + p3))) / 2)) + p2)) - x250)) < p3 then
         (rec_ x357 (w64 ((wAP (w64 (p1 + p3))) / 2)) (w64 ((w64 ((w64 ((wAP (w64 (p1 + p3))) / 2)) + p2)) - x250)) p3 p4).bind fun x408 =>
         some x408
        else
         some x357
       else
        some x357
     else
      if (w64 ((wAP (w64 (p1 + p3))) / 2)) < (w64 ((w64 ((w64 ((wAP (w64 (p1 + p3))) / 2)) + p2)) - x250)) then
       if (w64 ((w64 ((w64 ((wAP (w64 (p1 + p3))) / 2)) + p2)) - x250)) < p3 then
        (rec_ x357 (w64 ((wAP (w64 (p1 + p3))) / 2)) (w64 ((w64 ((w64 ((wAP (w64 (p1 + p3))) / 2)) + p2)) - x250)) p3 p4).bind fun x427 =>
        some x427
       else
        some x357
      else
       some x357
    else
     if p1 < x250 then
      if x250 < (w64 ((wAP (w64 (p1 + p3))) / 2)) then
       (rec_ p0 p1 x250 (w64 ((wAP (w64 (p1 + p3))) / 2)) p4).bind fun x447 =>
       if (w64 ((wAP (w64 (p1 + p3))) / 2)) < (w64 ((w64 ((w64 ((wAP (w64 (p1 + p3))) / 2)) + p2)) - x250)) then
        if (w64 ((w64 ((w64 ((wAP (w64 (p1 + p3))) / 2)) + p2)) - x250)) < p3 then
         (rec_ x447 (w64 ((wAP (w64 (p1 + p3))) / 2)) (w64 ((w64 ((w64 ((wAP (w64 (p1 + p3))) / 2)) + p2)) - x250)) p3 p4).bind fun x463 =>
         some x463
        else
         some x447
       else
        some x447
      else
       if (w64 ((wAP (w64 (p1 + p3))) / 2)) < (w64 ((w64 ((w64 ((wAP (w64 (p1 + p3))) / 2)) + p2)) - x250)) then
        if (w64 ((w64 ((w64 ((wAP (w64 (p1 + p3))) / 2)) + p2)) - x250)) < p3 then
         (rec_ p0 (w64 ((wAP (w64 (p1 + p3))) / 2)) (w64 ((w64 ((w64 ((wAP (w64 (p1 + p3))) / 2)) + p2)) - x250)) p3 p4).bind fun x483 =>
         some x483
        else
         some p0
       else
        some p0
     else
      if (w64 ((wAP (w64 (p1 + p3))) / 2)) < (w64 ((w64 ((w64 ((wAP (w64 (p1 + p3))) / 2)) + p2)) - x250)) then
       if (w64 ((w64 ((w64 ((wAP (w64 (p1 + p3))) / 2)) + p2)) - x250)) < p3 then
        (rec_ p0 (w64 ((wAP (w64 (p1 + p3))) / 2)) (w64 ((w64 ((w64 ((wAP (w64 (p1 + p3))) / 2)) + p2)) - x250)) p3 p4).bind fun x503 =>
        some x503
       else
        some p0
      else
       some p0
   else
    (iter (fun (x527,x528) =>
     if x527 < x528 then
      (chk (w64 ((w64 ((w64 ((w64 ((wAP (w64 (p1 + p3))) / 2)) + p2)) - 1)) - (w64 ((wAP (w64 (x527 + x528))) / 2)))) p0.length).bind fun _ =>
      (chk (w64 ((wAP (w64 (x527 + x528))) / 2)) p0.length).bind fun _ =>
      (p4 ((gd p0 (w64 ((w64 ((w64 ((w64 ((wAP (w64 (p1 + p3))) / 2)) + p2)) - 1)) - (w64 ((wAP (w64 (x527 + x528))) / 2)))).toNat),(gd p0 (w64 ((wAP (w64 (x527 + x528))) / 2)).toNat))).bind fun x561 =>
      if x561 < 0 then
       some (.inl (x527,w64 ((wAP (w64 (x527 + x528))) / 2)))
      else
       some (.inl (w64 ((w64 ((wAP (w64 (x527 + x528))) / 2)) + 1),x528))
     else
      esc (some x527)) big (p1,p2)).bind fun x517 =>
    (if x517 < p2 then
     some (decide (p2 < (w64 ((w64 ((w64 ((wAP (w64 (p1 + p3))) / 2)) + p2)) - x517))))
    else
     some false).bind fun b597 =>
    if b597=true then
     (wAs p0 x517 p2 (w64 ((w64 ((w64 ((wAP (w64 (p1 + p3))) / 2)) + p2)) - x517)) p4).bind fun x624 =>
     if p1 < x517 then
      if x517 < (w64 ((wAP (w64 (p1 + p3))) / 2)) then
       (rec_ x624 p1 x517 (w64 ((wAP (w64 (p1 + p3))) / 2)) p4).bind fun x640 =>
       if (w64 ((wAP (w64 (p1 + p3))) / 2)) < (w64 ((w64 ((w64 ((wAP (w64 (p1 + p3))) / 2)) + p2)) - x517)) then
        if (w64 ((w64 ((w64 ((wAP (w64 (p1 + p3))) / 2)) + p2)) - x517)) < p3 then
         (rec_ x640 (w64 ((wAP (w64 (p1 + p3))) / 2)) (w64 ((w64 ((w64 ((wAP (w64 (p1 + p3))) / 2)) + p2)) - x517)) p3 p4).bind fun x656 =>
         some x656
        else
         some x640
       else
        some x640
      else
       if (w64 ((wAP (w64 (p1 + p3))) / 2)) < (w64 ((w64 ((w64 ((wAP (w64 (p1 + p3))) / 2)) + p2)) - x517)) then
        if (w64 ((w64 ((w64 ((wAP (w64 (p1 + p3))) / 2)) + p2)) - x517)) < p3 then
         (rec_ x624 (w64 ((wAP (w64 (p1 + p3))) / 2)) (w64 ((w64 ((w64 ((wAP (w64 (p1 + p3))) / 2)) + p2)) - x517)) p3 p4).bind fun x675 =>
         some x675
        else
         some x624
       else
        some x624
     else
      if (w64 ((wAP (w64 (p1 + p3))) / 2)) < (w64 ((w64 ((w64 ((wAP (w64 (p1 + p3))) / 2)) + p2)) - x517)) then
       if (w64 ((w64 ((w64 ((wAP (w64 (p1 + p3))) / 2)) + p2)) - x517)) < p3 then
        (rec_ x624 (w64 ((wAP (w64 (p1 + p3))) / 2)) (w64 ((w64 ((w64 ((wAP (w64 (p1 + p3))) / 2)) + p2)) - x517)) p3 p4).bind fun x694 =>
        some x694
       else
        some x624
      else
       some x624
    else
     if p1 < x517 then
      if x517 < (w64 ((wAP (w64 (p1 + p3))) / 2)) then
       (rec_ p0 p1 x517 (w64 ((wAP (w64 (p1 + p3))) / 2)) p4).bind fun x714 =>
       if (w64 ((wAP (w64 (p1 + p3))) / 2)) < (w64 ((w64 ((w64 ((wAP (w64 (p1 + p3))) / 2)) + p2)) - x517)) then
        if (w64 ((w64 ((w64 ((wAP (w64 (p1 + p3))) / 2)) + p2)) - x517)) < p3 then
         (rec_ x714 (w64 ((wAP (w64 (p1 + p3))) / 2)) (w64 ((w64 ((w64 ((wAP (w64 (p1 + p3))) / 2)) + p2)) - x517)) p3 p4).bind fun x730 =>
         some x730
        else
         some x714
       else
        some x714
      else
       if (w64 ((wAP (w64 (p1 + p3))) / 2)) < (w64 ((w64 ((w64 ((wAP (w64 (p1 + p3))) / 2)) + p2)) - x517)) then
        if (w64 ((w64 ((w64 ((wAP (w64 (p1 + p3))) / 2)) + p2)) - x517)) < p3 then
         (rec_ p0 (w64 ((wAP (w64 (p1 + p3))) / 2)) (w64 ((w64 ((w64 ((wAP (w64 (p1 + p3))) / 2)) + p2)) - x517)) p3 p4).bind fun x750 =>
         some x750
        else
         some p0
       else
        some p0
     else
      if (w64 ((wAP (w64 (p1 + p3))) / 2)) < (w64 ((w64 ((w64 ((wAP (w64 (p1 + p3))) / 2)) + p2)) - x517)) then
       if (w64 ((w64 ((w64 ((wAP (w64 (p1 + p3))) / 2)) + p2)) - x517)) < p3 then
        (rec_ p0 (w64 ((wAP (w64 (p1 + p3))) / 2)) (w64 ((w64 ((w64 ((wAP (w64 (p1 + p3))) / 2)) + p2)) - x517)) p3 p4).bind fun x770 =>
        some x770
       else
        some p0
      else
       some p0
def wAN:Nat->(List Int)->Int->Int->Int->((Int × Int)->Option Int)->Option ((List Int))
 | 0=>fun _ _ _ _ _=>none
 | n_ + 1=>wBF (wAN n_)
def wBl (p0:List Int) (p1:Int) (p2:((Int × Int)->Option Int)):Option ((List Int)) :=
 (iter (fun (l16,x17,x18) =>
  if x18 <= p1 then
   (wAS l16 x17 x18 p2).bind fun x39 =>
   some (.inl (x39,x18,w64 (x18 + 20)))
  else
   esc (some (l16,x17))) big (p0,0,20)).bind fun (l2,x3) =>
 (wAS l2 x3 p1 p2).bind fun x71 =>
 iter (fun (l88,x89) =>
  if x89 < p1 then
   (iter (fun (l121,x122,x123) =>
    if x123 <= p1 then
     (wAN 1000 l121 x122 (w64 (x122 + x89)) x123 p2).bind fun x146 =>
     some (.inl (x146,x123,w64 (x123 + (w64 (2 * x89)))))
    else
     esc (some (l121,x122))) big (l88,0,w64 (2 * x89))).bind fun (l107,x108) =>
   if (w64 (x108 + x89)) < p1 then
    (wAN 1000 l107 x108 (w64 (x108 + x89)) p1 p2).bind fun x182 =>
    some (.inl (x182,w64 (x89 * 2)))
   else
    some (.inl (l107,w64 (x89 * 2)))
  else
   esc (some l88)) big (x71,20)
def wBD (p0:List Int) (p1:((Int × Int)->Option Int)):Option ((List Int)) :=
 (wBl p0 (↑p0.length:Int) p1).bind fun x2 =>
 some x2
def wCB (p0:List wAJ) (p1:wAX):Option ((List wBn) × Int) :=
 (wCj p0 p1).bind fun (x15,x16) =>
 if x16=0 then
  (wBx 0 (↑p0.length:Int) (fun k56 l52 =>
   (app 8 l52 [(↑k56:Int)]).bind fun x85 =>
   some x85) []).bind fun y61 =>
  (wBD y61 (fun x=>wBe x.1 x.2 x15 p0)).bind fun x132 =>
  (wBx 0 (↑x132.length:Int) (fun k161 l157 =>
   (chk (↑k161:Int) x132.length).bind fun _ =>
   (idx p0 (gd x132 k161)).bind fun x195 =>
   (idx x15 (gd x132 k161)).bind fun x206 =>
   (app 24 l157 [(⟨x195.Bib,x206,0⟩:wBn)]).bind fun x220 =>
   some x220) []).bind fun y166 =>
  some (y166,0)
 else
  some ([],x16)
def wBy (p0:List Int):Option (Bool) :=
 (wCy p0).bind fun x1 =>
 (wBI x1 1 6).bind fun (x23,x24) =>
 (wBx 0 x23 (fun k128 (l105,x108,x109,l110,l114,l119,l124) =>
  (wAU (⟨l105,x108,x109⟩:wAW) 6).bind fun (x169,x170) =>
  (wAU x170 6).bind fun (x183,x184) =>
  (wAU x184 3).bind fun (x197,x198) =>
  (wAU x198 2).bind fun (x211,x212) =>
  (app 24 l114 [[x169,x183]]).bind fun x241 =>
  (app 24 l119 [[(⟨0,1,(⟨max 0 (w64 ((w64 (x169 + x183)) - (w64 (x197 * x211)))),max 0 (w64 ((w64 (x169 + x183)) - (w64 (x197 * x211))))⟩:wDD)⟩:wAE)]]).bind fun x272 =>
  (app 8 l124 [w64 ((w64 (x169 + x183)) - (max 0 (w64 ((w64 (x169 + x183)) - (w64 (x197 * x211))))))]).bind fun x293 =>
  (wAU x212 500).bind fun (x350,x351) =>
  (app 16 l110 [(⟨(↑(k128 + 1):Int),w64 (14000 + x350)⟩:wAH)]).bind fun x370 =>
  some (x351.bytes,x351.next,x351.state,x370,x241,x272,x293)) (x24.bytes,x24.next,x24.state,[],[],[],[])).bind fun (y133,y134,y135,y136,y137,y138,y139) =>
 (wDR y137 y138).bind fun (x463,x464) =>
 if x464=0 then
  jn (wFU 0 (↑y139.length:Int) (fun k500 (l495,x499) =>
   (chk (↑k500:Int) y139.length).bind fun _ =>
   if 0 < (gd y139 k500) then
    if (↑x463.length:Int) <= x499 then
     esc (some false)
    else
     (chk x499 x463.length).bind fun _ =>
     if (gd x463 x499.toNat)=(↑k500:Int) then
      (app 48 l495 [(⟨(↑(k500 + 1):Int),2,0,(↑(k500 + 1):Int),(gd y139 k500),0⟩:wAC)]).bind fun x550 =>
      some (.inl (x550,w64 (x499 + 1)))
     else
      esc (some false)
   else
    some (.inl (l495,x499))) ([],0)) fun (y578,y579) =>
  if y579=(↑x463.length:Int) then
   (wCe (⟨0,y136,y578⟩:wAO)).bind fun (x606,x607) =>
   if x607=0 then
    if (↑x606.length:Int)=(↑y139.length:Int) then
     jn (wFU 0 (↑x606.length:Int) (fun k641 l637 =>
      (chk (↑k641:Int) x606.length).bind fun _ =>
      if ((gd x606 k641).Bib) < 1 then
       esc (some false)
      else
       if (↑y139.length:Int) < ((gd x606 k641).Bib) then
        esc (some false)
       else
        (idx y136 (w64 (((gd x606 k641).Bib) - 1))).bind fun x692 =>
        (chk (w64 (((gd x606 k641).Bib) - 1)) y139.length).bind fun _ =>
        if ((gd x606 k641).Total)=(w64 (x692.Time + (w64 (1200 * (gd y139 (w64 (((gd x606 k641).Bib) - 1)).toNat))))) then
         (app 16 l637 [(⟨(gd x606 k641).Bib,(gd x606 k641).Total⟩:wAJ)]).bind fun x713 =>
         some (.inl x713)
        else
         esc (some false)) []) fun y741 =>
     (wCB y741 (⟨10,360000⟩:wAX)).bind fun (x760,x761) =>
     if x761=0 then
      if (↑x760.length:Int)=(↑x606.length:Int) then
       jn (wFU 0 (↑x760.length:Int) (fun k780 _ =>
        (chk (↑k780:Int) x760.length).bind fun _ =>
        (chk (↑k780:Int) x606.length).bind fun _ =>
        (chk 0 x606.length).bind fun _ =>
        if ((gd x760 k780).Bib)=((gd x606 k780).Bib) then
         (rem (w64 (((gd x606 k780).Total) - ((gd x606 0).Total))) 10).bind fun x827 =>
         if ((gd x760 k780).Time)=(w64 ((w64 (((gd x606 k780).Total) - ((gd x606 0).Total))) - x827)) then
          some (.inl ())
         else
          esc (some false)
        else
         esc (some false)) ()) fun _ =>
       some true
      else
       some false
     else
      some false
    else
     some false
   else
    some false
  else
   some false
 else
  some false
end
end Go.Proofs.YtlmekamhphnmjaaGreat
namespace Go.KL
open Go.RowKit
section
variable {K V:Type} [DecidableEq K] {P:Program} {σ:Env} {o:Oper} {B:Base} {U U':PHeap} {L:List Res} {w:World} {m ck:Nat} {es:Array MapEntry} {mk:K->Value} {mv:V->Value} {t:List (K × V)}
def MpF {K V:Type} (U:PHeap) (m:Nat) (es:Array MapEntry) (ck:Nat) (mk:K->Value) (mv:V->Value) (l:List (K × V)):Prop:=U m=some (.map es ck)/\MpR es mk mv l
theorem MpF.le {K V:Type} {mk:K->Value} {mv:V->Value} {t:List (K × V)} (h:MpF U m es ck mk mv t) (l:PHeap.Le U U'):MpF U' m es ck mk mv t:=⟨l _ _ h.1,h.2⟩
theorem St.freezeM {K V:Type} {mk:K->Value} {mv:V->Value} {t:List (K × V)} (h:St B U L w) {k:Nat} (hk:L[k]?=some (.obj m (.map es ck))) (hr:MpR es mk mv t) :
  ∃ U',PHeap.Le U U'/\MpF U' m es ck mk mv t/\St B U' (L.eraseIdx k) w:=by
 obtain ⟨U',h1,h2,h3⟩:=h.freezeO hk
 exact ⟨U',h1,⟨h2,hr⟩,h3⟩
theorem St.lookupF1 {mt kt et:TypeId} {x y:Operand} {a:K} {z:V} (hS:St B U L w) (hF:MpF U m es ck mk mv t) (hop:o.op=.lookup mt x y false) (hx:ev σ x=.map (some m)) (hy:ev σ y=mk a)
  (hu:P.underlying mt=some (.map kt et)) (R:KeyR P kt mk) (hz:∀ w,(zeroValue et).run P w=.ok (mv z) w):wFk P σ w o (mv (wEH t a z)):=by
 intro w' kw
 refine ⟨by rw [hop];rfl,?_⟩
 have hf:=R.find mv es.toList t a w' hF.2
 have hm:=(hS.grow kw).fro _ _ hF.1
 have hg:=wFJ t a 0
 unfold wEH
 simp [execOp,hop,hx,hy,Instr.lookup,run_underlying hu,MapKept.run_getObj_map hm,R.chk,hf,Result.andThen,<- hg]
 cases e:wEC t a 0 <;> simp [hz,Result.andThen]
end
end Go.KL
namespace Go.KL
open Go.RowKit
section
variable {N:Nat} {P:Program} {l:List Oper} {Q:wEJ} {D:List Deferred} {ks:List Nat} {s:Sch} {σ:Env} {w:World} {B:Base} {U:PHeap} {L:List Res} {i d:Nat} {o:Oper}
theorem Runs.shr1 {t u:TypeId} {x y:Operand} {m:Int} (ho:o.op=.binOp .shr t x y u) (hx:ev σ x=.int .u64 m) (hy:ev σ y=.int .u64 1):Runs P σ w o (.int .u64 (m / 2)) w:=by
 refine ⟨by rw [ho];rfl,?_⟩
 have e:m.fdiv 2=m / 2:=Int.fdiv_eq_ediv_of_nonneg m (by decide)
 have b:Min.min 1 IntKind.u64.bits=1:=by decide
 simp [execOp,ho,hx,hy,binOp,eqGuard,Op.shift,b]
 exact e
theorem wJW (v:Value) (k n:Nat) (hk:0 < k):madeCells (kF k v) n=(nk n v).toArray:=by
 apply Array.ext'
 simp only [madeCells]
 apply List.ext_getElem
 ·simp
 ·intro i h1 h2
  simp at h1 ⊢
  have hm:i % k < (kF k v).size:=by simpa using Nat.mod_lt i hk
  rw [getElem!_pos (kF k v) (i % k) hm]
  simp
theorem wFY {α:Type} {enc:α->List Value} {z:α} {v:Value} {k:Nat} (h:enc z=nk k v) (n:Nat):List.flatMap enc (nk n z)=nk (n * k) v:=by
 induction n with
 | zero=>simp
 | succ n ih=>rw [List.replicate_succ,List.flatMap_cons,ih,h,List.replicate_append_replicate,Nat.add_mul,Nat.one_mul,Nat.add_comm]
theorem OKS.makeSliceZ {α:Type} {t e:TypeId} {inf:TypeInfo} {x y:Operand} {n:Int} {v u:Value} {enc:α->List Value} {z:α} {xs:List α} {sz:Nat} (ho:l[i]?=some o) (hd:o.dst=some d) (hN:Nat.blt d N=true) (hw:wanted l σ o=true) (hop:o.op=.makeSlice t x y)
  (ht:P.underlying t=some (.slice e)) (hi:P.info? e=some inf) (hz:inf.zero=some u) (hc:u.cells=kF sz v) (hs:inf.size=sz) (henc:enc z=nk sz v) (hsz:0 < sz) (hb:sz <= 16) (hx:ev σ x=.int .i64 n) (hy:ev σ y=.int .i64 n) (hm:mkz inf.bytes n z=some xs) (hS:St B U L w)
  (k:∀ w' b,St B U (.row (some ⟨b,0,none⟩) xs.length e sz (List.flatMap enc xs) :: L) w'->OKS N P l Q D ks s (upd σ d (.slice (some ⟨b,0,none⟩) xs.length xs.length)) w'):OKS N P l Q D ks (.fx i s .stop) σ w:=by
 unfold mkz at hm
 split at hm
 ·rename_i h
  obtain ⟨h0,h1,h2⟩:=h
  cases hm
  obtain ⟨m,rfl⟩:=Int.eq_ofNat_of_zero_le h0
  have hr:=run_make (P:=P) w t e inf _ ht hi hz .i64 .i64 (m:Int) (m:Int) (by omega) (by omega) h2 (by omega)
  simp only [hs,nD,hc,wJW v sz (m * sz) hsz] at hr
  simp only [nD,List.length_replicate,wFY henc] at k
  have hmax:m <= maxLen:=by
   have h16:(16777216:Nat) <= maxLen:=by decide
   omega
  refine OKS.v (v:=.slice (some ⟨w.heap.size,0,none⟩) m m) (w':=w.alloc (.cells (nk (m * sz) v).toArray e)) ho hd hN hw ⟨by rw [hop];rfl,?_⟩ (.inr (wCF w _))
   (k _ _ (hS.new (wCF w _) (.inr ⟨_,(nk (m * sz) v).toArray,rfl,wFS w _ e,by simp,hmax,by simp,by simp⟩) rfl (nR _)))
  simp [execOp,hop,hx,hy,hr,Result.andThen]
 ·cases hm
end
end Go.KL
namespace Go.KL
variable {S S' B B' α:Type}
theorem wHL {body:Nat->S->Option (S ⊕ B)} (I:Nat->S->Prop) (Z:B->Prop):∀ (m k:Nat) (s:S),I k s ->
  (∀ i s,k <= i->i < k + m->I i s->(∃ s',body i s=some (.inl s')/\I (i + 1) s') \/ ∃ b,body i s=some (.inr b)/\Z b) ->
  (∃ s',forN body m k s=some (.inl s')/\I (k + m) s') \/ ∃ b,forN body m k s=some (.inr b)/\Z b
 | 0,k,s,h,_=>.inl ⟨s,rfl,h⟩
 | m + 1,k,s,h,hb=>by
  simp only [forN]
  rcases hb k s (nR _) (by omega) h with ⟨s',h1,h2⟩ | ⟨b,h1,h2⟩
  ·rw [h1]
   have:=wHL I Z m (k + 1) s' h2 fun i s h2 h3 h4=>hb i s (by omega) (by omega) h4
   rwa [show k + 1 + m=k + (m + 1) from by omega] at this
  ·rw [h1];exact .inr ⟨b,rfl,h2⟩
theorem wCl {body:Nat->S->Option S} (I:Nat->S->Prop):∀ (m k:Nat) (s:S),I k s ->
  (∀ i s,k <= i->i < k + m->I i s->∃ s',body i s=some s'/\I (i + 1) s')->∃ s',forN' body m k s=some s'/\I (k + m) s'
 | 0,k,s,h,_=>⟨s,rfl,h⟩
 | m + 1,k,s,h,hb=>by
  simp only [forN']
  obtain ⟨s',h1,h2⟩:=hb k s (nR _) (by omega) h
  rw [h1]
  have:=wCl I m (k + 1) s' h2 fun i s h2 h3 h4=>hb i s (by omega) (by omega) h4
  rwa [show k + 1 + m=k + (m + 1) from by omega] at this
theorem wDs {body:Nat->S->Option (S ⊕ B)} {n:Nat} {s:S} (hn:n <= 9223372036854775807):wFU 0 (n:Int) body s=forN body n 0 s:=by
 unfold wFU
 rw [if_pos (by omega),show ((n:Int) - 0).toNat=n from by omega]
theorem wCI {body:Nat->S->Option S} {n:Nat} {s:S} (hn:n <= 9223372036854775807):wBx 0 (n:Int) body s=forN' body n 0 s:=by
 unfold wBx
 rw [if_pos (by omega),show ((n:Int) - 0).toNat=n from by omega]
def first (p:α->Bool):List α->Nat->Int
 | [],_=>-1
 | a :: l,k=>if p a then (k:Int) else first p l (k + 1)
theorem wEq (p:α->Bool):∀ (l:List α) (k:Nat),decide (0 <= first p l k)=l.any p
 | [],k=>by simp [first]
 | a :: l,k=>by
  rw [first,ke]
  by_cases h:p a
  ·simp [h]
  ·simp [h,wEq p l (k + 1)]
theorem wEx {R:Type} {l:List α} {f:α->Option Bool} {p:α->Bool} (hf:∀ a ∈ l,f a=some (p a)) (hn:l.length <= 9223372036854775807) (z:Int->R) :
  (jn (wFU 0 (↑l.length:Int) (fun k2 (_:Unit)=>(idx l (↑k2:Int)).bind fun x=>(f x).bind fun y=>if y=true then esc (some (z (↑k2:Int))) else some (.inl ())) ()) fun _=>some (z (-1)))=some (z (first p l 0)):=by
 rw [wDs hn]
 have key:∀ (m k:Nat),k + m=l.length->(jn (forN (fun k2 (_:Unit)=>(idx l (↑k2:Int)).bind fun x=>(f x).bind fun y=>if y=true then esc (some (z (↑k2:Int))) else some (.inl ())) m k ()) fun _=>some (z (-1)))=some (z (first p (l.drop k) k)):=by
  intro m
  induction m with
  | zero=>intro k hk;rw [ns (by omega)];rfl
  | succ m ih =>
   intro k hk
   have hlt:k < l.length:=by omega
   rw [ni hlt,first,forN,wFI,nG hlt]
   simp only [hD,hf _ (nl hlt)]
   by_cases h:p l[k]=true
   ·simp [h]
   ·simp only [h,if_false,kK]
    exact ih (k + 1) (by omega)
 exact key l.length 0 (by omega)
theorem wKw {R:Type} {l:List α} {g:α->Option (Unit ⊕ R)} {p:α->Bool} {z:R} {K:Unit->Option R} (hg:∀ a ∈ l,g a=if p a=true then some (.inl ()) else some (.inr z)) (hn:l.length <= 9223372036854775807) :
  jn (wFU 0 (↑l.length:Int) (fun k (_:Unit)=>(idx l (↑k:Int)).bind g) ()) K=if l.all p=true then K () else some z:=by
 rw [wDs hn]
 have key:∀ (m k:Nat),k + m=l.length->jn (forN (fun k (_:Unit)=>(idx l (↑k:Int)).bind g) m k ()) K=if (l.drop k).all p=true then K () else some z:=by
  intro m
  induction m with
  | zero=>intro k hk;rw [ns (by omega)];rfl
  | succ m ih =>
   intro k hk
   have hlt:k < l.length:=by omega
   have e:l.drop k=l[k] :: l.drop (k + 1):=ni hlt
   rw [e,kf,forN,wFI,nG hlt]
   simp only [hD,hg _ (nl hlt)]
   by_cases h:p l[k]=true
   ·rw [h]
    simp only [if_true,Bool.true_and]
    exact ih (k + 1) (by omega)
   ·rw [if_neg h]
    have:p l[k]=false:=by simpa using h
    simp only [this,Bool.false_and,wIP,kK,if_false]
 exact key l.length 0 (by omega)
theorem wKx {β:Type} {l:List α} {f:α->β} {bytes:Nat} {g:α->List β->Option (List β)} (hg:∀ a ∈ l,∀ r,g a r=app bytes r [f a]) (hn:l.length <= 9223372036854775807) (hb:l.length * bytes <= 140737488355328) :
  wBx 0 (↑l.length:Int) (fun k r=>(idx l (↑k:Int)).bind fun x=>g x r) []=some (l.map f):=by
 rw [wCI hn]
 have key:∀ (m k:Nat) (r:List β),k + m=l.length->r.length=k->forN' (fun k r=>(idx l (↑k:Int)).bind fun x=>g x r) m k r=some (r ++ (l.drop k).map f):=by
  intro m
  induction m with
  | zero=>intro k r hk _;rw [ns (by omega)];simp [forN']
  | succ m ih =>
   intro k r hk hr
   have hlt:k < l.length:=by omega
   have e:l.drop k=l[k] :: l.drop (k + 1):=ni hlt
   rw [e,forN',wFI,nG hlt]
   have ha:app bytes r [f l[k]]=some (r ++ [f l[k]]):=by
    refine if_pos ?_
    simp only [nE,nW]
    exact Nat.le_trans (Nat.mul_le_mul_right _ (by omega)) hb
   simp only [hD,hg _ (nl hlt),ha]
   rw [ih (k + 1) _ (by omega) (by simp [hr]),nA]
   rfl
 exact key l.length 0 [] (by omega) rfl
theorem wDg {bytes:Nat} {l m:List α} (h:(l.length + m.length) * bytes <= 140737488355328):app bytes l m=some (l ++ m):=if_pos h
end Go.KL
namespace Go.KL
variable {S B R α β:Type}
theorem wJK {body:Nat->S->Option (S ⊕ B)} (s:Nat->S):∀ (m k:Nat),(∀ i,k <= i->i < k + m->body i (s i)=some (.inl (s (i + 1))))->forN body m k (s k)=some (.inl (s (k + m)))
 | 0,_,_=>rfl
 | m + 1,k,h=>by
  rw [forN,h k (nR _) (by omega)]
  have:=wJK s m (k + 1) fun i h1 h2=>h i (by omega) (by omega)
  rw [show k + 1 + m=k + (m + 1) by omega] at this
  exact this
theorem wIA {body:Nat->S->Option S} (s:Nat->S):∀ (m k:Nat),(∀ i,k <= i->i < k + m->body i (s i)=some (s (i + 1)))->forN' body m k (s k)=some (s (k + m))
 | 0,_,_=>rfl
 | m + 1,k,h=>by
  rw [forN',h k (nR _) (by omega)]
  have:=wIA s m (k + 1) fun i h1 h2=>h i (by omega) (by omega)
  rw [show k + 1 + m=k + (m + 1) by omega] at this
  exact this
theorem wEN {body:Nat->S->Option S} {n:Nat} {s0:S} (s:Nat->S) (h0:s 0=s0) (hn:n <= 9223372036854775807) (h:∀ i,i < n->body i (s i)=some (s (i + 1))):wBx 0 (n:Int) body s0=some (s n):=by
 rw [wCI hn,<- h0]
 have:=wIA s n 0 fun i _ hi=>h i (by omega)
 rwa [nm] at this
theorem wGL {body:Nat->S->Option (S ⊕ B)} {n:Nat} {s0:S} (s:Nat->S) (h0:s 0=s0) (hn:n <= 9223372036854775807) (h:∀ i,i < n->body i (s i)=some (.inl (s (i + 1)))):wFU 0 (n:Int) body s0=some (.inl (s n)):=by
 rw [wDs hn,<- h0]
 have:=wJK s n 0 fun i _ hi=>h i (by omega)
 rwa [nm] at this
theorem wKF {body:Nat->Unit->Option (Unit ⊕ B)} {n:Nat} (hn:n <= 9223372036854775807) (h:∀ i,i < n->body i ()=some (.inl ())):wFU 0 (n:Int) body ()=some (.inl ()):=wGL (fun _=>()) rfl hn h
theorem wDj [Inhabited α] {l:List α} {k:Nat} (h:k < l.length):idx l (k:Int)=some (gd l k):=by
 rw [wFI]
 exact wAv h
theorem wCc [Inhabited α] {l:List α} {k:Nat} (h:k < l.length):gd l k ∈ l:=List.mem_of_getElem? (wAv h)
theorem wCq [Inhabited α] {l:List α} {k:Nat} (h:k < l.length):l.take (k + 1)=l.take k ++ [gd l k]:=by
 rw [kP,wAv h]
 rfl
theorem wEU [Inhabited α] {l:List α} {k:Nat} (h:k < l.length):l.drop k=gd l k :: l.drop (k + 1):=by
 have:=wAv h
 rw [nG h] at this
 rw [ni h,nX this]
theorem wFh [Inhabited α] {l m:List α} {k:Nat} (h:k < l.length):gd (l ++ m) k=gd l k:=by
 have h1:=wAv (xs:=l ++ m) (k:=k) (by rw [hJ];omega)
 rw [nY h,wAv h] at h1
 exact (nX h1).symm
theorem wEy [Inhabited α] (l m:List α) (x:α):gd (l ++ x :: m) l.length=x:=by
 have h1:=wAv (xs:=l ++ x :: m) (k:=l.length) (by simp)
 rw [nb (nR _),kG] at h1
 exact (nX h1).symm
theorem wFL [Inhabited α] [Inhabited β] (f:α->β) {l:List α} {k:Nat} (h:k < l.length):gd (l.map f) k=f (gd l k):=by
 have h1:=wAv (xs:=l.map f) (k:=k) (by simpa using h)
 rw [kh,wAv h] at h1
 exact (nX h1).symm
theorem wLv (o:Option α):(o.bind fun x=>some x)=o:=by cases o <;> rfl
theorem wLb [Inhabited α] {l m:List α} (h:l.length=m.length) (hk:∀ k,k < l.length->gd l k=gd m k):l=m:=by
 apply kQ
 intro k
 rcases kg k l.length with h1 | h1
 ·rw [wAv h1,wAv (by omega),hk k h1]
 ·rw [nt h1,nt (by omega)]
end Go.KL
namespace Go.KL
variable {S B α:Type}
theorem wKG {body:S->Option (S ⊕ B)} (F:Nat):∀ (m:Nat) (s:Nat->S),(∀ i,i < m->body (s i)=some (.inl (s (i + 1))))->iter body (m + F) (s 0)=iter body F (s m)
 | 0,s,_=>by rw [nm]
 | m + 1,s,h=>by
  rw [show m + 1 + F=(m + F) + 1 by omega,iter,h 0 (by omega)]
  exact wKG F m (fun i=>s (i + 1)) fun i hi=>h (i + 1) (by omega)
theorem wFw {body:S->Option (S ⊕ B)} {m:Nat} (s:Nat->S) (h:∀ i,i < m->body (s i)=some (.inl (s (i + 1)))) {b:B} (hb:body (s m)=some (.inr b)) {s0:S} (h0:s 0=s0) (hm:m < 1000000):iter body big s0=some b:=by
 subst h0
 have:=wKG (big - m - 1 + 1) m s h
 rw [show m + (big - m - 1 + 1)=big by unfold big;omega] at this
 rw [this,iter,hb]
theorem wDm {body:S->Option (S ⊕ B)} (I:Nat->S->Prop) (Z:B->Prop) (m:Nat) (step:∀ i s,i <= m->I i s->(i < m/\∃ s',body s=some (.inl s')/\I (i + 1) s') \/ ∃ b,body s=some (.inr b)/\Z b) {s0:S} (h0:I 0 s0) (hm:m < 1000000):∃ b,iter body big s0=some b/\Z b:=by
 have key:∀ (d i:Nat) (s:S),i + d=m->I i s->∀ F,d < F->∃ b,iter body F s=some b/\Z b:=by
  intro d
  induction d with
  | zero =>
   intro i s hi hI F hF
   obtain ⟨F,rfl⟩:∃ G,F=G + 1:=⟨F - 1,by omega⟩
   rcases step i s (by omega) hI with ⟨h,_⟩ | ⟨b,h1,h2⟩
   ·omega
   ·exact ⟨b,by rw [iter,h1],h2⟩
  | succ d ih =>
   intro i s hi hI F hF
   obtain ⟨F,rfl⟩:∃ G,F=G + 1:=⟨F - 1,by omega⟩
   rcases step i s (by omega) hI with ⟨_,s',h1,h2⟩ | ⟨b,h1,h2⟩
   ·obtain ⟨b,h3,h4⟩:=ih (i + 1) s' (by omega) h2 F (by omega)
    exact ⟨b,by rw [iter,h1];exact h3,h4⟩
   ·exact ⟨b,by rw [iter,h1],h2⟩
 exact key m 0 s0 (by omega) h0 big (by unfold big;omega)
theorem wLc [Inhabited α] {l:List α} {i k:Nat} {x:α} (hi:i < l.length) (hk:k < l.length):gd (l.set i x) k=if k=i then x else gd l k:=by
 have h1:=wAv (xs:=l.set i x) (k:=k) (by rw [nN];exact hk)
 rw [kR] at h1
 by_cases e:i=k
 ·subst e
  rw [if_pos rfl,if_pos hi] at h1
  rw [if_pos rfl]
  exact (nX h1).symm
 ·rw [if_neg e,wAv hk] at h1
  rw [if_neg (fun h=>e h.symm)]
  exact (nX h1).symm
theorem wFM [Inhabited α] {l:List α} {k:Nat} (h:k < l.length):gd l k=l[k]:=by
 have:=wAv h
 rw [nG h] at this
 exact (nX this).symm
end Go.KL
namespace Go.Proofs.YtlmekamhphnmjaaGreat
open Go.KL
theorem wJL {a:Nat} (h:a <= 1000000):w64 ((a:Int) + 1)=((a + 1:Nat):Int):=by rw [wAf (by omega) (by omega)];omega
theorem wKy {a:Nat} (h:1 <= a) (h2:a <= 1000000):w64 ((a:Int) - 1)=((a - 1:Nat):Int):=by rw [wAf (by omega) (by omega)];omega
theorem wKH (P T:List wAA) (z x:wAA):gd (P ++ z :: x :: T) P.length=z/\gd (P ++ z :: x :: T) (P.length + 1)=x/\hM (hM (P ++ z :: x :: T) (P.length + 1) z) P.length x=P ++ x :: z :: T:=by
 refine ⟨wEy _ _ _,?_,?_⟩
 ·have:=wEy (P ++ [z]) T x
  simpa using this
 ·rw [nc _ _ (by omega),show P.length + 1 - P.length=1 by omega,nc _ _ (by omega),kG]
  rfl
def LrJ (K:wAA->Int) (a b:wAA):Prop:=K a < K b \/ (K a=K b/\a.Bib < b.Bib)
theorem LrJ.le {K:wAA->Int} {a b:wAA} (h:LrJ K a b):K a <= K b:=by unfold LrJ at h;omega
theorem LrJ.of {K:wAA->Int} {a b:wAA} (h:K a <= K b) (h2:a.Bib < b.Bib):LrJ K a b:=by unfold LrJ;omega
def ByKJ (K:wAA->Int) (c:(wAA × wAA)->Option Int):Prop:=∀ a b,∃ x,c (a,b)=some x/\(x < 0 ↔ K a < K b)
def wKI (p1:Int) (c:(wAA × wAA)->Option Int) (x9:Int) (s:List wAA × Int):Option ((List wAA × Int) ⊕ ((List wAA × Int) ⊕ List wAA)):=match s with
  | (l34,x35) =>
        if p1 < x35 then
          (chk x35 l34.length).bind fun _ =>
          (chk (w64 (x35 - 1)) l34.length).bind fun _ =>
          (c ((gd l34 x35.toNat),(gd l34 (w64 (x35 - 1)).toNat))).bind fun x65 =>
          if x65 < 0 then
            (chk (w64 (x35 - 1)) (hM l34 x35.toNat (gd l34 (w64 (x35 - 1)).toNat)).length).bind fun _ =>
            some (.inl ((hM (hM l34 x35.toNat (gd l34 (w64 (x35 - 1)).toNat)) (w64 (x35 - 1)).toNat (gd l34 x35.toNat)),w64 (x35 - 1)))
          else
            esc (some (.inl (l34,w64 (x9 + 1))))
        else
          esc (some (.inl (l34,w64 (x9 + 1))))
theorem wId (p0:List wAA) (p1 p2:Int) (c:(wAA × wAA)->Option Int):wAc p0 p1 p2 c=iter (fun (l8,x9)=>if x9 < p2 then iter (wKI p1 c x9) big (l8,x9) else esc (some l8)) big (p0,w64 (p1 + 1)):=rfl
theorem wKJ {K:wAA->Int} {c:(wAA × wAA)->Option Int} (hc:ByKJ K c) {A Z S:List wAA} {x:wAA} {x9:Int} (hlt:∀ z ∈ Z,z.Bib < x.Bib) (ho:Z.Pairwise (LrJ K)) (hl:(A ++ Z ++ x :: S).length <= 1000) :
  ∃ Z',iter (wKI (A.length:Nat) c x9) big (A ++ Z ++ x :: S,((A.length + Z.length:Nat):Int))=some (.inl (A ++ Z' ++ S,w64 (x9 + 1)))/\Z'.Perm (Z ++ [x])/\Z'.Pairwise (LrJ K):=by
 simp only [hJ,nE] at hl
 obtain ⟨b,h1,Z1,Z2,rfl,hb,h2,h3⟩:=wDm (body:=wKI (A.length:Nat) c x9) (fun k s=>∃ Z1 Z2,Z=Z1 ++ Z2/\s=(A ++ Z1 ++ x :: (Z2 ++ S),((A.length + Z1.length:Nat):Int))/\(∀ z ∈ Z2,K x < K z)/\Z2.length=k)
  (fun b=>∃ Z1 Z2,Z=Z1 ++ Z2/\b=.inl (A ++ Z1 ++ x :: (Z2 ++ S),w64 (x9 + 1))/\(∀ z ∈ Z2,K x < K z)/\(∀ z ∈ Z1,K z <= K x)) Z.length
  (fun k s hk ⟨Z1,Z2,e,hs,g1,g2⟩=>by
   subst hs
   have el:Z.length=Z1.length + Z2.length:=by rw [e,hJ]
   unfold wKI
   simp only
   rcases ka Z1 with h | ⟨Y,z,h⟩
   ·subst h
    right
    rw [if_neg (by simp)]
    exact ⟨_,rfl,[],Z2,e,rfl,g1,fun z hz=>by simp at hz⟩
   ·rw [kb] at h
    subst h
    have e1:A ++ (Y ++ [z]) ++ x :: (Z2 ++ S)=(A ++ Y) ++ z :: x :: (Z2 ++ S):=by simp
    have e2:((A.length + (Y ++ [z]).length:Nat):Int)=(((A ++ Y).length + 1:Nat):Int):=by simp only [hJ,nT];omega
    obtain ⟨s1,s2,s3⟩:=wKH (A ++ Y) (Z2 ++ S) z x
    have hll:(A ++ Y ++ z :: x :: (Z2 ++ S)).length=A.length + Y.length + 2 + Z2.length + S.length:=by simp only [hJ,nE];omega
    have el2:Z.length=Y.length + 1 + Z2.length:=by rw [el];simp
    have hY:(A ++ Y).length=A.length + Y.length:=hJ
    rw [e1,e2,if_pos (by omega),wBf (by omega) (by omega),hD,wKy (by omega) (by omega),wBf (by omega) (by omega),hD]
    simp only [nD,kL,s1,s2]
    obtain ⟨v,hv,hv2⟩:=hc x z
    rw [hv,hD]
    by_cases g:K x < K z
    ·left
     rw [if_pos (hv2.2 g),wBf (by omega) (by rw [nN];omega),hD,s3]
     refine ⟨by omega,_,rfl,Y,z :: Z2,by rw [e];simp,by simp,fun y hy=>?_,by simp;omega⟩
     rcases nS.1 hy with rfl | hy
     ·exact g
     ·exact g1 y hy
    ·right
     rw [if_neg (fun h=>g (hv2.1 h))]
     refine ⟨_,rfl,Y ++ [z],Z2,e,by simp,g1,fun y hy=>?_⟩
     rcases nV.1 hy with hy | hy
     ·have pw:=ho
      rw [e,nA] at pw
      have:=(nI.1 pw).2.2 y hy z (by simp)
      have:=this.le
      omega
     ·rw [nJ.1 hy];omega) (s0:=(A ++ Z ++ x :: S,((A.length + Z.length:Nat):Int))) ⟨Z,[],by simp,by simp,fun z hz=>by simp at hz,rfl⟩ (by omega)
 subst hb
 refine ⟨Z1 ++ x :: Z2,by rw [h1];simp,?_,?_⟩
 ·simp only [nA]
  exact kE _ (ny x Z2).symm
 ·rw [nI] at ho ⊢
  rw [nf]
  have hlt1:∀ z ∈ Z1,z.Bib < x.Bib:=fun z hz=>hlt z (nM _ hz)
  refine ⟨ho.1,⟨fun z hz=>.inl (h2 z hz),ho.2.1⟩,fun a ha b hb=>?_⟩
  rcases nS.1 hb with rfl | hb
  ·exact LrJ.of (h3 a ha) (hlt1 a ha)
  ·exact ho.2.2 a ha b hb
theorem wHM {K:wAA->Int} {c:(wAA × wAA)->Option Int} (hc:ByKJ K c) {A X B:List wAA} (hlt:X.Pairwise fun a b=>a.Bib < b.Bib) (hl:(A ++ X ++ B).length <= 1000) {a b:Nat} (ha:A.length=a) (hb:A.length + X.length=b) :
  ∃ Z,wAc (A ++ X ++ B) (a:Int) (b:Int) c=some (A ++ Z ++ B)/\Z.Perm X/\Z.Pairwise (LrJ K):=by
 rw [wId]
 simp only [hJ] at hl
 subst ha
 rw [wJL (by omega)]
 cases X with
 | nil =>
  refine ⟨[],?_,kc _,nz⟩
  simp only [nW] at hb
  refine wFw (m:=0) (fun _=>(A ++ [] ++ B,((A.length + 1:Nat):Int))) (fun i hi=>by omega) ?_ rfl (by omega)
  simp only
  rw [if_neg (by omega)]
  rfl
 | cons x0 X =>
  simp only [nE] at hl hb
  obtain ⟨r,h1,Z,rfl,h2,h3⟩:=wDm (body:=fun (l8,x9)=>if x9 < (b:Int) then iter (wKI (A.length:Nat) c x9) big (l8,x9) else esc (some l8))
   (fun k s=>∃ Z,s=(A ++ Z ++ (X.drop k ++ B),((A.length + (k + 1):Nat):Int))/\Z.Perm (x0 :: X.take k)/\Z.Pairwise (LrJ K)/\k <= X.length) (fun r=>∃ Z,r=A ++ Z ++ B/\Z.Perm (x0 :: X)/\Z.Pairwise (LrJ K)) X.length
   (fun k s hk ⟨Z,hs,g1,g2,g3⟩=>by
    subst hs
    simp only
    have hZl:Z.length=k + 1:=by rw [g1.length_eq];simp;omega
    by_cases e:k=X.length
    ·right
     rw [if_neg (by omega)]
     refine ⟨_,rfl,Z,?_,?_,g2⟩
     ·rw [e,List.drop_length];rfl
     ·rwa [e,nP] at g1
    ·left
     have hk':k < X.length:=by omega
     rw [if_pos (by omega)]
     have hlast:∀ z ∈ Z,z.Bib < (gd X k).Bib:=fun z hz=>by
      have pw:=nf.1 hlt
      rcases nS.1 (g1.mem_iff.1 hz) with h | h
      ·rw [h];exact pw.1 _ (wCc hk')
      ·have pw2:=pw.2
       rw [<- nB k X,wEU hk'] at pw2
       exact (nI.1 pw2).2.2 z h _ (by simp)
     obtain ⟨Z',i1,i2,i3⟩:=wKJ hc (A:=A) (Z:=Z) (S:=X.drop (k + 1) ++ B) (x:=gd X k) (x9:=((A.length + (k + 1):Nat):Int)) hlast g2 (by simp only [hJ,nE,nQ];omega)
     refine ⟨by omega,?_⟩
     rw [wEU hk',kT]
     rw [hZl] at i1
     refine ⟨_,i1,Z',by rw [wJL (by omega)];rfl,?_,i3,by omega⟩
     rw [wCq hk']
     exact i2.trans (by simpa using g1.append_right [gd X k]))
   (s0:=(A ++ x0 :: X ++ B,((A.length + 1:Nat):Int))) ⟨[x0],by simp,by simp,by simp,by omega⟩ (by omega)
  exact ⟨Z,by rw [h1],h2,h3⟩
theorem wLw {K:wAA->Int} {c:(wAA × wAA)->Option Int} (hc:ByKJ K c) {l:List wAA} (hl:l.length < 20) (hlt:l.Pairwise fun a b=>a.Bib < b.Bib):∃ r,wAY l c=some r/\r.Perm l/\r.Pairwise (LrJ K):=by
 obtain ⟨Z,e,h1,h2⟩:=wHM hc (A:=[]) (X:=l) (B:=[]) hlt (by simp;omega) (a:=0) (b:=l.length) rfl (by simp)
 simp only [List.nil_append,kY] at e
 refine ⟨Z,?_,h1,h2⟩
 have hz:Z.length=l.length:=h1.length_eq
 unfold wAY wBR
 rw [wFw (m:=0) (fun _=>(l,(0:Int),(20:Int))) (fun i hi=>by omega) (b:=(l,0)) (by simp only;rw [if_neg (by omega)];rfl) rfl (by omega),hD]
 simp only
 rw [show (0:Int)=((0:Nat):Int) from rfl,e,hD,wFw (m:=0) (fun _=>(Z,(20:Int))) (fun i hi=>by omega) (b:=Z) (by simp only;rw [if_neg (by omega)];rfl) rfl (by omega)]
 rfl
end Go.Proofs.YtlmekamhphnmjaaGreat
namespace Go.Proofs.YtlmekamhphnmjaaGreat
open Go.KL
theorem wIe {l:List Int} (b:Int) (hn:l.length <= 1000):wBK l b=some (decide (b ∈ l)):=by
 have key:∀ (m k:Nat),k + m=l.length->∃ q,jn (forN (B:=Int) (fun k2 _ =>
   (idx l (↑k2:Int)).bind fun x22 =>
   if b=x22 then
    esc (some (↑k2:Int))
   else
    some (.inl ())) m k ()) (fun _=>some (-1))=some q/\(0 <= q ↔ b ∈ l.drop k):=by
  intro m
  induction m with
  | zero=>intro k hk;exact ⟨-1,rfl,by rw [ns (by omega)];simp⟩
  | succ m ih =>
   intro k hk
   have hlt:k < l.length:=by omega
   rw [forN,wEU hlt,wDj hlt,hD]
   by_cases e:b=gd l k
   ·rw [if_pos e]
    exact ⟨(k:Int),rfl,by simp [e]⟩
   ·rw [if_neg e]
    obtain ⟨q,h1,h2⟩:=ih (k + 1) (by omega)
    exact ⟨q,h1,by rw [h2];simp [e]⟩
 unfold wBK wCC
 obtain ⟨q,h1,h2⟩:=key l.length 0 (by omega)
 rw [wDs (by omega),h1,hD]
 rw [List.drop_zero] at h2
 simp [h2]
end Go.Proofs.YtlmekamhphnmjaaGreat
namespace Go.Proofs.YtlmekamhphnmjaaGreat
open Go.KL
theorem wIB {K V:Type} [DecidableEq K] {m:List (K × V)} {x y:K} {v:V}:wGm (wGn m x v) y=if y=x then some v else wGm m y:=by
 induction m with
 | nil=>simp only [wGn,wGm]
 | cons p m ih =>
  obtain ⟨a,u⟩:=p
  rw [wGn]
  by_cases h:x=a
  ·subst h
   rw [if_pos rfl,wGm,wGm]
   split <;> rfl
  ·rw [if_neg h,wGm,wGm,ih]
   by_cases h2:y=a
   ·rw [if_pos h2,if_neg (fun e:y=x=>h (e.symm.trans h2)),if_pos h2]
   ·rw [if_neg h2,if_neg h2]
theorem wEz {S:Type} {body:Nat->S->Option S} {n:Nat} {s0:S} (I:Nat->S->Prop) (hn:n <= 1000) (h0:I 0 s0) (h:∀ i s,i < n->I i s->∃ s',body i s=some s'/\I (i + 1) s'):∃ s,wBx 0 (n:Int) body s0=some s/\I n s:=by
 rw [wCI (by omega)]
 have:=wCl (body:=body) I n 0 s0 h0 fun i s _ h2 h3=>h i s (by omega) h3
 rwa [nm] at this
structure wIf (r:wAO):Prop where
 s1:1 <= r.Skiers.length
 s2:r.Skiers.length <= 12
 d0:0 <= r.Deadline
 d1:r.Deadline <= 10000
 dl:r.Decisions.length <= 12
 sk:∀ s ∈ r.Skiers,1 <= s.Bib/\s.Bib <= 999/\-1 <= s.Time/\s.Time <= 360000
 inc:r.Skiers.Pairwise fun a b=>a.Bib < b.Bib
 dk:∀ d ∈ r.Decisions,1 <= d.Number/\d.Number <= 9999/\(d.Kind=0 \/ d.Kind=2)/\d.Minute=0/\0 <= d.Much/\d.Much <= 36000/\d.About=0/\d.Bib ∈ r.Skiers.map (·.Bib)
 dinc:r.Decisions.Pairwise fun a b=>a.Number < b.Number
theorem wDU (x a b:Int):wAu x a b=some (decide (a <= x) && decide (x <= b)):=by
 unfold wAu
 by_cases h:a <= x <;> simp [h]
theorem allJS {l:List wAH} {f:wAH->Option Bool} {p:wAH->Bool} (hf:∀ a ∈ l,f a=some (p a)) (hn:l.length <= 1000):wBo l f=some (l.all p):=by
 have e:wAj l (fun x=>wBH x f)=some (first (fun a=>!p a) l 0):=by
  unfold wAj
  exact wEx (p:=fun a=>!p a) (fun a ha=>by unfold wBH;rw [hf a ha];rfl) (by omega) id
 unfold wBo wAn
 rw [e,hD,hD,wEq,<- kX,Bool.not_not]
theorem wLx {l:List wAC} {f:wAC->Option Bool} {p:wAC->Bool} (hf:∀ a ∈ l,f a=some (p a)) (hn:l.length <= 1000):wBA l f=some (l.all p):=by
 have e:wAb l (fun x=>wAr x f)=some (first (fun a=>!p a) l 0):=by
  unfold wAb
  exact wEx (p:=fun a=>!p a) (fun a ha=>by unfold wAr;rw [hf a ha];rfl) (by omega) id
 unfold wBA wAg
 rw [e,hD,hD,wEq,<- kX,Bool.not_not]
theorem wLd {l:List Int} (hl:l.length <= 1000) (hd:l.Pairwise (· < ·)):wDS l=some false:=by
 unfold wDS
 rw [wDs (by omega)]
 rcases wHL (body:=fun (k20:Nat) (l17:List (Int × Bool)) =>
  (idx l (↑k20:Int)).bind fun x41 =>
  if (wEH l17 x41 false)=true then
   esc (some true)
  else
   some (.inl (wGn l17 x41 true))) (fun k m=>∀ b:Int,wEH m b false=true->b ∈ l.take k) (fun _=>False) l.length 0 [] (fun b h=>by simp [wEH,wGm] at h) (by
  intro k m _ hk I
  left
  have hk':k < l.length:=by omega
  rw [wDj hk',hD]
  have hn:¬ wEH m (gd l k) false=true:=fun h=>by
   have h1:=I _ h
   have pw:=hd
   rw [<- nB k l,wEU hk'] at pw
   have:=(nI.1 pw).2.2 _ h1 (gd l k) (by simp)
   omega
  rw [if_neg hn]
  refine ⟨_,rfl,fun b hb=>?_⟩
  rw [wCq hk']
  unfold wEH at hb
  rw [wIB] at hb
  by_cases e:b=gd l k
  ·simp [e]
  ·rw [if_neg e] at hb
   exact nM _ (I b hb)) with ⟨m,e,_⟩ | ⟨_,_,h⟩
 ·rw [e];rfl
 ·exact h.elim
theorem wMr {r:wAO} (h:r.Skiers.length <= 1000):wBs r=some (r.Skiers.map (·.Bib)):=by
 unfold wBs
 have e:=wEN (body:=fun (k22:Nat) (l18:List Int) =>
  (idx r.Skiers (↑k22:Int)).bind fun x45 =>
  (app 8 l18 [x45.Bib]).bind fun x65 =>
  some x65) (n:=r.Skiers.length) (s0:=[]) (fun k=>(r.Skiers.take k).map (·.Bib)) rfl (by omega) (fun i hi=>by
   rw [wDj hi,hD,wDg (by simp;omega),hD,wCq hi]
   simp)
 rw [nP] at e
 rw [e];rfl
theorem wKz {r:wAO} (h:r.Decisions.length <= 1000):wBp r=some (r.Decisions.map (·.Number)):=by
 unfold wBp
 have e:=wEN (body:=fun (k22:Nat) (l18:List Int) =>
  (idx r.Decisions (↑k22:Int)).bind fun x45 =>
  (app 8 l18 [x45.Number]).bind fun x65 =>
  some x65) (n:=r.Decisions.length) (s0:=[]) (fun k=>(r.Decisions.take k).map (·.Number)) rfl (by omega) (fun i hi=>by
   rw [wDj hi,hD,wDg (by simp;omega),hD,wCq hi]
   simp)
 rw [nP] at e
 rw [e];rfl
theorem wLy {d:wAC} (h:1 <= d.Number/\d.Number <= 9999/\(d.Kind=0 \/ d.Kind=2)/\d.Minute=0/\0 <= d.Much/\d.Much <= 36000):wBP d=some true:=by
 obtain ⟨h1,h2,h3,h4,h5,h6⟩:=h
 unfold wBP wAp
 rw [if_neg (by omega),hD,if_pos (by simp;omega),hD,if_neg (by simp),wDU,hD,if_pos (by simp;omega),wDU,hD,if_pos (by simp;omega),wDU,hD,if_pos (by simp;omega),wDU,hD]
 simp;omega
theorem wMs {r:wAO} (G:wIf r):wDp r=some 0:=by
 have s1:=G.s1
 have s2:=G.s2
 have dl:=G.dl
 unfold wDp
 have hb:(r.Skiers.map (·.Bib)).Pairwise (· < ·):=kA.2 G.inc
 have hn:(r.Decisions.map (·.Number)).Pairwise (· < ·):=kA.2 G.dinc
 rw [wDU,hD,if_pos (by simp;omega),if_neg (by omega),wDU,hD,if_pos (by simp;exact ⟨G.d0,G.d1⟩),
  allJS (p:=fun _=>true) (fun s hs=>by
   have:=G.sk s hs
   unfold wCn
   rw [wDU,hD,if_pos (by simp;omega),wDU,hD]
   simp;omega) (by omega),hD,if_pos (by simp),
  wLx (p:=fun _=>true) (fun d hd=>by
   have:=G.dk d hd
   exact wLy (by omega)) (by omega),hD,if_pos (by simp),wMr (by omega),hD,wLd (by simp;omega) hb,hD,if_neg (by decide),wKz (by omega),hD,wLd (by simp;omega) hn,hD,if_neg (by decide),
  wLx (p:=fun _=>true) (fun d hd=>by
   have:=G.dk d hd
   unfold wCo wAp
   rw [hD,if_pos (by simp;omega),wMr (by omega),hD,wIe _ (by simp;omega),hD,decide_eq_true this.2.2.2.2.2.2.2]) (by omega),hD,if_pos (by simp),
  wLx (p:=fun _=>true) (fun d hd=>by
   have:=G.dk d hd
   unfold wCp wAp
   rw [hD,if_pos (by simp;omega)]
   simp;omega) (by omega),hD,if_pos (by simp)]
theorem wHN (a b:Int):wBB a b=some (if a < b then -1 else if b < a then 1 else 0):=by
 unfold wBB wCT
 simp
 split
 ·rfl
 ·split <;> rfl
theorem wMt {α:Type} {g:α->Int} {c:α × α->Option Int} (hc:∀ a b,c (a,b)=some (if g a < g b then -1 else if g b < g a then 1 else 0)) {l:List α} (hl:l.length <= 1000) (hi:l.Pairwise fun a b=>g a < g b):wIW c l=some l:=by
 have lt:∀ x y,ltB c x y=decide (g x < g y):=fun x y=>by
  unfold ltB
  rw [hc]
  by_cases h:g x < g y
  ·simp [h]
  ·by_cases h2:g y < g x <;> simp [h,h2]
 have inj:∀ x ∈ l,∀ y ∈ l,g x=g y->x=y:=fun x hx y hy e=>by
  obtain ⟨i,hi',rfl⟩:=nL hx
  obtain ⟨j,hj',rfl⟩:=nL hy
  rcases Nat.lt_trichotomy i j with h | h | h
  ·have:=nZ.1 hi i j hi' hj' h;omega
  ·subst h;rfl
  ·have:=nZ.1 hi j i hj' hi' h;omega
 have C:Cmp c l:=by
  refine ⟨by omega,fun x _ y _=>by rw [hc];rfl,fun x _=>by rw [lt];simp,fun x _ y _ z _ a b=>?_,fun x _ y _ z _ a b=>?_,fun x hx y hy a b=>?_⟩
  ·rw [lt] at a b ⊢
   simp at a b ⊢;omega
  ·rw [lt] at a b ⊢
   simp at a b ⊢;omega
  ·rw [lt] at a b
   simp at a b
   exact inj x hx y hy (by omega)
 rw [wKn C]
 congr 1
 refine List.mergeSort_of_pairwise (hi.imp fun h=>?_)
 rw [lt]
 simp;omega
theorem wKK {α:Type} {m ys:List α} (h:m.length=ys.length):wLY m 0 ys=some ys:=by
 unfold wLY cpy
 rw [if_pos (by omega)]
 simp [h]
theorem wLz {r:wAO} (G:wIf r):wDY r=some (r,0):=by
 have s2:=G.s2
 have dl:=G.dl
 unfold wDY
 rw [wMs G,hD,if_pos rfl,mkz,if_pos (by omega),hD,mkz,if_pos (by omega),hD,hD]
 simp only
 rw [wKK (by simp),hD,wKK (by simp),hD]
 unfold wBS wBC
 rw [wMt (g:=fun s:wAH=>s.Bib) (fun a b=>by unfold wCU;simp only;rw [wHN];rfl) (by omega) G.inc,hD,wMt (g:=fun d:wAC=>d.Number) (fun a b=>by unfold wCV;simp only;rw [wHN];rfl) (by omega) G.dinc,hD]
theorem wMu {r:wAO} (G:wIf r):∃ at_,wDq r=some (some ⟨r,at_,[]⟩,0):=by
 have dl:=G.dl
 unfold wDq
 rw [wLz G,hD]
 simp only
 rw [if_pos trivial,show wAl r.Decisions=some () from rfl,hD]
 have key:∃ y,wAa (S:=List (Int × wAC)) (E:=Empty) (fun l121 x134 =>
   if 0 < x134.2.About then
    none
   else
    some (.inl (wGn l121 x134.2.Number x134.2))) ([]:List (Int × wAC)) r.Decisions=some (.inl y):=by
  unfold wAa
  rw [wAf (by omega) (by omega)]
  have pick:∀ {o:Option (List (Int × wAC) ⊕ Empty)},(∃ b,o=some b/\∃ y,b=.inl y)->∃ y,o=some (.inl y):=by
   rintro o ⟨b,e,y,rfl⟩
   exact ⟨y,e⟩
  refine pick (wDm (fun (k:Nat) (s:Int × List (Int × wAC))=>s.1=(r.Decisions.length:Int) - 1 - k) (fun (b:List (Int × wAC) ⊕ Empty)=>∃ y,b=Sum.inl y) r.Decisions.length ?_ (s0:=((r.Decisions.length:Int) - 1,[])) (by simp) (by omega))
  rintro k ⟨x,s⟩ hk hx
  simp only at hx
  subst hx
  simp only
  by_cases h:k < r.Decisions.length
  ·left
   refine ⟨h,?_⟩
   have hm:r.Decisions.length - 1 - k < r.Decisions.length:=by omega
   rw [if_pos (by omega),show (r.Decisions.length:Int) - 1 - k=((r.Decisions.length - 1 - k:Nat):Int) by omega,wDj hm,hD,if_neg (by have:=(G.dk _ (wCc hm)).2.2.2.2.2.2.1;omega),hD]
   refine ⟨_,rfl,?_⟩
   simp only
   rw [wAf (by omega) (by omega)]
   omega
  ·right
   rw [if_neg (by omega)]
   exact ⟨_,rfl,_,rfl⟩
 obtain ⟨y,e⟩:=key
 rw [e,hD]
 exact ⟨y,rfl⟩
end Go.Proofs.YtlmekamhphnmjaaGreat
namespace Go.Proofs.YtlmekamhphnmjaaGreat
open Go.KL
def wLA (d:wAC):Int:=if d.Kind=0 then d.Much else 1200 * d.Much
def wFx:List wAC->Int->Int
 | [],_=>0
 | d :: l,b=>(if d.Bib=b then wLA d else 0) + wFx l b
theorem wHO (b:Int):∀ l m:List wAC,wFx (l ++ m) b=wFx l b + wFx m b
 | [],m=>by simp [wFx]
 | d :: l,m=>by rw [kT,wFx,wFx,wHO b l m];omega
theorem wIg {b:Int}:∀ {l:List wAC},(∀ d ∈ l,0 <= wLA d/\wLA d <= 43200000)->0 <= wFx l b/\wFx l b <= 43200000 * (l.length:Int)
 | [],_=>by simp [wFx]
 | d :: l,h=>by
  have h1:=h d (by simp)
  have h2:=wIg (b:=b) (l:=l) fun x hx=>h x (by simp [hx])
  rw [wFx,nE]
  split <;> omega
theorem wLe {r:wAO} (G:wIf r):∀ d ∈ r.Decisions,0 <= wLA d/\wLA d <= 43200000:=fun d hd=>by
 have:=G.dk d hd
 unfold wLA
 split <;> omega
def tot (r:wAO) (s:wAH):Int:=s.Time + wFx r.Decisions s.Bib
def TB (l:List (Int × Bool)):Prop:=∀ n,wKi l n=true->wEH l n false=true
theorem TB.nil:TB []:=fun n h=>by simp [wKi,wGm] at h
theorem TB.put {l:List (Int × Bool)} (h:TB l) (n:Int):TB (wGn l n true):=fun m hm=>by
 unfold wKi at hm
 unfold wEH
 rw [wIB] at hm ⊢
 split
 ·rfl
 ·rename_i c
  rw [if_neg c] at hm
  exact h m hm
theorem wKL {D:wAR} {d:wAC} (hk:d.Kind=0 \/ d.Kind=2) {told:List (Int × Bool)} (h:TB told):∃ told',wCK d told D D ()=some (true,told')/\TB told':=by
 unfold wCK
 by_cases c:wKi told d.Number=true
 ·rw [if_pos c,h _ c]
  exact ⟨told,rfl,h⟩
 ·rw [if_neg c]
  have e:wCi D d=some false:=by
   unfold wCi wDK
   rw [if_neg (by omega),hD,if_neg (by simp;omega)]
  rw [e,hD]
  exact ⟨_,rfl,h.put _⟩
theorem wMv {D:wAR} {d:wAC} (hk:d.Kind=0 \/ d.Kind=2) {out:List Int} {told:List (Int × Bool)} (h:TB told) (b:Int):∃ told',wCX (D,out,told) d b=some (decide (d.Bib=b),told')/\TB told':=by
 unfold wCX wAp
 rw [hD,if_pos (by simp;omega)]
 by_cases c:d.Bib=b
 ·obtain ⟨t,e,ht⟩:=wKL (D:=D) hk h
  rw [if_pos c,e,hD]
  simp only
  rw [if_pos trivial,if_neg (by omega)]
  exact ⟨t,by rw [decide_eq_true c],ht⟩
 ·rw [if_neg c]
  exact ⟨told,by rw [decide_eq_false c],h⟩
theorem wHP (d:wAC) (D:wAR):wAQ d D=some d.Much:=rfl
def wMA (p0:wAR) (bib:Int) (D:wAR) (O:List Int) (k34:Nat):List (Int × Bool) × Bool × Int->Option (List (Int × Bool) × Bool × Int)
 | (l29,b32,x33) =>
  ((idx p0.Record.Decisions (↑k34:Int)).bind fun x69 =>
  (wCX (D,O,l29) x69 bib).bind fun (x96,x97) =>
  if x96=true then
   if b32=true then
    if x69.Kind=0 then
     (wAV).bind fun _ =>
     (wAQ x69 D).bind fun x144 =>
     (wAx x33 x144).bind fun x154 =>
     some (x97,true,x154)
    else
     if x69.Kind=1 then
      (wAV).bind fun _ =>
      (wAQ x69 D).bind fun x199 =>
      (wCG x33 x199).bind fun x209 =>
      some (x97,true,x209)
     else
      if x69.Kind=2 then
       (wAV).bind fun _ =>
       (wAQ x69 D).bind fun x254 =>
       (wBj x33 x254).bind fun x264 =>
       some (x97,true,x264)
      else
       if x69.Kind=3 then
        (wAV).bind fun _ =>
        (wAQ x69 D).bind fun x309 =>
        (wCH x33 x309).bind fun x319 =>
        some (x97,true,x319)
       else
        if x69.Kind=4 then
         (wAV).bind fun _ =>
         (wAQ x69 D).bind fun x364 =>
         (wAx x33 x364).bind fun x374 =>
         some (x97,true,x374)
        else
         none
   else
    if x69.Kind=0 then
     (wAV).bind fun _ =>
     (wAQ x69 D).bind fun x420 =>
     (wAx x33 x420).bind fun x430 =>
     some (x97,decide (x69.Kind=3),x430)
    else
     if x69.Kind=1 then
      (wAV).bind fun _ =>
      (wAQ x69 D).bind fun x475 =>
      (wCG x33 x475).bind fun x485 =>
      some (x97,decide (x69.Kind=3),x485)
     else
      if x69.Kind=2 then
       (wAV).bind fun _ =>
       (wAQ x69 D).bind fun x530 =>
       (wBj x33 x530).bind fun x540 =>
       some (x97,decide (x69.Kind=3),x540)
      else
       if x69.Kind=3 then
        (wAV).bind fun _ =>
        (wAQ x69 D).bind fun x585 =>
        (wCH x33 x585).bind fun x595 =>
        some (x97,decide (x69.Kind=3),x595)
       else
        if x69.Kind=4 then
         (wAV).bind fun _ =>
         (wAQ x69 D).bind fun x640 =>
         (wAx x33 x640).bind fun x650 =>
         some (x97,decide (x69.Kind=3),x650)
        else
         none
  else
   some (x97,b32,x33)).bind fun (l61,b64,x65) =>
  some (l61,b64,x65)
theorem wIC (p0:wAR) (p1:wAH) (p2:(wAR × List Int × List (Int × Bool))):wBz p0 p1 p2=(wBx 0 (↑p0.Record.Decisions.length:Int) (wMA p0 p1.Bib p2.1 p2.2.1) (p2.2.2,decide (p1.Time=(-1)),p1.Time)).bind fun (y39,y40,y41) =>
 if y40=true then
  some (0,true,y39)
 else
  (wCz 0 [y41]).bind fun x725 =>
  some (x725,false,y39):=rfl
theorem wLB {r:wAO} (G:wIf r) {at_:List (Int × wAC)} {s:wAH} (hs:s ∈ r.Skiers) {told:List (Int × Bool)} (h:TB told) :
  ∃ told',wBz ⟨r,at_,[]⟩ s (⟨r,at_,[]⟩,[],told)=some (if s.Time=-1 then 0 else tot r s,decide (s.Time=-1),told')/\TB told':=by
 have dl:=G.dl
 have hsk:=G.sk s hs
 rw [wIC]
 simp only
 obtain ⟨⟨t,b,x⟩,e,h1,h2,h3⟩:=wEz (n:=r.Decisions.length) (s0:=(told,decide (s.Time=-1),s.Time)) (body:=wMA ⟨r,at_,[]⟩ s.Bib ⟨r,at_,[]⟩ []) (fun k q=>TB q.1/\q.2.1=decide (s.Time=-1)/\q.2.2=s.Time + wFx (r.Decisions.take k) s.Bib) (by omega) ⟨h,rfl,by simp [wFx]⟩ (by
  rintro k ⟨t,b,x⟩ hk ⟨h1,h2,h3⟩
  simp only at h1 h2 h3
  subst h2 h3
  have hd:=G.dk _ (wCc hk)
  have hb:0 <= wFx (r.Decisions.take k) s.Bib/\wFx (r.Decisions.take k) s.Bib <= 43200000 * 12:=by
   have:=wIg (b:=s.Bib) (l:=r.Decisions.take k) fun d hd=>wLe G d (nu hd)
   rw [nK] at this
   omega
  obtain ⟨t',e,ht⟩:=wMv (D:=⟨r,at_,[]⟩) (d:=gd r.Decisions k) hd.2.2.1 (out:=[]) h1 s.Bib
  have es:wFx (r.Decisions.take (k + 1)) s.Bib=wFx (r.Decisions.take k) s.Bib + if (gd r.Decisions k).Bib=s.Bib then wLA (gd r.Decisions k) else 0:=by
   rw [wCq hk,wHO]
   simp [wFx]
  unfold wMA
  simp only
  rw [wDj hk,hD,e,hD]
  simp only
  rw [es]
  by_cases c:(gd r.Decisions k).Bib=s.Bib
  ·rw [if_pos (decide_eq_true c),if_pos c]
   have ef:wLA (gd r.Decisions k)=if (gd r.Decisions k).Kind=0 then (gd r.Decisions k).Much else 1200 * (gd r.Decisions k).Much:=rfl
   have w1:=wAf (x:=s.Time + wFx (r.Decisions.take k) s.Bib + (gd r.Decisions k).Much) (by omega) (by omega)
   have w2:=wAf (x:=1200 * (gd r.Decisions k).Much) (by omega) (by omega)
   have w3:=wAf (x:=s.Time + wFx (r.Decisions.take k) s.Bib + 1200 * (gd r.Decisions k).Much) (by omega) (by omega)
   rcases hd.2.2.1 with k0 | k0
   ·rw [if_pos k0] at ef
    by_cases cb:decide (s.Time=-1)=true
    ·rw [if_pos cb,if_pos k0,wHP,show wAV=some () from rfl,hD,hD]
     unfold wAx
     rw [hD,hD,w1]
     exact ⟨_,rfl,ht,cb.symm,by simp only;omega⟩
    ·rw [if_neg cb,if_pos k0,wHP,show wAV=some () from rfl,hD,hD]
     unfold wAx
     rw [hD,hD,w1]
     refine ⟨_,rfl,ht,?_,by simp only;omega⟩
     simp only
     rw [decide_eq_false (by omega),(kS.2 cb)]
   ·rw [if_neg (by omega)] at ef
    by_cases cb:decide (s.Time=-1)=true
    ·rw [if_pos cb,if_neg (by omega),if_neg (by omega),if_pos k0,wHP,show wAV=some () from rfl,hD,hD]
     unfold wBj
     rw [hD,hD,w2,w3]
     exact ⟨_,rfl,ht,cb.symm,by simp only;omega⟩
    ·rw [if_neg cb,if_neg (by omega),if_neg (by omega),if_pos k0,wHP,show wAV=some () from rfl,hD,hD]
     unfold wBj
     rw [hD,hD,w2,w3]
     refine ⟨_,rfl,ht,?_,by simp only;omega⟩
     simp only
     rw [decide_eq_false (by omega),(kS.2 cb)]
  ·rw [if_neg (by simpa using c),if_neg c]
   exact ⟨_,rfl,ht,rfl,by simp only;omega⟩)
 simp only at h1 h2 h3
 rw [nP] at h3
 subst h2 h3
 rw [e,hD]
 simp only
 by_cases c:s.Time=-1
 ·rw [if_pos (decide_eq_true c),if_pos c,decide_eq_true c]
  exact ⟨t,rfl,h1⟩
 ·rw [if_neg (by simpa using c),if_neg c,decide_eq_false c]
  refine ⟨t,?_,h1⟩
  have hb:=wIg (b:=s.Bib) (l:=r.Decisions) (wLe G)
  have eg:wCz 0 [s.Time + wFx r.Decisions s.Bib]=some (max 0 (s.Time + wFx r.Decisions s.Bib)):=rfl
  rw [eg,hD]
  unfold tot
  rw [Int.max_eq_right (by omega)]
def wKM (r:wAO) (l:List wAH):List wAA:=(l.filter fun s=>!decide (s.Time=-1)).map fun s=>⟨s.Bib,0,tot r s⟩
def wGa (l:List wAH):List wAA:=(l.filter fun s=>decide (s.Time=-1)).map fun s=>⟨s.Bib,-1,0⟩
theorem wIh (r:wAO):∀ l,(wKM r l).length + (wGa l).length=l.length
 | []=>rfl
 | s :: l=>by
  have:=wIh r l
  unfold wKM wGa at this ⊢
  by_cases c:s.Time=-1
  ·rw [nn (by simp [c]),np (by simp [c])]
   simp only [nO,nE] at this ⊢;omega
  ·rw [np (by simp [c]),nn (by simp [c])]
   simp only [nO,nE] at this ⊢;omega
def wMw (f:Nat->Int):Nat->Int
 | 0=>1
 | k + 1=>if f (k + 1)=f k then wMw f k else (k:Int) + 2
theorem wEr {l:List wAA} {k j:Nat} {v:wAA} (hk:k < l.length):gd (hM l k v) j=if j=k then v else gd l j:=by
 unfold gd
 rw [nH,nH,kR]
 by_cases e:k=j
 ·subst e;rw [if_pos rfl,if_pos hk,if_pos rfl];rfl
 ·rw [if_neg e,if_neg (fun h=>e h.symm)]
structure PI (Z:List wAA) (k:Nat) (y:List wAA):Prop where
 len:y.length=Z.length
 lo:∀ j,j < k->gd y j=⟨(gd Z j).Bib,wMw (fun i=>(gd Z i).Total) j,(gd Z j).Total⟩
 hi:∀ j,k <= j->gd y j=gd Z j
def pRd (k224:Nat) (l223:List wAA):Option (List wAA) :=
  (chk (↑k224:Int) l223.length).bind fun _ =>
  if 0 < (↑k224:Int) then
   (chk (↑k224:Int) (hM l223 k224 (⟨(gd l223 k224).Bib,(↑(k224 + 1):Int),(gd l223 k224).Total⟩:wAA)).length).bind fun _ =>
   (chk (w64 ((↑k224:Int) - 1)) (hM l223 k224 (⟨(gd l223 k224).Bib,(↑(k224 + 1):Int),(gd l223 k224).Total⟩:wAA)).length).bind fun _ =>
   if ((gd (hM l223 k224 (⟨(gd l223 k224).Bib,(↑(k224 + 1):Int),(gd l223 k224).Total⟩:wAA)) k224).Total)=((gd (hM l223 k224 (⟨(gd l223 k224).Bib,(↑(k224 + 1):Int),(gd l223 k224).Total⟩:wAA)) (w64 ((↑k224:Int) - 1)).toNat).Total) then
    some (hM (hM l223 k224 (⟨(gd l223 k224).Bib,(↑(k224 + 1):Int),(gd l223 k224).Total⟩:wAA)) k224 (⟨(gd (hM l223 k224 (⟨(gd l223 k224).Bib,(↑(k224 + 1):Int),(gd l223 k224).Total⟩:wAA)) k224).Bib,(gd (hM l223 k224 (⟨(gd l223 k224).Bib,(↑(k224 + 1):Int),(gd l223 k224).Total⟩:wAA)) (w64 ((↑k224:Int) - 1)).toNat).Place,(gd (hM l223 k224 (⟨(gd l223 k224).Bib,(↑(k224 + 1):Int),(gd l223 k224).Total⟩:wAA)) k224).Total⟩:wAA))
   else
    some (hM l223 k224 (⟨(gd l223 k224).Bib,(↑(k224 + 1):Int),(gd l223 k224).Total⟩:wAA))
  else
   some (hM l223 k224 (⟨(gd l223 k224).Bib,(↑(k224 + 1):Int),(gd l223 k224).Total⟩:wAA))
theorem wMx {Z:List wAA} (hZ:Z.length <= 1000) {k:Nat} {y:List wAA} (hk:k < Z.length) (I:PI Z k y):∃ y',pRd k y=some y'/\PI Z (k + 1) y':=by
 obtain ⟨hl,hlo,hhi⟩:=I
 have hky:k < y.length:=by omega
 have g0:=hhi k (nR _)
 unfold pRd
 rw [wBf (by omega) (by omega),hD,g0]
 cases k with
 | zero =>
  rw [if_neg (by omega)]
  refine ⟨_,rfl,by rw [nN];exact hl,fun j hj=>?_,fun j hj=>?_⟩
  ·have:j=0:=by omega
   subst this
   rw [wEr hky,if_pos rfl]
   rfl
  ·rw [wEr hky,if_neg (by omega)]
   exact hhi j (by omega)
 | succ k =>
  have hw:w64 (((k + 1:Nat):Int) - 1)=(k:Int):=by rw [wAf (by omega) (by omega)];omega
  have g1:=hlo k (by omega)
  simp only [hw]
  rw [if_pos (by omega),wBf (i:=((k + 1:Nat):Int)) (by omega) (by rw [nN];omega),hD,wBf (i:=(k:Int)) (by omega) (by rw [nN];omega),hD,nD,wEr hky,if_pos rfl,wEr hky,if_neg (show ¬ k=k + 1 by omega),g1]
  simp only
  by_cases c:(gd Z (k + 1)).Total=(gd Z k).Total
  ·rw [if_pos c,List.set_set]
   refine ⟨_,rfl,by rw [nN];exact hl,fun j hj=>?_,fun j hj=>?_⟩
   ·rw [wEr hky]
    by_cases e:j=k + 1
    ·subst e
     rw [if_pos rfl,wMw,if_pos c]
    ·rw [if_neg e]
     exact hlo j (by omega)
   ·rw [wEr hky,if_neg (by omega)]
    exact hhi j (by omega)
  ·rw [if_neg c]
   refine ⟨_,rfl,by rw [nN];exact hl,fun j hj=>?_,fun j hj=>?_⟩
   ·rw [wEr hky]
    by_cases e:j=k + 1
    ·subst e
     rw [if_pos rfl,wMw,if_neg c]
     congr 1
    ·rw [if_neg e]
     exact hlo j (by omega)
   ·rw [wEr hky,if_neg (by omega)]
    exact hhi j (by omega)
def wMB (p0 D:wAR) (O:List Int) (k50:Nat):List (Int × Bool) × List wAA × List wAA->Option (List (Int × Bool) × List wAA × List wAA)
 | (l39,l42,l46) =>
  (idx p0.Record.Skiers (↑k50:Int)).bind fun x81 =>
  (wBz p0 x81 (D,O,l39)).bind fun (x112,x113,x114) =>
  if x113=true then
   (app 24 l46 [(⟨x81.Bib,-1,0⟩:wAA)]).bind fun x135 =>
   some (x114,l42,x135)
  else
   (app 24 l42 [(⟨x81.Bib,0,x112⟩:wAA)]).bind fun x158 =>
   some (x114,x158,l46)
theorem wHQ (p0:wAR) (p1:(wAR × List Int × List (Int × Bool))):wCt p0 p1 =
 (wBx 0 (↑p0.Record.Skiers.length:Int) (wMB p0 p1.1 p1.2.1) (p1.2.2,[],[])).bind fun (y55,y56,y57) =>
 (wAY y56 (fun x=>wBM x.1 x.2)).bind fun x206 =>
 (wBx 0 (↑x206.length:Int) pRd x206).bind fun y229 =>
 (app 24 y229 y57).bind fun x289 =>
 some (x289,y55):=rfl
structure ResJ (r:wAO) (Z lines:List wAA):Prop where
 perm:Z.Perm (wKM r r.Skiers)
 ord:Z.Pairwise (LrJ fun x=>x.Total)
 len:lines.length=r.Skiers.length
 zl:Z.length <= lines.length
 at_:∀ k,k < Z.length->gd lines k=⟨(gd Z k).Bib,wMw (fun i=>(gd Z i).Total) k,(gd Z k).Total⟩
 out:∀ k,Z.length <= k->k < lines.length->(gd lines k).Place=-1
theorem wMC {r:wAO} (G:wIf r):∃ Z lines,wCe r=some (lines,0)/\ResJ r Z lines:=by
 have s2:=G.s2
 obtain ⟨at_,ea⟩:=wMu G
 unfold wCe
 rw [ea,hD]
 simp only
 rw [if_pos trivial,show wDL ⟨r,at_,[]⟩ []=some [] from rfl,hD]
 rw [wHQ]
 simp only
 obtain ⟨⟨t,a,b⟩,e1,h1,h2,h3⟩:=wEz (n:=r.Skiers.length) (s0:=(([]:List (Int × Bool)),([]:List wAA),([]:List wAA))) (body:=wMB ⟨r,at_,[]⟩ ⟨r,at_,[]⟩ []) (fun k q=>TB q.1/\q.2.1=wKM r (r.Skiers.take k)/\q.2.2=wGa (r.Skiers.take k)) (by omega) ⟨TB.nil,rfl,rfl⟩ (by
  rintro k ⟨t,a,b⟩ hk ⟨h1,h2,h3⟩
  simp only at h1 h2 h3
  have hlen:=wIh r (r.Skiers.take k)
  rw [nK] at hlen
  obtain ⟨t',e,ht⟩:=wLB G (at_:=at_) (wCc hk) h1
  unfold wMB
  simp only
  rw [wDj hk,hD,e,hD]
  simp only
  by_cases c:(gd r.Skiers k).Time=-1
  ·rw [if_pos (decide_eq_true c),wDg (by rw [h3];simp;omega),hD]
   refine ⟨_,rfl,ht,?_,?_⟩
   ·simp only
    rw [h2,wCq hk]
    unfold wKM
    rw [nq,nn (by simp [c])]
    simp
   ·simp only
    rw [h3,wCq hk]
    unfold wGa
    rw [nq,np (by simp [c])]
    simp
  ·rw [if_neg (by simpa using c),if_neg c,wDg (by rw [h2];simp;omega),hD]
   refine ⟨_,rfl,ht,?_,?_⟩
   ·simp only
    rw [h2,wCq hk]
    unfold wKM
    rw [nq,np (by simp [c])]
    simp
   ·simp only
    rw [h3,wCq hk]
    unfold wGa
    rw [nq,nn (by simp [c])]
    simp)
 simp only at h1 h2 h3
 rw [nP] at h2 h3
 subst h2 h3
 rw [e1,hD]
 simp only
 have hlen:=wIh r r.Skiers
 have hinc:(wKM r r.Skiers).Pairwise fun a b=>a.Bib < b.Bib:=by
  unfold wKM
  rw [kA]
  exact List.Pairwise.sublist List.filter_sublist G.inc
 obtain ⟨Z,e2,z1,z2⟩:=wLw (K:=fun x=>x.Total) (c:=fun x=>wBM x.1 x.2) (fun a b=>by
  unfold wBM
  simp only
  rw [wHN]
  refine ⟨_,rfl,?_⟩
  split
  ·omega
  ·split <;> omega) (l:=wKM r r.Skiers) (by omega) hinc
 have hz:=z1.length_eq
 rw [e2,hD]
 obtain ⟨y,e3,P⟩:=wEz (n:=Z.length) (s0:=Z) (body:=pRd) (PI Z) (by omega) ⟨rfl,fun j hj=>by omega,fun j _=>rfl⟩ fun k y hk I=>wMx (by omega) hk I
 rw [e3,hD,wDg (by rw [P.len];omega),hD,hD]
 simp only
 refine ⟨Z,_,rfl,z1,z2,by rw [hJ,P.len];omega,by rw [hJ,P.len];omega,fun k hk=>?_,fun k h1 h2=>?_⟩
 ·rw [wFh (by rw [P.len];exact hk)]
  exact P.lo k hk
 ·rw [hJ,P.len] at h2
  have hg:gd (y ++ wGa r.Skiers) k=gd (wGa r.Skiers) (k - y.length):=by
   unfold gd
   rw [nH,nH,nb (by rw [P.len];exact h1)]
  rw [hg,P.len]
  have hm:=wCc (l:=wGa r.Skiers) (k:=k - Z.length) (by omega)
  unfold wGa at hm
  obtain ⟨s,_,hs⟩:=kU.1 hm
  have:(gd (wGa r.Skiers) (k - Z.length)).Place=-1:=by
   unfold wGa
   rw [<- hs]
  exact this
end Go.Proofs.YtlmekamhphnmjaaGreat
namespace Go.Proofs.YtlmekamhphnmjaaGreat
open Go.KL
def mx (y:Arr Int 81) (a b:Nat):Int:=y.get (a * 9 + b)
theorem wKN (y:Arr Int 81) {i j a b:Nat} (v:Int) (hi:i < 9) (hj:j < 9) (_ha:a < 9) (hb:b < 9):mx (y.set (i * 9 + j) v) a b=if a=i/\b=j then v else mx y a b:=by
 unfold mx Arr.get Arr.set
 simp only [nH,kR]
 have hl:y.l.length=81:=y.h
 by_cases h:a=i/\b=j
 ·obtain ⟨rfl,rfl⟩:=h
  rw [if_pos rfl,if_pos (by omega),if_pos ⟨rfl,rfl⟩]
  rfl
 ·rw [if_neg h]
  by_cases h2:i * 9 + j=a * 9 + b
  ·exact absurd ⟨by omega,by omega⟩ h
  ·rw [if_neg h2]
theorem wMD (v:Int) {a b:Nat} (ha:a < 9) (hb:b < 9):mx (Arr.fill 81 v) a b=v:=by
 unfold mx Arr.get Arr.fill
 rw [nH,List.getElem?_replicate,if_pos (by omega)]
 rfl
theorem wJM {S:Type} {body:Nat->S->Option S} {n:Nat} {h:Int} {s:S} (hn:h=n) (hb:n <= 9223372036854775807):wBx 0 h body s=forN' body n 0 s:=by
 subst hn;exact wCI hb
def wLf (n:Nat) (k:wAL):Prop:=0 <= k.from_/\k.from_ <= n/\0 <= k.to_/\k.to_ <= n/\∃ w,k.count ()=some w/\-100 <= w/\w <= 100
def wID (ks:List wAL) (x:Nat->Int):Prop:=∀ k ∈ ks,∀ w,k.count ()=some w->x k.to_.toNat - x k.from_.toNat <= w
structure Lnk (n:Nat) (ks:List wAL) (y:Arr Int 81):Prop where
 lo:∀ a b,a < 9->b < 9->-100 <= mx y a b
 hi:∀ a b,a < 9->b < 9->mx y a b <= 1048576
 dg:∀ a,a < 9->mx y a a <= 0
 lk:∀ k ∈ ks,∀ w,k.count ()=some w->mx y k.from_.toNat k.to_.toNat <= w
 fe:∀ x:Nat->Int,wID ks x->(∀ a b,a <= n->b <= n->x b - x a <= 1048576)->∀ a b,a <= n->b <= n->x b - x a <= mx y a b
theorem wJZ:∃ y:Arr Int 81,(wBx 0 9 (fun k17 a16 =>
  (wBx 0 9 (fun k45 a44 =>
   if (↑k17:Int)=(↑k45:Int) then
    some a44
   else
    (chk (↑k17:Int) 9).bind fun _ =>
    (chk (↑k45:Int) 9).bind fun _ =>
    some (a44.set (k17 * 9 + k45) 1048576)) a16).bind fun y50 =>
  some y50) (Arr.fill 81 0))=some y/\∀ a b,a < 9->b < 9->mx y a b=if a=b then 0 else 1048576:=by
 rw [wJM (n:=9) (h:=9) rfl (by decide)]
 obtain ⟨y,h1,h2⟩:=wCl (S:=Arr Int 81) (body:=fun k17 a16 =>
  (wBx 0 9 (fun k45 a44 =>
   if (↑k17:Int)=(↑k45:Int) then
    some a44
   else
    (chk (↑k17:Int) 9).bind fun _ =>
    (chk (↑k45:Int) 9).bind fun _ =>
    some (a44.set (k17 * 9 + k45) 1048576)) a16).bind fun y50 =>
  some y50) (fun k y=>∀ a b,a < 9->b < 9->mx y a b=if a < k then (if a=b then 0 else 1048576) else 0) 9 0 (Arr.fill 81 0)
  (fun a b ha hb=>by rw [wMD 0 ha hb];simp)
  (by
   intro i s _ hi hs
   rw [wJM (n:=9) (h:=9) rfl (by decide)]
   obtain ⟨y,h1,h2⟩:=wCl (S:=Arr Int 81) (body:=fun k45 a44 =>
    if (↑i:Int)=(↑k45:Int) then
     some a44
    else
     (chk (↑i:Int) 9).bind fun _ =>
     (chk (↑k45:Int) 9).bind fun _ =>
     some (a44.set (i * 9 + k45) 1048576)) (fun k y=>∀ a b,a < 9->b < 9->mx y a b=if a < i \/ (a=i/\b < k) then (if a=b then 0 else 1048576) else 0) 9 0 s
    (fun a b ha hb=>by rw [hs a b ha hb];simp)
    (by
     intro j t _ hj ht
     by_cases hij:(i:Int)=j
     ·refine ⟨t,by rw [if_pos hij],fun a b ha hb=>?_⟩
      rw [ht a b ha hb]
      by_cases h1:a < i \/ (a=i/\b < j)
      ·rw [if_pos h1,if_pos (show a < i \/ (a=i/\b < j + 1) by omega)]
      ·rw [if_neg h1]
       by_cases h2:a < i \/ (a=i/\b < j + 1)
       ·rw [if_pos h2,if_pos (by omega)]
       ·rw [if_neg h2]
     ·refine ⟨_,by rw [if_neg hij,wBf (by omega) (by omega),wBf (by omega) (by omega)];rfl,fun a b ha hb=>?_⟩
      rw [wKN _ _ (by omega) (by omega) ha hb,ht a b ha hb]
      by_cases h0:a=i/\b=j
      ·rw [if_pos h0,if_pos (show a < i \/ (a=i/\b < j + 1) by omega),if_neg (by omega)]
      ·rw [if_neg h0]
       by_cases h1:a < i \/ (a=i/\b < j)
       ·rw [if_pos h1,if_pos (show a < i \/ (a=i/\b < j + 1) by omega)]
       ·rw [if_neg h1,if_neg (show ¬ (a < i \/ (a=i/\b < j + 1)) by omega)])
   refine ⟨y,by rw [h1];rfl,fun a b ha hb=>?_⟩
   rw [h2 a b ha hb]
   by_cases h:a < i + 1
   ·rw [if_pos (show a < i \/ (a=i/\b < 0 + 9) by omega),if_pos h]
   ·rw [if_neg (show ¬ (a < i \/ (a=i/\b < 0 + 9)) by omega),if_neg h])
 refine ⟨y,h1,fun a b ha hb=>?_⟩
 rw [h2 a b ha hb,if_pos (show a < 0 + 9 by omega)]
theorem wJa {n:Nat} (hn:n <= 8) {ks:List wAL} (hk:∀ k ∈ ks,wLf n k) (hl:ks.length <= 1000) {y0:Arr Int 81} (h0:∀ a b,a < 9->b < 9->mx y0 a b=if a=b then 0 else 1048576) :
  ∃ y,(wBx 0 (↑ks.length:Int) (fun k117 a116 =>
  (idx ks (↑k117:Int)).bind fun x140 =>
  (chk x140.from_ 9).bind fun _ =>
  (chk x140.to_ 9).bind fun _ =>
  (x140.count ()).bind fun x171 =>
  some (a116.set (x140.from_.toNat * 9 + x140.to_.toNat) (min (a116.get (x140.from_.toNat * 9 + x140.to_.toNat)) x171))) y0)=some y/\Lnk n ks y:=by
 rw [wCI (by omega)]
 obtain ⟨y,h1,h2⟩:=wCl (S:=Arr Int 81) (body:=fun k117 a116 =>
  (idx ks (↑k117:Int)).bind fun x140 =>
  (chk x140.from_ 9).bind fun _ =>
  (chk x140.to_ 9).bind fun _ =>
  (x140.count ()).bind fun x171 =>
  some (a116.set (x140.from_.toNat * 9 + x140.to_.toNat) (min (a116.get (x140.from_.toNat * 9 + x140.to_.toNat)) x171))) (fun k y=>Lnk n (ks.take k) y) ks.length 0 y0
  (by
   refine ⟨fun a b ha hb=>?_,fun a b ha hb=>?_,fun a ha=>?_,fun k hk=>by simp at hk,fun x _ hx a b ha hb=>?_⟩
   ·rw [h0 a b ha hb];split <;> omega
   ·rw [h0 a b ha hb];split <;> omega
   ·rw [h0 a a ha ha,if_pos rfl];omega
   ·rw [h0 a b (by omega) (by omega)]
    split
    ·rename_i e;subst e;omega
    ·exact hx a b ha hb)
  (by
   intro i s _ hi hs
   have hlt:i < ks.length:=by omega
   have hm:ks[i] ∈ ks:=nl hlt
   obtain ⟨f0,f1,t0,t1,w,hw,w0,w1⟩:=hk _ hm
   rw [wFI,nG hlt,hD,wBf f0 (by omega),hD,wBf t0 (by omega),hD,hw,hD]
   refine ⟨_,rfl,?_⟩
   have e:ks.take (i + 1)=ks.take i ++ [ks[i]]:=by rw [kP,nG hlt];rfl
   have hF:ks[i].from_.toNat < 9:=by omega
   have hT:ks[i].to_.toNat < 9:=by omega
   have hg:∀ a b,a < 9->b < 9->mx (s.set (ks[i].from_.toNat * 9 + ks[i].to_.toNat) (min (s.get (ks[i].from_.toNat * 9 + ks[i].to_.toNat)) w)) a b=if a=ks[i].from_.toNat/\b=ks[i].to_.toNat then min (mx s ks[i].from_.toNat ks[i].to_.toNat) w else mx s a b:=fun a b ha hb=>wKN _ _ hF hT ha hb
   have hle:∀ a b,a < 9->b < 9->mx (s.set (ks[i].from_.toNat * 9 + ks[i].to_.toNat) (min (s.get (ks[i].from_.toNat * 9 + ks[i].to_.toNat)) w)) a b <= mx s a b:=by
    intro a b ha hb
    rw [hg a b ha hb]
    split
    ·rename_i h;rw [h.1,h.2];exact Int.min_le_left _ _
    ·exact nj _
   refine ⟨fun a b ha hb=>?_,fun a b ha hb=>ng (hle a b ha hb) (hs.hi a b ha hb),fun a ha=>ng (hle a a ha ha) (hs.dg a ha),fun k hk' w' hw'=>?_,fun x hx hf a b ha hb=>?_⟩
   ·rw [hg a b ha hb]
    have:=hs.lo a b ha hb
    have:=hs.lo _ _ hF hT
    split <;> omega
   ·rw [e,nV] at hk'
    rcases hk' with hk' | hk'
    ·obtain ⟨g0,g1,g2,g3,_⟩:=hk k (nu hk')
     exact ng (hle _ _ (by omega) (by omega)) (hs.lk k hk' w' hw')
    ·simp only [nJ] at hk'
     subst hk'
     rw [hw] at hw'
     cases hw'
     rw [hg _ _ hF hT,if_pos ⟨rfl,rfl⟩]
     exact Int.min_le_right _ _
   ·rw [hg a b (by omega) (by omega)]
    have hx0:wID (ks.take i) x:=fun k hk w hw=>hx k (by rw [e];exact nM _ hk) w hw
    have h3:=hs.fe x hx0 hf a b ha hb
    split
    ·rename_i h
     have h4:=hx ks[i] (by rw [e];exact nU _ (nJ.2 rfl)) w hw
     rw [<- h.1,<- h.2] at *
     omega
    ·exact h3)
 refine ⟨y,h1,?_⟩
 have:ks.take (0 + ks.length)=ks:=by rw [nm,nP]
 rw [this] at h2
 exact h2
end Go.Proofs.YtlmekamhphnmjaaGreat
namespace Go.Proofs.YtlmekamhphnmjaaGreat
open Go.KL
structure Rnd (n k:Nat) (B:Int) (y s:Arr Int 81) (i j:Nat):Prop where
 un:∀ a b,a <= n->b <= n->¬ (a < i \/ (a=i/\b < j))->mx s a b=mx y a b
 kk:-(2 * B) <= mx s k k
 row:∀ b,b <= n->-(3 * B) <= mx s k b
 col:∀ a,a <= n->-(3 * B) <= mx s a k
 all:∀ a b,a <= n->b <= n->-(6 * B) <= mx s a b
 le:∀ a b,a <= n->b <= n->mx s a b <= mx y a b
 fe:∀ x:Nat->Int,(∀ a b,a <= n->b <= n->x b - x a <= mx y a b)->∀ a b,a <= n->b <= n->x b - x a <= mx s a b
 fo:0 <= mx y k k->∀ a b,a <= n->b <= n->(a < i \/ (a=i/\b < j))->mx s a b=min (mx y a b) (mx y a k + mx y k b)
theorem wLC {n k:Nat} {B:Int} {y s:Arr Int 81} {i j:Nat} (hn:n <= 8) (hk:k <= n) (hB:0 <= B) (hB':B <= 1000000000000) (lo:∀ a b,a <= n->b <= n->-B <= mx y a b) (hi:∀ a b,a <= n->b <= n->mx y a b <= 1048576)
  (R:Rnd n k B y s i j) (h1:i <= n) (h2:j <= n):Rnd n k B y (s.set (i * 9 + j) (min (s.get (i * 9 + j)) (w64 ((s.get (i * 9 + k)) + (s.get (k * 9 + j)))))) i (j + 1):=by
 have hw:w64 ((s.get (i * 9 + k)) + (s.get (k * 9 + j)))=mx s i k + mx s k j:=by
  have a1:=R.col i h1
  have a2:=R.row j h2
  have a3:=R.le i k h1 hk
  have a4:=R.le k j hk h2
  have a5:=hi i k h1 hk
  have a6:=hi k j hk h2
  exact wAf (by show _ <= mx s i k + mx s k j;omega) (by show mx s i k + mx s k j <= _;omega)
 rw [hw]
 have hg:∀ a b,a <= n->b <= n->mx (s.set (i * 9 + j) (min (s.get (i * 9 + j)) (mx s i k + mx s k j))) a b=if a=i/\b=j then min (mx s i j) (mx s i k + mx s k j) else mx s a b :=
  fun a b ha hb=>wKN _ _ (by omega) (by omega) (by omega) (by omega)
 have hij:mx s i j=mx y i j:=R.un i j h1 h2 (by omega)
 refine ⟨fun a b ha hb hd=>?_,?_,fun b hb=>?_,fun a ha=>?_,fun a b ha hb=>?_,fun a b ha hb=>?_,fun x hx a b ha hb=>?_,fun h0 a b ha hb hd=>?_⟩
 ·rw [hg a b ha hb,if_neg (by omega)]
  exact R.un a b ha hb (by omega)
 ·rw [hg k k hk hk]
  have:=R.kk
  split
  ·rename_i h
   have e:mx s k k=mx y k k:=R.un k k hk hk (by omega)
   have:=lo k k hk hk
   rw [<- h.1,<- h.2]
   omega
  ·exact this
 ·rw [hg k b hk hb]
  have:=R.kk
  have:=R.row b hb
  split
  ·rename_i h
   have e:mx s k b=mx y k b:=R.un k b hk hb (by omega)
   have:=lo k b hk hb
   rw [<- h.1,<- h.2]
   omega
  ·exact R.row b hb
 ·rw [hg a k ha hk]
  have:=R.kk
  have:=R.col a ha
  split
  ·rename_i h
   have e:mx s a k=mx y a k:=R.un a k ha hk (by omega)
   have:=lo a k ha hk
   rw [<- h.1,<- h.2]
   omega
  ·exact R.col a ha
 ·rw [hg a b ha hb]
  have:=R.all a b ha hb
  have:=R.all i j h1 h2
  have:=R.col i h1
  have:=R.row j h2
  split <;> omega
 ·rw [hg a b ha hb]
  split
  ·rename_i h
   rw [h.1,h.2,<- hij]
   exact Int.min_le_left _ _
  ·exact R.le a b ha hb
 ·rw [hg a b ha hb]
  have f1:=R.fe x hx i k h1 hk
  have f2:=R.fe x hx k j hk h2
  have f3:=R.fe x hx i j h1 h2
  split
  ·rename_i h
   rw [h.1,h.2]
   omega
  ·exact R.fe x hx a b ha hb
 ·rw [hg a b ha hb]
  split
  ·rename_i h
   have e1:mx s i k=mx y i k:=by
    by_cases d:i < i \/ (i=i/\k < j)
    ·rw [R.fo h0 i k h1 hk d];omega
    ·exact R.un i k h1 hk d
   have e2:mx s k j=mx y k j:=by
    by_cases d:k < i \/ (k=i/\j < j)
    ·rw [R.fo h0 k j hk h2 d];omega
    ·exact R.un k j hk h2 d
   rw [h.1,h.2,hij,e1,e2]
  ·exact R.fo h0 a b ha hb (by omega)
theorem wIi {n k:Nat} {B:Int} {y:Arr Int 81} (hn:n <= 8) (hk:k <= n) (hB:0 <= B) (hB':B <= 1000000000000) (lo:∀ a b,a <= n->b <= n->-B <= mx y a b) (hi:∀ a b,a <= n->b <= n->mx y a b <= 1048576) :
  ∃ y',((wBx 0 (↑(n + 1):Int) (fun k234 a233 =>
   (wBx 0 (↑(n + 1):Int) (fun k265 a264 =>
    (chk (↑k234:Int) 9).bind fun _ =>
    (chk (↑k265:Int) 9).bind fun _ =>
    (chk (↑k:Int) 9).bind fun _ =>
    some (a264.set (k234 * 9 + k265) (min (a264.get (k234 * 9 + k265)) (w64 ((a264.get (k234 * 9 + k)) + (a264.get (k * 9 + k265))))))) a233).bind fun y270 =>
   some y270) y).bind fun y239=>some y239)=some y'/\(∀ a b,a <= n->b <= n->-(6 * B) <= mx y' a b)/\(∀ a b,a <= n->b <= n->mx y' a b <= mx y a b) /\
   (∀ x:Nat->Int,(∀ a b,a <= n->b <= n->x b - x a <= mx y a b)->∀ a b,a <= n->b <= n->x b - x a <= mx y' a b) /\
   (0 <= mx y k k->∀ a b,a <= n->b <= n->mx y' a b=min (mx y a b) (mx y a k + mx y k b)):=by
 rw [wCI (by omega)]
 obtain ⟨y',g1,g2⟩:=wCl (S:=Arr Int 81) (body:=fun k234 a233 =>
   (wBx 0 (↑(n + 1):Int) (fun k265 a264 =>
    (chk (↑k234:Int) 9).bind fun _ =>
    (chk (↑k265:Int) 9).bind fun _ =>
    (chk (↑k:Int) 9).bind fun _ =>
    some (a264.set (k234 * 9 + k265) (min (a264.get (k234 * 9 + k265)) (w64 ((a264.get (k234 * 9 + k)) + (a264.get (k * 9 + k265))))))) a233).bind fun y270 =>
   some y270) (fun i s=>Rnd n k B y s i 0) (n + 1) 0 y
  ⟨fun _ _ _ _ _=>rfl,by have:=lo k k hk hk;omega,fun b hb=>by have:=lo k b hk hb;omega,fun a ha=>by have:=lo a k ha hk;omega,fun a b ha hb=>by have:=lo a b ha hb;omega,
   fun _ _ _ _=>nj _,fun _ hx=>hx,fun _ a b _ _ h=>by omega⟩
  (by
   intro i s _ hi' R
   rw [wCI (by omega)]
   obtain ⟨t,g1,g2⟩:=wCl (S:=Arr Int 81) (body:=fun k265 a264 =>
    (chk (↑i:Int) 9).bind fun _ =>
    (chk (↑k265:Int) 9).bind fun _ =>
    (chk (↑k:Int) 9).bind fun _ =>
    some (a264.set (i * 9 + k265) (min (a264.get (i * 9 + k265)) (w64 ((a264.get (i * 9 + k)) + (a264.get (k * 9 + k265))))))) (fun j s=>Rnd n k B y s i j) (n + 1) 0 s R
    (by
     intro j t _ hj R
     refine ⟨_,by rw [wBf (by omega) (by omega),wBf (by omega) (by omega),wBf (by omega) (by omega)];rfl,wLC hn hk hB hB' lo hi R (by omega) (by omega)⟩)
   refine ⟨t,by rw [g1];rfl,?_⟩
   refine ⟨fun a b ha hb hd=>g2.un a b ha hb (by omega),g2.kk,g2.row,g2.col,g2.all,g2.le,g2.fe,fun h0 a b ha hb hd=>g2.fo h0 a b ha hb (by omega)⟩)
 refine ⟨y',by rw [g1];rfl,g2.all,g2.le,g2.fe,fun h0 a b ha hb=>g2.fo h0 a b ha hb (by omega)⟩
structure Fl (n:Nat) (y0 y:Arr Int 81) (k:Nat):Prop where
 lo:∀ a b,a <= n->b <= n->-(100 * ((6 ^ k:Nat):Int)) <= mx y a b
 le:∀ a b,a <= n->b <= n->mx y a b <= mx y0 a b
 fe:∀ x:Nat->Int,(∀ a b,a <= n->b <= n->x b - x a <= mx y0 a b)->∀ a b,a <= n->b <= n->x b - x a <= mx y a b
 tri:(∀ a,a <= n->0 <= mx y a a)->∀ j,j < k->∀ a b,a <= n->b <= n->mx y a b <= mx y a j + mx y j b
theorem floyd {n:Nat} (hn:n <= 8) {y0:Arr Int 81} (lo:∀ a b,a <= n->b <= n->-100 <= mx y0 a b) (hi:∀ a b,a <= n->b <= n->mx y0 a b <= 1048576) :
  ∃ y,(wBx 0 (↑(n + 1):Int) (fun k206 a205 =>
  (wBx 0 (↑(n + 1):Int) (fun k234 a233 =>
   (wBx 0 (↑(n + 1):Int) (fun k265 a264 =>
    (chk (↑k234:Int) 9).bind fun _ =>
    (chk (↑k265:Int) 9).bind fun _ =>
    (chk (↑k206:Int) 9).bind fun _ =>
    some (a264.set (k234 * 9 + k265) (min (a264.get (k234 * 9 + k265)) (w64 ((a264.get (k234 * 9 + k206)) + (a264.get (k206 * 9 + k265))))))) a233).bind fun y270 =>
   some y270) a205).bind fun y239 =>
  some y239) y0)=some y/\Fl n y0 y (n + 1):=by
 rw [wCI (by omega)]
 obtain ⟨y,g1,g2⟩:=wCl (S:=Arr Int 81) (body:=fun k206 a205 =>
  (wBx 0 (↑(n + 1):Int) (fun k234 a233 =>
   (wBx 0 (↑(n + 1):Int) (fun k265 a264 =>
    (chk (↑k234:Int) 9).bind fun _ =>
    (chk (↑k265:Int) 9).bind fun _ =>
    (chk (↑k206:Int) 9).bind fun _ =>
    some (a264.set (k234 * 9 + k265) (min (a264.get (k234 * 9 + k265)) (w64 ((a264.get (k234 * 9 + k206)) + (a264.get (k206 * 9 + k265))))))) a233).bind fun y270 =>
   some y270) a205).bind fun y239 =>
  some y239) (fun k y=>Fl n y0 y k) (n + 1) 0 y0
  ⟨fun a b ha hb=>by have:=lo a b ha hb;simpa using this,fun _ _ _ _=>nj _,fun _ hx=>hx,fun _ j hj=>by omega⟩
  (by
   intro k s _ hk F
   have hp:(6 ^ k:Nat) <= 6 ^ 9:=kd (by decide) (by omega)
   have hp1:(6 ^ (k + 1):Nat)=6 * 6 ^ k:=by rw [Nat.pow_succ,Nat.mul_comm]
   have hp9:(6 ^ 9:Nat)=10077696:=by decide
   obtain ⟨y',r1,r2,r3,r4,r5⟩:=wIi (n:=n) (k:=k) (B:=100 * ((6 ^ k:Nat):Int)) (y:=s) hn (by omega) (by omega) (by omega) F.lo (fun a b ha hb=>ng (F.le a b ha hb) (hi a b ha hb))
   refine ⟨y',r1,fun a b ha hb=>?_,fun a b ha hb=>ng (r3 a b ha hb) (F.le a b ha hb),fun x hx=>r4 x (F.fe x hx),fun h0=>?_⟩
   ·have:=r2 a b ha hb
    rw [hp1]
    omega
   ·have hs:∀ a,a <= n->0 <= mx s a a:=fun a ha=>ng (h0 a ha) (r3 a a ha ha)
    have T:=F.tri hs
    have E:=r5 (hs k (by omega))
    have kk:=hs k (by omega)
    intro j hj a b ha hb
    have hjn:j <= n:=by omega
    have hkn:k <= n:=by omega
    have e1:=E a b ha hb
    have e2:=E a j ha hjn
    have e3:=E j b hjn hb
    by_cases hjk:j=k
    ·subst hjk
     omega
    ·have t1:=T j (by omega) a b ha hb
     have t2:=T j (by omega) k b hkn hb
     have t3:=T j (by omega) a k ha hkn
     have t4:=T j (by omega) k k hkn hkn
     omega)
 exact ⟨y,g1,by simpa using g2⟩
end Go.Proofs.YtlmekamhphnmjaaGreat
namespace Go.Proofs.YtlmekamhphnmjaaGreat
open Go.KL
structure Dist (n:Nat) (ks:List wAL) (y:Arr Int 81) (ok:Bool):Prop where
 lo:∀ a b,a <= n->b <= n->-100000000000 <= mx y a b
 hi:∀ a b,a <= n->b <= n->mx y a b <= 1048576
 fe:∀ x:Nat->Int,wID ks x->(∀ a b,a <= n->b <= n->x b - x a <= 1048576)->∀ a b,a <= n->b <= n->x b - x a <= mx y a b
 dg:ok=true->∀ a,a <= n->mx y a a=0
 tri:ok=true->∀ a b j,a <= n->b <= n->j <= n->mx y a b <= mx y a j + mx y j b
 lk:∀ k ∈ ks,∀ w,k.count ()=some w->mx y k.from_.toNat k.to_.toNat <= w
 no:ok=false->∃ a,a <= n/\mx y a a < 0
theorem wME {n:Nat} (hn:n <= 8) {ks:List wAL} (hk:∀ k ∈ ks,wLf n k) (hl:ks.length <= 1000):∃ y ok,wCJ (n:Int) ks=some (y,ok)/\Dist n ks y ok:=by
 unfold wCJ
 obtain ⟨y0,g0,h0⟩:=wJZ
 obtain ⟨y1,g1,h1⟩:=wJa hn hk hl h0
 obtain ⟨y2,g2,h2⟩:=floyd hn (y0:=y1) (fun a b ha hb=>h1.lo a b (by omega) (by omega)) (fun a b ha hb=>h1.hi a b (by omega) (by omega))
 have hw:w64 ((n:Int) + 1)=↑(n + 1):=by rw [wAf (by omega) (by omega)];rfl
 rw [g0,hD,g1,hD,hw,g2,hD,wDs (by omega)]
 have hp9:(6 ^ (n + 1):Nat) <= 6 ^ 9:=kd (by decide) (by omega)
 have hp:(6 ^ 9:Nat)=10077696:=by decide
 have base:∀ ok:Bool,(ok=true->∀ a,a <= n->0 <= mx y2 a a)->(ok=false->∃ a,a <= n/\mx y2 a a < 0)->Dist n ks y2 ok:=by
  intro ok hyes hno
  refine ⟨fun a b ha hb=>?_,fun a b ha hb=>ng (h2.le a b ha hb) (h1.hi a b (by omega) (by omega)),fun x hx hf=>h2.fe x (h1.fe x hx hf),fun e a ha=>?_,fun e a b j ha hb hj=>h2.tri (hyes e) j (by omega) a b ha hb,fun k hk' w hw'=>?_,hno⟩
  ·have:=h2.lo a b ha hb
   omega
  ·have:=hyes e a ha
   have:=ng (h2.le a a ha ha) (h1.dg a (by omega))
   omega
  ·obtain ⟨f0,f1,t0,t1,_⟩:=hk k hk'
   exact ng (h2.le _ _ (by omega) (by omega)) (h1.lk k hk' w hw')
 rcases wHL (S:=Unit) (B:=Arr Int 81 × Bool) (body:=fun k360 _ =>
  (chk (↑k360:Int) 9).bind fun _ =>
  if (y2.get (k360 * 9 + k360)) < 0 then
   esc (some (y2,false))
  else
   some (.inl ())) (fun k _=>∀ a,a < k->0 <= mx y2 a a) (fun b=>b=(y2,false)/\∃ a,a <= n/\mx y2 a a < 0) (n + 1) 0 () (fun a ha=>by omega)
  (by
   intro i s _ hi hs
   rw [wBf (by omega) (by omega),hD]
   by_cases h:y2.get (i * 9 + i) < 0
   ·rw [if_pos h]
    exact .inr ⟨_,rfl,rfl,i,by omega,h⟩
   ·rw [if_neg h]
    refine .inl ⟨(),rfl,fun a ha=>?_⟩
    by_cases e:a=i
    ·subst e
     show 0 <= y2.get (a * 9 + a)
     omega
    ·exact hs a (by omega)) with ⟨_,g3,h3⟩ | ⟨b,g3,rfl,h3⟩
 ·rw [g3]
  exact ⟨y2,true,rfl,base true (fun _ a ha=>h3 a (by omega)) (fun e=>by cases e)⟩
 ·rw [g3]
  exact ⟨y2,false,rfl,base false (fun e=>by cases e) (fun _=>h3)⟩
theorem Dist.pot {n:Nat} {ks:List wAL} {y:Arr Int 81} (D:Dist n ks y true) (hk:∀ k ∈ ks,wLf n k) {a:Nat} (ha:a <= n):wID ks (fun v=>mx y a v):=by
 intro k hk' w hw
 obtain ⟨f0,f1,t0,t1,_⟩:=hk k hk'
 have h1:=D.tri rfl a k.to_.toNat k.from_.toNat ha (by omega) (by omega)
 have h2:=D.lk k hk' w hw
 show mx y a k.to_.toNat - mx y a k.from_.toNat <= w
 omega
theorem Dist.none {n:Nat} {ks:List wAL} {y:Arr Int 81} (D:Dist n ks y false) (x:Nat->Int) (hx:wID ks x) (hf:∀ a b,a <= n->b <= n->x b - x a <= 1048576):False:=by
 obtain ⟨a,ha,h⟩:=D.no rfl
 have:=D.fe x hx hf a a ha ha
 omega
end Go.Proofs.YtlmekamhphnmjaaGreat
namespace Go.Proofs.YtlmekamhphnmjaaGreat
open Go.KL
theorem wEs (x a b:Int):wBi x a b=some (decide (a <= x/\x <= b)):=by
 unfold wBi
 by_cases h:a <= x <;> simp [h]
def wGb (n:Int) (s:wAE):Bool:=decide (0 <= s.From/\s.From <= s.To/\s.To < n)
def wGc (s:wAE):Bool:=decide (0 <= s.Loops.Lo/\s.Loops.Lo <= s.Loops.Hi/\s.Loops.Hi <= 72)
def wIj (n:Int) (l:List wAE):Int:=if n < 1 \/ 8 < n \/ 20 < (l.length:Int) then 2 else if l.all (wGb n)=true then if l.all wGc=true then 0 else 3 else 1
theorem wGd {l:List wAE} {f:wAE->Option Bool} {p:wAE->Bool} (hf:∀ a,f a=some (p a)) (hn:l.length <= 9223372036854775807):wBJ l f=some (l.all p):=by
 unfold wBJ wAk wAm wAz
 have:=wEx (R:=Int) (l:=l) (f:=fun x=>(f x).bind fun x5=>some (!x5)) (p:=fun a=>!p a) (fun a _=>by rw [hf];rfl) hn id
 simp only [id] at this
 rw [this]
 simp only [hD,wEq]
 congr 1
 clear this hn
 induction l with
 | nil=>rfl
 | cons a l ih=>rw [ke,kf,<- ih];cases p a <;> simp
theorem wKO (s:wAE) (n:Int):wBN s n=some (wGb n s):=by
 unfold wBN wGb
 rw [wEs,hD]
 by_cases h:0 <= s.From/\s.From <= s.To
 ·simp [h]
 ·rw [if_neg (by simpa using h)]
  congr 1
  symm
  exact decide_eq_false (fun g=>h ⟨g.1,g.2.1⟩)
theorem wKP (s:wAE):wBO s=some (wGc s):=by
 unfold wBO wGc
 rw [wEs,hD]
 by_cases h:0 <= s.Loops.Lo/\s.Loops.Lo <= s.Loops.Hi
 ·simp [h]
 ·rw [if_neg (by simpa using h)]
  congr 1
  symm
  exact decide_eq_false (fun g=>h ⟨g.1,g.2.1⟩)
theorem wLD (n:Int) (l:List wAE):wBv n l=some (wIj n l):=by
 unfold wBv wIj
 rw [wEs,hD]
 by_cases h:1 <= n/\n <= 8
 ·rw [if_pos (by simpa using h)]
  by_cases h2:20 < (l.length:Int)
  ·rw [if_pos h2,if_pos (by omega)]
  ·rw [if_neg h2,if_neg (by omega),wGd (fun a=>wKO a n) (by omega),hD]
   by_cases h3:l.all (wGb n)=true
   ·rw [if_pos h3,if_pos h3,wGd wKP (by omega),hD]
    by_cases h4:l.all wGc=true
    ·rw [if_pos h4,if_pos h4]
    ·rw [if_neg h4,if_neg h4]
   ·rw [if_neg h3,if_neg h3]
 ·rw [if_neg (by simpa using h),if_pos (by omega)]
def lnk (a b:Int) (f t w:Int):wAL:=⟨⟨a,b⟩,f,t,fun _=>some w⟩
theorem wLE (x:Nat->Int):wID [] x:=fun _ h=>by cases h
theorem wGM (a b:List wAL) (x:Nat->Int):wID (a ++ b) x ↔ wID a x/\wID b x:=by
 refine ⟨fun h=>⟨fun k hk=>h k (nM _ hk),fun k hk=>h k (nU _ hk)⟩,fun h k hk=>?_⟩
 rcases nV.1 hk with hk | hk
 ·exact h.1 k hk
 ·exact h.2 k hk
theorem wHR (a b f t w:Int) (x:Nat->Int):wID [lnk a b f t w] x ↔ x t.toNat - x f.toNat <= w:=by
 refine ⟨fun h=>h _ (nJ.2 rfl) w rfl,fun h k hk v hv=>?_⟩
 have:=nJ.1 hk
 subst this
 cases hv
 exact h
theorem wJN (a b f t w a' b' f' t' w':Int) (x:Nat->Int):wID [lnk a b f t w,lnk a' b' f' t' w'] x ↔ x t.toNat - x f.toNat <= w/\x t'.toNat - x f'.toNat <= w':=by
 rw [<- wHR a b f t w x,<- wHR a' b' f' t' w' x,<- wGM]
 rfl
theorem wKQ {n:Nat} {a b f t w:Int} (h0:0 <= f) (h1:f <= n) (h2:0 <= t) (h3:t <= n) (h4:-100 <= w) (h5:w <= 100):wLf n (lnk a b f t w):=⟨h0,h1,h2,h3,w,rfl,h4,h5⟩
structure Fit (n:Nat) (l:List wAE) (owed:List Int) (x:Nat->Int):Prop where
 sh:∀ s ∈ l,s.Loops.Lo <= x (s.To + 1).toNat - x s.From.toNat/\x (s.To + 1).toNat - x s.From.toNat <= s.Loops.Hi
 bo:∀ b,b < n->0 <= x (b + 1) - x b/\x (b + 1) - x b <= 9
 ow:∀ b k,owed[b]?=some k->k <= x (b + 1) - x b
def wIk (n:Nat) (s:wAE):Prop:=0 <= s.From/\s.From <= s.To/\s.To < n/\0 <= s.Loops.Lo/\s.Loops.Lo <= s.Loops.Hi/\s.Loops.Hi <= 72
theorem wLF {n:Nat} (hn:n <= 8) {l:List wAE} (hl:l.length <= 20) (hs:∀ s ∈ l,wIk n s) {owed:List Int} (ho:owed.length <= n) (hw:∀ k ∈ owed,0 <= k/\k <= 5) :
  ∃ ks,wDH (n:Int) l owed=some ks/\(∀ k ∈ ks,wLf n k)/\ks.length <= 1000/\∀ x,wID ks x ↔ Fit n l owed x:=by
 unfold wDH
 rw [wCI (by omega)]
 obtain ⟨k1,g1,h1⟩:=wCl (S:=List wAL) (body:=fun k22 l17 =>
  (idx l (↑k22:Int)).bind fun x49 =>
  (wAw x49.Loops.Hi).bind fun x66 =>
  (wAw (w64 (-x49.Loops.Lo))).bind fun x81 =>
  (app 40 l17 [(⟨(⟨0,(↑k22:Int)⟩:wAZ),x49.From,w64 (x49.To + 1),x66⟩:wAL),(⟨(⟨1,(↑k22:Int)⟩:wAZ),w64 (x49.To + 1),x49.From,x81⟩:wAL)]).bind fun x103 =>
  some x103) (fun i ks=>ks.length=2 * i/\(∀ k ∈ ks,wLf n k)/\∀ x,wID ks x ↔ ∀ s ∈ l.take i,s.Loops.Lo <= x (s.To + 1).toNat - x s.From.toNat/\x (s.To + 1).toNat - x s.From.toNat <= s.Loops.Hi) l.length 0 []
  ⟨rfl,fun _ h=>(by cases h),fun x=>⟨fun _ s h=>by simp at h,fun _=>wLE x⟩⟩
  (by
   intro i ks _ hi ⟨c1,c2,c3⟩
   have hlt:i < l.length:=by omega
   obtain ⟨s0,s1,s2,s3,s4,s5⟩:=hs _ (nl hlt)
   rw [wFI,nG hlt,hD]
   have w1:w64 (l[i].To + 1)=l[i].To + 1:=wAf (by omega) (by omega)
   have w2:w64 (-l[i].Loops.Lo)=-l[i].Loops.Lo:=wAf (by omega) (by omega)
   rw [w1,w2]
   refine ⟨ks ++ [lnk 0 i l[i].From (l[i].To + 1) l[i].Loops.Hi,lnk 1 i (l[i].To + 1) l[i].From (-l[i].Loops.Lo)],?_,?_,?_,?_⟩
   ·show ((app 40 ks [lnk 0 i l[i].From (l[i].To + 1) l[i].Loops.Hi,lnk 1 i (l[i].To + 1) l[i].From (-l[i].Loops.Lo)]).bind fun x103=>some x103)=_
    rw [wDg (by simp only [nE,nW];omega)]
    rfl
   ·simp only [hJ,nE,nW];omega
   ·intro k hk
    rcases nV.1 hk with hk | hk
    ·exact c2 k hk
    ·simp only [nS,kV,or_false] at hk
     rcases hk with rfl | rfl
     ·exact wKQ (by omega) (by omega) (by omega) (by omega) (by omega) (by omega)
     ·exact wKQ (by omega) (by omega) (by omega) (by omega) (by omega) (by omega)
   ·intro x
    have e:l.take (i + 1)=l.take i ++ [l[i]]:=by rw [kP,nG hlt];rfl
    rw [wGM,wJN,c3 x,e]
    refine ⟨fun ⟨a,b,c⟩ s hs'=>?_,fun h=>⟨fun s hs'=>h s (nM _ hs'),?_,?_⟩⟩
    ·rcases nV.1 hs' with hs' | hs'
     ·exact a s hs'
     ·have:=nJ.1 hs'
      subst this
      omega
    ·exact (h l[i] (nU _ (nJ.2 rfl))).2
    ·have:=(h l[i] (nU _ (nJ.2 rfl))).1
     omega)
 rw [g1,hD,wCI (by omega)]
 have hlt:l.take (0 + l.length)=l:=by rw [nm,nP]
 rw [hlt] at h1
 obtain ⟨c1,c2,c3⟩:=h1
 obtain ⟨k2,g2,h2⟩:=wCl (S:=List wAL) (body:=fun k159 l155 =>
  (wAw 9).bind fun x182 =>
  (wAw 0).bind fun x197 =>
  (app 40 l155 [(⟨(⟨2,(↑k159:Int)⟩:wAZ),(↑k159:Int),(↑(k159 + 1):Int),x182⟩:wAL),(⟨(⟨3,(↑k159:Int)⟩:wAZ),(↑(k159 + 1):Int),(↑k159:Int),x197⟩:wAL)]).bind fun x219 =>
  some x219) (fun i ks=>ks.length=2 * l.length + 2 * i/\(∀ k ∈ ks,wLf n k)/\∀ x,wID ks x ↔ wID k1 x/\∀ b,b < i->0 <= x (b + 1) - x b/\x (b + 1) - x b <= 9) n 0 k1
  ⟨by omega,c2,fun x=>⟨fun h=>⟨h,fun b hb=>by omega⟩,fun h=>h.1⟩⟩
  (by
   intro i ks _ hi ⟨d1,d2,d3⟩
   refine ⟨ks ++ [lnk 2 i i ↑(i + 1) 9,lnk 3 i ↑(i + 1) i 0],?_,?_,?_,?_⟩
   ·show ((app 40 ks [lnk 2 i i ↑(i + 1) 9,lnk 3 i ↑(i + 1) i 0]).bind fun x103=>some x103)=_
    rw [wDg (by simp only [nE,nW];omega)]
    rfl
   ·simp only [hJ,nE,nW];omega
   ·intro k hk
    rcases nV.1 hk with hk | hk
    ·exact d2 k hk
    ·simp only [nS,kV,or_false] at hk
     rcases hk with rfl | rfl
     ·exact wKQ (by omega) (by omega) (by omega) (by omega) (by omega) (by omega)
     ·exact wKQ (by omega) (by omega) (by omega) (by omega) (by omega) (by omega)
   ·intro x
    rw [wGM,wJN,d3 x,nD,nD]
    refine ⟨fun ⟨⟨a,b⟩,c,d⟩=>⟨a,fun j hj=>?_⟩,fun h=>⟨⟨h.1,fun b hb=>h.2 b (by omega)⟩,(h.2 i (by omega)).2,?_⟩⟩
    ·by_cases e:j=i
     ·subst e;omega
     ·exact b j (by omega)
    ·have:=(h.2 i (by omega)).1
     omega)
 rw [g2,hD,wCI (by omega)]
 obtain ⟨d1,d2,d3⟩:=h2
 obtain ⟨k3,g3,h3⟩:=wCl (S:=List wAL) (body:=fun k273 l269 =>
  (idx owed (↑k273:Int)).bind fun x296 =>
  (wAw (w64 (-x296))).bind fun x306 =>
  (app 40 l269 [(⟨(⟨4,(↑k273:Int)⟩:wAZ),(↑(k273 + 1):Int),(↑k273:Int),x306⟩:wAL)]).bind fun x327 =>
  some x327) (fun i ks=>ks.length=2 * l.length + 2 * n + i/\(∀ k ∈ ks,wLf n k)/\∀ x,wID ks x ↔ wID k2 x/\∀ b k,b < i->owed[b]?=some k->k <= x (b + 1) - x b) owed.length 0 k2
  ⟨by omega,d2,fun x=>⟨fun h=>⟨h,fun b k hb=>by omega⟩,fun h=>h.1⟩⟩
  (by
   intro i ks _ hi ⟨e1,e2,e3⟩
   have hlt:i < owed.length:=by omega
   obtain ⟨o0,o1⟩:=hw _ (nl hlt)
   rw [wFI,nG hlt,hD,wAf (x:=-owed[i]) (by omega) (by omega)]
   refine ⟨ks ++ [lnk 4 i ↑(i + 1) i (-owed[i])],?_,?_,?_,?_⟩
   ·show ((app 40 ks [lnk 4 i ↑(i + 1) i (-owed[i])]).bind fun x103=>some x103)=_
    rw [wDg (by simp only [nE,nW];omega)]
    rfl
   ·simp only [hJ,nE,nW];omega
   ·intro k hk
    rcases nV.1 hk with hk | hk
    ·exact e2 k hk
    ·have:=nJ.1 hk
     subst this
     exact wKQ (by omega) (by omega) (by omega) (by omega) (by omega) (by omega)
   ·intro x
    rw [wGM,wHR,e3 x,nD,nD]
    refine ⟨fun ⟨⟨a,b⟩,c⟩=>⟨a,fun j k hj hk=>?_⟩,fun h=>⟨⟨h.1,fun b k hb hk=>h.2 b k (by omega) hk⟩,?_⟩⟩
    ·by_cases e:j=i
     ·subst e
      rw [nG hlt] at hk
      cases hk
      omega
     ·exact b j k (by omega) hk
    ·have:=h.2 i _ (by omega) (nG hlt)
     omega)
 rw [g3,hD]
 obtain ⟨e1,e2,e3⟩:=h3
 refine ⟨k3,rfl,e2,by omega,fun x=>?_⟩
 rw [e3,d3,c3]
 refine ⟨fun ⟨⟨a,b⟩,c⟩=>⟨a,fun j hj=>b j (by omega),fun j k hk=>c j k (by have:=(List.getElem?_eq_some_iff.1 hk).1;omega) hk⟩,fun h=>⟨⟨h.sh,fun j hj=>h.bo j (by omega)⟩,fun j k _ hk=>h.ow j k hk⟩⟩
end Go.Proofs.YtlmekamhphnmjaaGreat
namespace Go.Proofs.YtlmekamhphnmjaaGreat
open Go.KL
theorem Fit.up {n:Nat} {l:List wAE} {o:List Int} {x:Nat->Int} (F:Fit n l o x):∀ b,b <= n->0 <= x b - x 0/\x b - x 0 <= 9 * b
 | 0,_=>by omega
 | b + 1,hb=>by
  have:=F.up b (by omega)
  have:=F.bo b (by omega)
  omega
theorem Fit.far {n:Nat} {l:List wAE} {o:List Int} {x:Nat->Int} (F:Fit n l o x) (hn:n <= 8):∀ a b,a <= n->b <= n->x b - x a <= 1048576:=by
 intro a b ha hb
 have:=F.up a ha
 have:=F.up b hb
 omega
theorem wLG {n:Int} {l:List wAE} (h:wIj n l=0):1 <= n/\n <= 8/\l.length <= 20/\∀ s ∈ l,wIk n.toNat s:=by
 unfold wIj at h
 split at h
 ·cases h
 ·split at h
  ·split at h
   ·rename_i h1 h2 h3
    refine ⟨by omega,by omega,by omega,fun s hs=>?_⟩
    have a1:=of_decide_eq_true (nv.1 h2 s hs)
    have a2:=of_decide_eq_true (nv.1 h3 s hs)
    exact ⟨a1.1,a1.2.1,by omega,a2.1,a2.2.1,a2.2.2⟩
   ·cases h
  ·cases h
theorem wKR {l:List Int} {f:Int->Option Bool} {p:Int->Bool} (hf:∀ a,f a=some (p a)) (hn:l.length <= 9223372036854775807):wCh l f=some (l.all p):=by
 unfold wCh wBZ wBk wBr
 have:=wEx (R:=Int) (l:=l) (f:=fun x=>(f x).bind fun x5=>some (!x5)) (p:=fun a=>!p a) (fun a _=>by rw [hf];rfl) hn id
 simp only [id] at this
 rw [this]
 simp only [hD,wEq]
 congr 1
 clear this hn
 induction l with
 | nil=>rfl
 | cons a l ih=>rw [ke,kf,<- ih];cases p a <;> simp
theorem wMy {n:Nat} {l:List wAE} {owed:List Int} (h:wIj n l=0) (ho:owed.length=n) (hw:∀ k ∈ owed,0 <= k/\k <= 5):∃ b,wDQ owed l=some (b,0)/\(b=false ↔ ∃ x,Fit n l owed x):=by
 obtain ⟨h1,h2,h3,h4'⟩:=wLG h
 have h4:∀ s ∈ l,wIk n s:=fun s hs=>by have:=h4' s hs;rwa [nD] at this
 have hd:wDo owed l=some 0:=by
  unfold wDo
  rw [ho,wEs,hD,if_pos (decide_eq_true ⟨h1,h2⟩),wKR (p:=fun k=>decide (0 <= k/\k <= 5)) (fun a=>by unfold wCm;rw [wEs];rfl) (by omega),hD,
   if_pos (nv.2 fun k hk=>decide_eq_true (hw k hk)),wLD,h]
  rfl
 obtain ⟨ks,g1,g2,g3,g4⟩:=wLF (n:=n) (by omega) h3 h4 (owed:=owed) (by omega) hw
 obtain ⟨y,ok,d1,d2⟩:=wME (n:=n) (by omega) g2 g3
 refine ⟨!ok,?_,?_⟩
 ·unfold wDQ
  rw [hd,hD,if_pos rfl,ho,g1,hD,d1]
  rfl
 ·cases ok with
  | true=>exact ⟨fun _=>⟨_,(g4 _).1 (d2.pot g2 (a:=0) (by omega))⟩,fun _=>rfl⟩
  | false=>exact ⟨fun e=>(by cases e),fun ⟨x,F⟩=>(d2.none _ ((g4 _).2 F) (F.far (by omega))).elim⟩
end Go.Proofs.YtlmekamhphnmjaaGreat
namespace Go.Proofs.YtlmekamhphnmjaaGreat
open Go.KL
theorem wKS (a b:List Int) (i:Nat):gd (a ++ b) i=if i < a.length then gd a i else gd b (i - a.length):=by
 unfold gd
 split
 ·rename_i h;rw [nH,nY h,<- nH]
 ·rename_i h;rw [nH,nb (by omega),<- nH]
theorem wDk {a b:Nat} (h:b <= a) (ha:a <= 1000000):w64 ((a:Int) - (b:Int))=((a - b:Nat):Int):=by rw [wAf (by omega) (by omega)];omega
theorem wEV {a b:Nat} (h:a + b <= 1000000):w64 ((a:Int) + (b:Int))=((a + b:Nat):Int):=by rw [wAf (by omega) (by omega)];omega
theorem wFy {a:Nat} (h:a <= 1000000):w64 ((a:Int) + 1)=((a + 1:Nat):Int):=by rw [wAf (by omega) (by omega)];omega
theorem wHS {a:Nat} (h:1 <= a) (h2:a <= 1000000):w64 ((a:Int) - 1)=((a - 1:Nat):Int):=by rw [wAf (by omega) (by omega)];omega
theorem wIE {l:List Int} {i j:Nat} (h:i=j):gd l i=gd l j:=by rw [h]
theorem wJb {l:List Int} {p q n:Nat} {c:(Int × Int)->Option Int} (h1:p + n <= q) (h2:q + n <= l.length) (hl:l.length <= 1000):∃ r,wAM l p q n c=some r/\r.length=l.length /\
  ∀ i,i < l.length->gd r i=if p <= i/\i < p + n then gd l (i - p + q) else if q <= i/\i < q + n then gd l (i - q + p) else gd l i:=by
 unfold wAM
 rw [wCI (by omega)]
 obtain ⟨s,hs,I1,I2⟩:=wCl (body:=fun (k8:Nat) (l7:List Int) =>
  (chk (w64 ((q:Int) + (↑k8:Int))) l7.length).bind fun _ =>
  (chk (w64 ((p:Int) + (↑k8:Int))) l7.length).bind fun _ =>
  (chk (w64 ((q:Int) + (↑k8:Int))) (hM l7 (w64 ((p:Int) + (↑k8:Int))).toNat (gd l7 (w64 ((q:Int) + (↑k8:Int))).toNat)).length).bind fun _ =>
  some (hM (hM l7 (w64 ((p:Int) + (↑k8:Int))).toNat (gd l7 (w64 ((q:Int) + (↑k8:Int))).toNat)) (w64 ((q:Int) + (↑k8:Int))).toNat (gd l7 (w64 ((p:Int) + (↑k8:Int))).toNat)))
  (fun k s=>s.length=l.length/\∀ i,i < l.length->gd s i=if p <= i/\i < p + k then gd l (i - p + q) else if q <= i/\i < q + k then gd l (i - q + p) else gd l i) n 0 l
  ⟨rfl,fun i hi=>by rw [if_neg (by omega),if_neg (by omega)]⟩ (fun k s _ hk ⟨J1,J2⟩=>by
   have hk:k < n:=by omega
   have e1:w64 ((q:Int) + (k:Int))=((q + k:Nat):Int):=wEV (by omega)
   have e2:w64 ((p:Int) + (k:Int))=((p + k:Nat):Int):=wEV (by omega)
   rw [e1,e2,wBf (by omega) (by omega),hD,wBf (by omega) (by omega),hD,wBf (by omega) (by rw [nN];omega),hD]
   simp only [nD]
   refine ⟨_,rfl,by simp [J1],fun i hi=>?_⟩
   rw [wLc (by rw [nN];omega) (by rw [nN];omega),wLc (by omega) (by omega),J2 (p + k) (by omega),J2 (q + k) (by omega),J2 i hi]
   rw [if_neg (show ¬ (p <= q + k/\q + k < p + k) by omega),if_neg (show ¬ (q <= q + k/\q + k < q + k) by omega),if_neg (show ¬ (p <= p + k/\p + k < p + k) by omega),if_neg (show ¬ (q <= p + k/\p + k < q + k) by omega)]
   by_cases c1:i=q + k
   ·subst c1
    rw [if_pos rfl,if_neg (by omega),if_pos (by omega)]
    exact wIE (by omega)
   ·rw [if_neg c1]
    by_cases c2:i=p + k
    ·subst c2
     rw [if_pos rfl,if_pos (by omega)]
     exact wIE (by omega)
    ·rw [if_neg c2]
     by_cases c3:p <= i/\i < p + k
     ·rw [if_pos c3,if_pos (by omega)]
     ·rw [if_neg c3,if_neg (show ¬ (p <= i/\i < p + (k + 1)) by omega)]
      by_cases c4:q <= i/\i < q + k
      ·rw [if_pos c4,if_pos (by omega)]
      ·rw [if_neg c4,if_neg (by omega)])
 rw [hs]
 rw [nm] at I2
 exact ⟨s,rfl,I1,I2⟩
theorem wFN {P X M Y S:List Int} {c:(Int × Int)->Option Int} (h:X.length=Y.length) (hl:(P ++ X ++ M ++ Y ++ S).length <= 1000):wAM (P ++ X ++ M ++ Y ++ S) (P.length:Nat) ((P.length + X.length + M.length:Nat):Int) (X.length:Nat) c=some (P ++ Y ++ M ++ X ++ S):=by
 have hl':=hl
 simp only [hJ] at hl
 obtain ⟨r,hr,h1,h2⟩:=wJb (l:=P ++ X ++ M ++ Y ++ S) (p:=P.length) (q:=P.length + X.length + M.length) (n:=X.length) (c:=c) (by omega) (by simp only [hJ];omega) hl'
 rw [hr]
 refine congrArg some (wLb (by rw [h1];simp only [hJ];omega) fun i hi=>?_)
 rw [h1] at hi
 rw [h2 i hi]
 simp only [hJ] at hi
 simp only [wKS,hJ]
 by_cases c1:i < P.length
 ·rw [if_neg (by omega),if_neg (by omega),if_pos (by omega),if_pos (by omega),if_pos (by omega),if_pos c1,if_pos (by omega),if_pos (by omega),if_pos (by omega),if_pos c1]
 ·by_cases c2:i < P.length + X.length
  ·rw [if_pos (by omega),if_pos (by omega),if_neg (by omega),if_pos (by omega),if_pos (by omega),if_pos (by omega),if_neg c1]
   exact wIE (by omega)
  ·rw [if_neg (show ¬ (P.length <= i/\i < P.length + X.length) by omega)]
   by_cases c3:i < P.length + X.length + M.length
   ·rw [if_neg (by omega),if_pos (by omega),if_pos (by omega),if_neg (by omega),if_pos (by omega),if_pos (by omega),if_neg (by omega)]
    exact wIE (by omega)
   ·by_cases c4:i < P.length + X.length + M.length + Y.length
    ·rw [if_pos (by omega),if_pos (by omega),if_pos (by omega),if_pos (by omega),if_neg (by omega),if_pos (by omega),if_neg (by omega)]
     exact wIE (by omega)
    ·rw [if_neg (by omega),if_neg (by omega),if_neg (by omega)]
     exact wIE (by omega)
theorem wLH {P X Y S:List Int} {c:(Int × Int)->Option Int} {m:Nat} (hm:P.length + X.length=m) (g:Y.length < X.length) (hl:(P ++ X ++ Y ++ S).length <= 1000) :
  wAM (P ++ X ++ Y ++ S) (w64 ((m:Int) - (X.length:Nat))) (m:Nat) (Y.length:Nat) c=some (P ++ Y ++ X.drop Y.length ++ X.take Y.length ++ S):=by
 have hx1:(X.take Y.length).length=Y.length:=by rw [nK];omega
 have hx2:(X.drop Y.length).length=X.length - Y.length:=by rw [nQ]
 have e3:P ++ X.take Y.length ++ X.drop Y.length ++ Y ++ S=P ++ X ++ Y ++ S:=by rw [nA P,nB]
 have hsw:=wFN (P:=P) (X:=X.take Y.length) (M:=X.drop Y.length) (Y:=Y) (S:=S) (c:=c) hx1 (by rw [e3];exact hl)
 have hl2:=hl
 simp only [hJ] at hl2
 rw [hx1,hx2,e3,show P.length + Y.length + (X.length - Y.length)=m by omega] at hsw
 rw [wDk (by omega) (by omega),show m - X.length=P.length by omega]
 exact hsw
theorem wKT {P X Y S:List Int} {c:(Int × Int)->Option Int} {m:Nat} (hm:P.length + X.length=m) (g:X.length < Y.length) (hl:(P ++ X ++ Y ++ S).length <= 1000) :
  wAM (P ++ X ++ Y ++ S) (w64 ((m:Int) - (X.length:Nat))) (w64 ((w64 ((m:Int) + (Y.length:Nat))) - (X.length:Nat))) (X.length:Nat) c=some (P ++ Y.drop (Y.length - X.length) ++ Y.take (Y.length - X.length) ++ X ++ S):=by
 have hy1:(Y.drop (Y.length - X.length)).length=X.length:=by rw [nQ];omega
 have hy2:(Y.take (Y.length - X.length)).length=Y.length - X.length:=by rw [nK];omega
 have e3:P ++ X ++ Y.take (Y.length - X.length) ++ Y.drop (Y.length - X.length) ++ S=P ++ X ++ Y ++ S:=by rw [nA (P ++ X),nB]
 have hsw:=wFN (P:=P) (X:=X) (M:=Y.take (Y.length - X.length)) (Y:=Y.drop (Y.length - X.length)) (S:=S) (c:=c) hy1.symm (by rw [e3];exact hl)
 have hl2:=hl
 simp only [hJ] at hl2
 rw [hy2,e3,show P.length + X.length + (Y.length - X.length)=m + Y.length - X.length by omega] at hsw
 rw [wEV (by omega),wDk (by omega) (by omega),wDk (by omega) (by omega),show m - X.length=P.length by omega]
 exact hsw
theorem wMF {P X Y S:List Int} {c:(Int × Int)->Option Int} {m:Nat} (hm:P.length + X.length=m) (g:X.length=Y.length) (hl:(P ++ X ++ Y ++ S).length <= 1000) :
  wAM (P ++ X ++ Y ++ S) (w64 ((m:Int) - (X.length:Nat))) (m:Nat) (X.length:Nat) c=some (P ++ Y ++ X ++ S):=by
 have hsw:=wFN (P:=P) (X:=X) (M:=[]) (Y:=Y) (S:=S) (c:=c) g (by simpa using hl)
 have hl2:=hl
 simp only [hJ] at hl2
 rw [kY,kY,nW,Nat.add_zero,hm] at hsw
 rw [wDk (by omega) (by omega),show m - X.length=P.length by omega]
 exact hsw
def RotI (m:Nat) (G:List Int) (s:List Int × Int × Int) (n:Nat):Prop:=∃ P X Y S:List Int,s=(P ++ X ++ Y ++ S,((X.length:Nat):Int),((Y.length:Nat):Int))/\0 < X.length/\0 < Y.length/\P.length + X.length=m/\(P ++ X ++ Y ++ S).length <= 1000/\P ++ Y ++ X ++ S=G/\X.length + Y.length <= n
theorem wLI {m:Nat} {G:List Int} {c:(Int × Int)->Option Int} {l:List Int} {x y:Int} {n:Nat} (h:RotI m G (l,x,y) n) (hne:x ≠ y):0 < n/\∃ s',(if y < x then
        (wAM l (w64 ((m:Int) - x)) (m:Int) y c).bind fun x46 =>
        some (Sum.inl (β:=List Int × Int) (x46,w64 (x - y),y))
      else
        (wAM l (w64 ((m:Int) - x)) (w64 ((w64 ((m:Int) + y)) - x)) x c).bind fun x62 =>
        some (.inl (x62,x,w64 (y - x))))=some (.inl s')/\RotI m G s' (n - 1):=by
  obtain ⟨P,X,Y,S,e,i1,i2,i3,i4,i5,i6⟩:=h
  injection e with e1 e2
  injection e2 with e2 e3
  subst e1 e2 e3
  have hl:=i4
  simp only [hJ] at hl
  refine ⟨by omega,?_⟩
  by_cases g:Y.length < X.length
  · rw [if_pos (by omega),wLH i3 g i4,hD,wDk (by omega) (by omega)]
    have hx1:(X.take Y.length).length=Y.length:=by rw [nK];omega
    have hx2:(X.drop Y.length).length=X.length - Y.length:=by rw [nQ]
    refine ⟨_,rfl,P ++ Y,X.drop Y.length,X.take Y.length,S,by rw [hx1,hx2],by omega,by omega,by rw [hJ];omega,by simp only [hJ];omega,?_,by omega⟩
    rw [nA (P ++ Y) (X.take _),nB,i5]
  · have g2:X.length < Y.length:=by
      rcases Nat.lt_trichotomy X.length Y.length with h | h | h
      · exact h
      · exact absurd (by rw [h]) hne
      · exact absurd h g
    rw [if_neg (by omega),wKT i3 g2 i4,hD,wDk (by omega) (by omega)]
    have hy1:(Y.drop (Y.length - X.length)).length=X.length:=by rw [nQ];omega
    have hy2:(Y.take (Y.length - X.length)).length=Y.length - X.length:=by rw [nK];omega
    refine ⟨_,rfl,P,Y.drop (Y.length - X.length),Y.take (Y.length - X.length),X ++ S,by rw [hy1,hy2,nA _ X S],by omega,by omega,by omega,by simp only [hJ];omega,?_,by omega⟩
    rw [nA P,nB,<- nA,i5]
theorem wKU {A X Y B:List Int} {c:(Int × Int)->Option Int} {a m b:Nat} (ha:A.length=a) (hm:A.length + X.length=m) (hb:A.length + X.length + Y.length=b) (hX:0 < X.length) (hY:0 < Y.length) (hl:(A ++ X ++ Y ++ B).length <= 1000):wAs (A ++ X ++ Y ++ B) (a:Int) (m:Int) (b:Int) c=some (A ++ Y ++ X ++ B):=by
 unfold wAs
 have hl2:=hl
 simp only [hJ] at hl2
 rw [wDk (by omega) (by omega),wDk (by omega) (by omega),show m - a=X.length by omega,show b - m=Y.length by omega]
 obtain ⟨r,h1,P,X',Y',S,rfl,h2,h3,h4,h5⟩:=wDm (body:=fun (l16,x17,x18) =>
  if x17=x18 then
   esc (some (l16,x17))
  else
   if x18 < x17 then
    (wAM l16 (w64 ((m:Int) - x17)) (m:Int) x18 c).bind fun x46 =>
    some (.inl (x46,w64 (x17 - x18),x18))
   else
    (wAM l16 (w64 ((m:Int) - x17)) (w64 ((w64 ((m:Int) + x18)) - x17)) x17 c).bind fun x62 =>
    some (.inl (x62,x17,w64 (x18 - x17))))
  (fun n s=>RotI m (A ++ Y ++ X ++ B) s (X.length + Y.length - n)) (fun r=>∃ P X' Y' S:List Int,r=(P ++ X' ++ Y' ++ S,((X'.length:Nat):Int))/\X'.length=Y'.length/\P.length + X'.length=m/\(P ++ X' ++ Y' ++ S).length <= 1000/\P ++ Y' ++ X' ++ S=A ++ Y ++ X ++ B) (X.length + Y.length)
  (fun n s hn h=>by
   obtain ⟨l,x,y⟩:=s
   simp only
   by_cases e:x=y
   ·right
    rw [if_pos e]
    obtain ⟨P,X',Y',S,e',i1,i2,i3,i4,i5,i6⟩:=h
    injection e' with e1 e2
    injection e2 with e2 e3
    subst e1 e2 e3
    exact ⟨_,rfl,P,X',Y',S,rfl,by omega,i3,i4,i5⟩
   ·left
    rw [if_neg e]
    obtain ⟨h1,s',h2,h3⟩:=wLI (c:=c) h e
    exact ⟨by omega,s',h2,by rw [show X.length + Y.length - (n + 1)=X.length + Y.length - n - 1 by omega];exact h3⟩)
  (s0:=(A ++ X ++ Y ++ B,((X.length:Nat):Int),((Y.length:Nat):Int))) ⟨A,X,Y,B,rfl,hX,hY,hm,hl,rfl,by omega⟩ (by omega)
 rw [h1,hD]
 simp only
 rw [wMF h3 h2 h4,hD,h5]
theorem wGe {body:Int × Int->Option ((Int × Int) ⊕ Int)} (q:Nat->Bool) {lo hi:Nat} (hle:lo <= hi) (hh:hi <= 1000) (mono:∀ i j,lo <= i->i <= j->j < hi->q j=true->q i=true)
  (hb:∀ i j:Nat,lo <= i->i < j->j <= hi->body ((i:Int),(j:Int))=some (.inl (if q ((i + j) / 2)=true then ((((i + j) / 2 + 1:Nat):Int),(j:Int)) else ((i:Int),(((i + j) / 2:Nat):Int)))))
  (he:∀ i:Nat,lo <= i->i <= hi->body ((i:Int),(i:Int))=some (.inr (i:Int))) :
  ∃ k:Nat,lo <= k/\k <= hi/\iter body big ((lo:Int),(hi:Int))=some (k:Int)/\(∀ i,lo <= i->i < k->q i=true)/\(∀ i,k <= i->i < hi->q i=false):=by
 obtain ⟨b,h1,k,rfl,h2⟩:=wDm (body:=body) (fun n s=>∃ i j:Nat,s=((i:Int),(j:Int))/\lo <= i/\i <= j/\j <= hi/\j - i + n <= hi - lo/\(∀ t,lo <= t->t < i->q t=true)/\(∀ t,j <= t->t < hi->q t=false))
  (fun b=>∃ k:Nat,b=(k:Int)/\lo <= k/\k <= hi/\(∀ t,lo <= t->t < k->q t=true)/\(∀ t,k <= t->t < hi->q t=false)) (hi - lo) (fun n s hn ⟨i,j,hs,i1,i2,i3,i4,i5,i6⟩=>by
   subst hs
   rcases kg i j with c | c
   ·left
    refine ⟨by omega,_,hb i j i1 c i3,?_⟩
    by_cases g:q ((i + j) / 2)=true
    ·rw [if_pos g]
     refine ⟨(i + j) / 2 + 1,j,rfl,by omega,by omega,i3,by omega,fun t h1 h2=>?_,i6⟩
     exact mono t ((i + j) / 2) h1 (by omega) (by omega) g
    ·rw [if_neg g]
     refine ⟨i,(i + j) / 2,rfl,i1,by omega,by omega,by omega,i5,fun t h1 h2=>?_⟩
     cases hq:q t with
     | false=>rfl
     | true=>exact absurd (mono _ t (by omega) h1 h2 hq) g
   ·right
    have:i=j:=by omega
    subst this
    exact ⟨_,he i i1 i3,i,rfl,i1,i3,i5,i6⟩) (s0:=((lo:Int),(hi:Int))) ⟨lo,hi,rfl,nR _,hle,nR _,by omega,fun t h1 h2=>by omega,fun t h1 h2=>by omega⟩ (by omega)
 exact ⟨k,h2.1,h2.2.1,h1,h2.2.2⟩
end Go.Proofs.YtlmekamhphnmjaaGreat
namespace Go.Proofs.YtlmekamhphnmjaaGreat
open Go.KL
def Lr (K:Int->Int) (a b:Int):Prop:=K a < K b \/ (K a=K b/\a < b)
theorem Lr.le {K:Int->Int} {a b:Int} (h:Lr K a b):K a <= K b:=by unfold Lr at h;omega
theorem Lr.of {K:Int->Int} {a b:Int} (h:K a <= K b) (h2:a < b):Lr K a b:=by unfold Lr;omega
def ByK (K:Int->Int) (n:Int) (c:(Int × Int)->Option Int):Prop:=∀ a b,0 <= a->a < n->0 <= b->b < n->∃ x,c (a,b)=some x/\(x < 0 ↔ K a < K b)
def In (n:Int) (l:List Int):Prop:=∀ x ∈ l,0 <= x/\x < n
theorem wHT (P T:List Int) (z x:Int):gd (P ++ z :: x :: T) P.length=z/\gd (P ++ z :: x :: T) (P.length + 1)=x/\hM (hM (P ++ z :: x :: T) (P.length + 1) z) P.length x=P ++ x :: z :: T/\hM (hM (P ++ z :: x :: T) P.length x) (P.length + 1) z=P ++ x :: z :: T:=by
 refine ⟨wEy _ _ _,?_,?_,?_⟩
 ·have:=wEy (P ++ [z]) T x
  simpa using this
 ·rw [nc _ _ (by omega),show P.length + 1 - P.length=1 by omega,nc _ _ (by omega),kG]
  rfl
 ·rw [nc _ _ (by omega),kG,nc _ _ (by omega),show P.length + 1 - P.length=1 by omega]
  rfl
def wMz (p1:Int) (c:(Int × Int)->Option Int) (x9:Int) (s:List Int × Int):Option ((List Int × Int) ⊕ ((List Int × Int) ⊕ List Int)):=match s with
  | (l34,x35) =>
        if p1 < x35 then
          (chk x35 l34.length).bind fun _ =>
          (chk (w64 (x35 - 1)) l34.length).bind fun _ =>
          (c ((gd l34 x35.toNat),(gd l34 (w64 (x35 - 1)).toNat))).bind fun x65 =>
          if x65 < 0 then
            (chk (w64 (x35 - 1)) (hM l34 x35.toNat (gd l34 (w64 (x35 - 1)).toNat)).length).bind fun _ =>
            some (.inl ((hM (hM l34 x35.toNat (gd l34 (w64 (x35 - 1)).toNat)) (w64 (x35 - 1)).toNat (gd l34 x35.toNat)),w64 (x35 - 1)))
          else
            esc (some (.inl (l34,w64 (x9 + 1))))
        else
          esc (some (.inl (l34,w64 (x9 + 1))))
theorem wJc (p0:List Int) (p1 p2:Int) (c:(Int × Int)->Option Int):wAS p0 p1 p2 c=iter (fun (l8,x9)=>if x9 < p2 then iter (wMz p1 c x9) big (l8,x9) else esc (some l8)) big (p0,w64 (p1 + 1)):=rfl
theorem wLJ {K:Int->Int} {n:Int} {c:(Int × Int)->Option Int} (hc:ByK K n c) {A Z S:List Int} {x:Int} {x9:Int} (hx:0 <= x/\x < n) (hZ:In n Z) (hlt:∀ z ∈ Z,z < x) (ho:Z.Pairwise (Lr K)) (hl:(A ++ Z ++ x :: S).length <= 1000) :
  ∃ Z',iter (wMz (A.length:Nat) c x9) big (A ++ Z ++ x :: S,((A.length + Z.length:Nat):Int))=some (.inl (A ++ Z' ++ S,w64 (x9 + 1)))/\Z'.Perm (Z ++ [x])/\Z'.Pairwise (Lr K):=by
 simp only [hJ,nE] at hl
 obtain ⟨b,h1,Z1,Z2,rfl,hb,h2,h3⟩:=wDm (body:=wMz (A.length:Nat) c x9) (fun k s=>∃ Z1 Z2,Z=Z1 ++ Z2/\s=(A ++ Z1 ++ x :: (Z2 ++ S),((A.length + Z1.length:Nat):Int))/\(∀ z ∈ Z2,K x < K z)/\Z2.length=k)
  (fun b=>∃ Z1 Z2,Z=Z1 ++ Z2/\b=.inl (A ++ Z1 ++ x :: (Z2 ++ S),w64 (x9 + 1))/\(∀ z ∈ Z2,K x < K z)/\(∀ z ∈ Z1,K z <= K x)) Z.length
  (fun k s hk ⟨Z1,Z2,e,hs,g1,g2⟩=>by
   subst hs
   have el:Z.length=Z1.length + Z2.length:=by rw [e,hJ]
   unfold wMz
   simp only
   rcases ka Z1 with h | ⟨Y,z,h⟩
   ·subst h
    right
    rw [if_neg (by simp)]
    exact ⟨_,rfl,[],Z2,e,rfl,g1,fun z hz=>by simp at hz⟩
   ·rw [kb] at h
    subst h
    have e1:A ++ (Y ++ [z]) ++ x :: (Z2 ++ S)=(A ++ Y) ++ z :: x :: (Z2 ++ S):=by simp
    have e2:((A.length + (Y ++ [z]).length:Nat):Int)=(((A ++ Y).length + 1:Nat):Int):=by simp only [hJ,nT];omega
    obtain ⟨s1,s2,s3,_⟩:=wHT (A ++ Y) (Z2 ++ S) z x
    have hll:(A ++ Y ++ z :: x :: (Z2 ++ S)).length=A.length + Y.length + 2 + Z2.length + S.length:=by simp only [hJ,nE];omega
    have el2:Z.length=Y.length + 1 + Z2.length:=by rw [el];simp
    have hY:(A ++ Y).length=A.length + Y.length:=hJ
    have hz:z ∈ Z:=by rw [e];simp
    rw [e1,e2,if_pos (by omega),wBf (by omega) (by omega),hD,wHS (by omega) (by omega),wBf (by omega) (by omega),hD]
    simp only [nD,kL,s1,s2]
    obtain ⟨v,hv,hv2⟩:=hc x z hx.1 hx.2 (hZ z hz).1 (hZ z hz).2
    rw [hv,hD]
    by_cases g:K x < K z
    ·left
     rw [if_pos (hv2.2 g),wBf (by omega) (by rw [nN];omega),hD,s3]
     refine ⟨by omega,_,rfl,Y,z :: Z2,by rw [e];simp,by simp,fun y hy=>?_,by simp;omega⟩
     rcases nS.1 hy with rfl | hy
     ·exact g
     ·exact g1 y hy
    ·right
     rw [if_neg (fun h=>g (hv2.1 h))]
     refine ⟨_,rfl,Y ++ [z],Z2,e,by simp,g1,fun y hy=>?_⟩
     rcases nV.1 hy with hy | hy
     ·have pw:=ho
      rw [e,nA] at pw
      have:=(nI.1 pw).2.2 y hy z (by simp)
      have:=this.le
      omega
     ·rw [nJ.1 hy];omega) (s0:=(A ++ Z ++ x :: S,((A.length + Z.length:Nat):Int))) ⟨Z,[],by simp,by simp,fun z hz=>by simp at hz,rfl⟩ (by omega)
 subst hb
 refine ⟨Z1 ++ x :: Z2,by rw [h1];simp,?_,?_⟩
 ·simp only [nA]
  exact kE _ (ny x Z2).symm
 ·rw [nI] at ho ⊢
  rw [nf]
  have hlt1:∀ z ∈ Z1,z < x:=fun z hz=>hlt z (nM _ hz)
  refine ⟨ho.1,⟨fun z hz=>.inl (h2 z hz),ho.2.1⟩,fun a ha b hb=>?_⟩
  rcases nS.1 hb with rfl | hb
  ·exact Lr.of (h3 a ha) (hlt1 a ha)
  ·exact ho.2.2 a ha b hb
theorem wIF {K:Int->Int} {n:Int} {c:(Int × Int)->Option Int} (hc:ByK K n c) {A X B:List Int} (hX:In n X) (hlt:X.Pairwise (· < ·)) (hl:(A ++ X ++ B).length <= 1000) {a b:Nat} (ha:A.length=a) (hb:A.length + X.length=b) :
  ∃ Z,wAS (A ++ X ++ B) (a:Int) (b:Int) c=some (A ++ Z ++ B)/\Z.Perm X/\Z.Pairwise (Lr K):=by
 rw [wJc]
 simp only [hJ] at hl
 subst ha
 rw [wFy (by omega)]
 cases X with
 | nil =>
  refine ⟨[],?_,kc _,nz⟩
  simp only [nW] at hb
  refine wFw (m:=0) (fun _=>(A ++ [] ++ B,((A.length + 1:Nat):Int))) (fun i hi=>by omega) ?_ rfl (by omega)
  simp only
  rw [if_neg (by omega)]
  rfl
 | cons x0 X =>
  simp only [nE] at hl hb
  obtain ⟨r,h1,Z,rfl,h2,h3⟩:=wDm (body:=fun (l8,x9)=>if x9 < (b:Int) then iter (wMz (A.length:Nat) c x9) big (l8,x9) else esc (some l8))
   (fun k s=>∃ Z,s=(A ++ Z ++ (X.drop k ++ B),((A.length + (k + 1):Nat):Int))/\Z.Perm (x0 :: X.take k)/\Z.Pairwise (Lr K)/\k <= X.length) (fun r=>∃ Z,r=A ++ Z ++ B/\Z.Perm (x0 :: X)/\Z.Pairwise (Lr K)) X.length
   (fun k s hk ⟨Z,hs,g1,g2,g3⟩=>by
    subst hs
    simp only
    have hZl:Z.length=k + 1:=by rw [g1.length_eq];simp;omega
    by_cases e:k=X.length
    ·right
     rw [if_neg (by omega)]
     refine ⟨_,rfl,Z,?_,?_,g2⟩
     ·rw [e,List.drop_length];rfl
     ·rwa [e,nP] at g1
    ·left
     have hk':k < X.length:=by omega
     rw [if_pos (by omega)]
     have hsub:∀ z ∈ Z,z ∈ x0 :: X:=fun z hz=>by
      have:=g1.mem_iff.1 hz
      rcases nS.1 this with h | h
      ·rw [h];simp
      ·exact kH _ (nu h)
     have hlast:∀ z ∈ Z,z < gd X k:=fun z hz=>by
      have pw:=nf.1 hlt
      rcases nS.1 (g1.mem_iff.1 hz) with h | h
      ·rw [h];exact pw.1 _ (wCc hk')
      ·have pw2:=pw.2
       rw [<- nB k X,wEU hk'] at pw2
       exact (nI.1 pw2).2.2 z h _ (by simp)
     obtain ⟨Z',i1,i2,i3⟩:=wLJ hc (A:=A) (Z:=Z) (S:=X.drop (k + 1) ++ B) (x:=gd X k) (x9:=((A.length + (k + 1):Nat):Int)) (hX _ (kH _ (wCc hk'))) (fun z hz=>hX z (hsub z hz)) hlast g2 (by simp only [hJ,nE,nQ];omega)
     refine ⟨by omega,?_⟩
     rw [wEU hk',kT]
     rw [hZl] at i1
     refine ⟨_,i1,Z',by rw [wFy (by omega)];rfl,?_,i3,by omega⟩
     rw [wCq hk']
     exact i2.trans (by simpa using g1.append_right [gd X k]))
   (s0:=(A ++ x0 :: X ++ B,((A.length + 1:Nat):Int))) ⟨[x0],by simp,by simp,by simp,by omega⟩ (by omega)
  exact ⟨Z,by rw [h1],h2,h3⟩
end Go.Proofs.YtlmekamhphnmjaaGreat
namespace Go.Proofs.YtlmekamhphnmjaaGreat
open Go.KL
theorem wHU {i j:Nat} (h:i + j <= 1000000):w64 ((wAP (w64 ((i:Int) + (j:Int)))) / 2)=(((i + j) / 2:Nat):Int):=by
 rw [wEV h]
 have e:wAP ((i + j:Nat):Int)=((i + j:Nat):Int):=by unfold wAP;omega
 rw [e,wAf (by omega) (by omega)]
 omega
def sm1 (p0:List Int) (p1 p2 p3:Int) (p4:(Int × Int)->Option Int):Option (List Int) :=
  (iter (fun (x14,x15) =>
   if x14 < x15 then
    (chk (w64 ((wAP (w64 (x14 + x15))) / 2)) p0.length).bind fun _ =>
    (chk p1 p0.length).bind fun _ =>
    (p4 ((gd p0 (w64 ((wAP (w64 (x14 + x15))) / 2)).toNat),(gd p0 p1.toNat))).bind fun x43 =>
    if x43 < 0 then
     some (.inl (w64 ((w64 ((wAP (w64 (x14 + x15))) / 2)) + 1),x15))
    else
     some (.inl (x14,w64 ((wAP (w64 (x14 + x15))) / 2)))
   else
    esc (some x14)) big (p2,p3)).bind fun x4 =>
  iter (fun (l80,x81) =>
   if x81 < (w64 (x4 - 1)) then
    (chk (w64 (x81 + 1)) l80.length).bind fun _ =>
    (chk x81 l80.length).bind fun _ =>
    (chk (w64 (x81 + 1)) (hM l80 x81.toNat (gd l80 (w64 (x81 + 1)).toNat)).length).bind fun _ =>
    some (.inl ((hM (hM l80 x81.toNat (gd l80 (w64 (x81 + 1)).toNat)) (w64 (x81 + 1)).toNat (gd l80 x81.toNat)),w64 (x81 + 1)))
   else
    esc (some l80)) big (p0,p1)
def sm2 (p0:List Int) (p1 p2 p3:Int) (p4:(Int × Int)->Option Int):Option (List Int) :=
      (iter (fun (x137,x138) =>
        if x137 < x138 then
          (chk p2 p0.length).bind fun _ =>
          (chk (w64 ((wAP (w64 (x137 + x138))) / 2)) p0.length).bind fun _ =>
          (p4 ((gd p0 p2.toNat),(gd p0 (w64 ((wAP (w64 (x137 + x138))) / 2)).toNat))).bind fun x166 =>
          if x166 < 0 then
            some (.inl (x137,w64 ((wAP (w64 (x137 + x138))) / 2)))
          else
            some (.inl (w64 ((w64 ((wAP (w64 (x137 + x138))) / 2)) + 1),x138))
        else
          esc (some x137)) big (p1,p2)).bind fun x127 =>
      iter (fun (l203,x204) =>
        if x127 < x204 then
          (chk (w64 (x204 - 1)) l203.length).bind fun _ =>
          (chk x204 l203.length).bind fun _ =>
          (chk (w64 (x204 - 1)) (hM l203 x204.toNat (gd l203 (w64 (x204 - 1)).toNat)).length).bind fun _ =>
          some (.inl ((hM (hM l203 x204.toNat (gd l203 (w64 (x204 - 1)).toNat)) (w64 (x204 - 1)).toNat (gd l203 x204.toNat)),w64 (x204 - 1)))
        else
          esc (some l203)) big (p0,p2)
def smS (p0:List Int) (m1:Int) (p4:(Int × Int)->Option Int) (s:Int × Int):Option ((Int × Int) ⊕ Int):=match s with
  | (x260,x261) =>
          if x260 < x261 then
            (chk (w64 (m1 - (w64 ((wAP (w64 (x260 + x261))) / 2)))) p0.length).bind fun _ =>
            (chk (w64 ((wAP (w64 (x260 + x261))) / 2)) p0.length).bind fun _ =>
            (p4 ((gd p0 (w64 (m1 - (w64 ((wAP (w64 (x260 + x261))) / 2)))).toNat),(gd p0 (w64 ((wAP (w64 (x260 + x261))) / 2)).toNat))).bind fun x294 =>
            if x294 < 0 then
              some (.inl (x260,w64 ((wAP (w64 (x260 + x261))) / 2)))
            else
              some (.inl (w64 ((w64 ((wAP (w64 (x260 + x261))) / 2)) + 1),x261))
          else
            esc (some x260)
def smT (rec_:(List Int)->Int->Int->Int->((Int × Int)->Option Int)->Option ((List Int))) (l:List Int) (p1 p3 mid e k:Int) (p4:(Int × Int)->Option Int):Option (List Int) :=
          if p1 < k then
            if k < mid then
              (rec_ l p1 k mid p4).bind fun x373 =>
              if mid < e then
                if e < p3 then
                  (rec_ x373 mid e p3 p4).bind fun x389 =>
                  some x389
                else
                  some x373
              else
                some x373
            else
              if mid < e then
                if e < p3 then
                  (rec_ l mid e p3 p4).bind fun x408 =>
                  some x408
                else
                  some l
              else
                some l
          else
            if mid < e then
              if e < p3 then
                (rec_ l mid e p3 p4).bind fun x427 =>
                some x427
              else
                some l
            else
              some l
def smR (rec_:(List Int)->Int->Int->Int->((Int × Int)->Option Int)->Option ((List Int))) (p0:List Int) (p1 p2 p3 mid e k:Int) (p4:(Int × Int)->Option Int):Option (List Int) :=
        (if k < p2 then
          some (decide (p2 < e))
        else
          some false).bind fun b330 =>
        if b330=true then
          (wAs p0 k p2 e p4).bind fun x357=>smT rec_ x357 p1 p3 mid e k p4
        else
          smT rec_ p0 p1 p3 mid e k p4
theorem wJd (rec_:(List Int)->Int->Int->Int->((Int × Int)->Option Int)->Option ((List Int))) (p0:List Int) (p1 p2 p3:Int) (p4:(Int × Int)->Option Int):wBF rec_ p0 p1 p2 p3 p4 =
 if (w64 (p2 - p1))=1 then sm1 p0 p1 p2 p3 p4
 else if (w64 (p3 - p2))=1 then sm2 p0 p1 p2 p3 p4
 else if (w64 ((wAP (w64 (p1 + p3))) / 2)) < p2 then
  (iter (smS p0 (w64 ((w64 ((w64 ((wAP (w64 (p1 + p3))) / 2)) + p2)) - 1)) p4) big (w64 ((w64 ((w64 ((wAP (w64 (p1 + p3))) / 2)) + p2)) - p3),w64 ((wAP (w64 (p1 + p3))) / 2))).bind fun x250 =>
  smR rec_ p0 p1 p2 p3 (w64 ((wAP (w64 (p1 + p3))) / 2)) (w64 ((w64 ((w64 ((wAP (w64 (p1 + p3))) / 2)) + p2)) - x250)) x250 p4
 else
  (iter (smS p0 (w64 ((w64 ((w64 ((wAP (w64 (p1 + p3))) / 2)) + p2)) - 1)) p4) big (p1,p2)).bind fun x250 =>
  smR rec_ p0 p1 p2 p3 (w64 ((wAP (w64 (p1 + p3))) / 2)) (w64 ((w64 ((w64 ((wAP (w64 (p1 + p3))) / 2)) + p2)) - x250)) x250 p4:=rfl
theorem wIG {K:Int->Int} {Y:List Int} (h:Y.Pairwise (Lr K)) {i j:Nat} (hij:i <= j) (hj:j < Y.length):K (gd Y i) <= K (gd Y j):=by
 rcases kg i j with c | c
 ·have:=nZ.1 h i j (by omega) hj c
  rw [<- wFM (by omega),<- wFM hj] at this
  exact this.le
 ·rw [show i=j by omega]
  exact nj _
theorem gd_X {A X Y B:List Int} {i:Nat} (h1:A.length <= i) (h2:i < A.length + X.length):gd (A ++ X ++ Y ++ B) i=gd X (i - A.length):=by
 simp only [wKS,hJ]
 rw [if_pos (by omega),if_pos (by omega),if_neg (by omega)]
theorem gd_Y {A X Y B:List Int} {i:Nat} (h1:A.length + X.length <= i) (h2:i < A.length + X.length + Y.length):gd (A ++ X ++ Y ++ B) i=gd Y (i - (A.length + X.length)):=by
 simp only [wKS,hJ]
 rw [if_pos (by omega),if_neg (by omega)]
theorem wNA {K:Int->Int} {n:Int} {c:(Int × Int)->Option Int} (hc:ByK K n c) {A Y B:List Int} {x:Int} (hx:0 <= x/\x < n) (hY:In n Y) (hlt:∀ y ∈ Y,x < y) (ho:Y.Pairwise (Lr K)) (hl:(A ++ [x] ++ Y ++ B).length <= 1000) {a m b:Nat} (ha:A.length=a) (hm:a + 1=m) (hb:m + Y.length=b) :
  ∃ Z,sm1 (A ++ [x] ++ Y ++ B) (a:Int) (m:Int) (b:Int) c=some (A ++ Z ++ B)/\Z.Perm ([x] ++ Y)/\Z.Pairwise (Lr K):=by
 have hl2:=hl
 simp only [hJ,nT] at hl2
 unfold sm1
 have hx0:gd (A ++ [x] ++ Y ++ B) a=x:=by rw [gd_X (by omega) (by simp;omega),ha,kG];rfl
 have hy:∀ i,m <= i->i < b->gd (A ++ [x] ++ Y ++ B) i=gd Y (i - m):=fun i h1 h2=>by
  rw [gd_Y (by simp;omega) (by simp;omega)]
  exact wIE (by simp;omega)
 obtain ⟨k,k1,k2,k3,k4,k5⟩:=wGe (body:=fun (x14,x15) =>
   if x14 < x15 then
    (chk (w64 ((wAP (w64 (x14 + x15))) / 2)) (A ++ [x] ++ Y ++ B).length).bind fun _ =>
    (chk (a:Int) (A ++ [x] ++ Y ++ B).length).bind fun _ =>
    (c ((gd (A ++ [x] ++ Y ++ B) (w64 ((wAP (w64 (x14 + x15))) / 2)).toNat),(gd (A ++ [x] ++ Y ++ B) (a:Int).toNat))).bind fun x43 =>
    if x43 < 0 then
     some (.inl (w64 ((w64 ((wAP (w64 (x14 + x15))) / 2)) + 1),x15))
    else
     some (.inl (x14,w64 ((wAP (w64 (x14 + x15))) / 2)))
   else
    esc (some x14)) (fun h=>decide (K (gd Y (h - m)) < K x)) (lo:=m) (hi:=b) (by omega) (by omega) (fun i j h1 h2 h3 h4=>by
    have h4:K (gd Y (j - m)) < K x:=by simpa using h4
    have:=wIG ho (i:=i - m) (j:=j - m) (by omega) (by omega)
    simpa using (by omega:K (gd Y (i - m)) < K x)) (fun i j h1 h2 h3=>by
    have hh:(i + j) / 2 - m < Y.length:=by omega
    have hin:=hY _ (wCc hh)
    simp only
    rw [if_pos (by omega),wHU (by omega),wBf (by omega) (by simp only [hJ,nT];omega),hD,wBf (by omega) (by simp only [hJ,nT];omega),hD]
    simp only [nD]
    rw [hx0,hy _ (by omega) (by omega)]
    obtain ⟨v,hv,hv2⟩:=hc (gd Y ((i + j) / 2 - m)) x hin.1 hin.2 hx.1 hx.2
    rw [hv,hD]
    by_cases g:K (gd Y ((i + j) / 2 - m)) < K x
    ·rw [if_pos (hv2.2 g),if_pos (by simpa using g),wFy (by omega)]
    ·rw [if_neg (fun h=>g (hv2.1 h)),if_neg (by simpa using g)]) (fun i h1 h2=>by
    simp only
    rw [if_neg (by omega)]
    rfl)
 rw [k3,hD,wHS (by omega) (by omega)]
 obtain ⟨j,rfl⟩:∃ j,k=m + j:=⟨k - m,by omega⟩
 have hj:j <= Y.length:=by omega
 refine ⟨Y.take j ++ x :: Y.drop j,?_,?_,?_⟩
 ·refine wFw (m:=j) (fun i=>(A ++ Y.take i ++ x :: (Y.drop i ++ B),((a + i:Nat):Int))) (fun i hi=>?_) ?_ (by simp) (by omega)
  ·have e:(A ++ Y.take i).length=a + i:=by rw [hJ,nK];omega
   have e2:Y.drop i ++ B=gd Y i :: (Y.drop (i + 1) ++ B):=by rw [wEU (by omega)];rfl
   obtain ⟨s1,s2,_,s4⟩:=wHT (A ++ Y.take i) (Y.drop (i + 1) ++ B) x (gd Y i)
   rw [e] at s1 s2 s4
   have hll:(A ++ Y.take i ++ x :: gd Y i :: (Y.drop (i + 1) ++ B)).length <= 1000/\a + i + 2 <= (A ++ Y.take i ++ x :: gd Y i :: (Y.drop (i + 1) ++ B)).length:=by
    rw [hJ,e];simp only [nE,hJ,nQ];omega
   simp only
   rw [if_pos (by omega),e2,wFy (by omega),wBf (by omega) (by omega),hD,wBf (by omega) (by omega),hD,wBf (by omega) (by rw [nN];omega),hD]
   simp only [nD]
   rw [s1,s2,s4,wCq (by omega)]
   simp [Nat.add_assoc]
  ·simp only
   rw [if_neg (by omega)]
   simp
 ·simp only [List.singleton_append]
  refine (List.perm_middle).trans ?_
  rw [nB]
 ·rw [<- nB j Y,nI] at ho
  rw [nI,nf]
  refine ⟨ho.1,⟨fun y hy=>?_,ho.2.1⟩,fun y hy z hz=>?_⟩
  ·obtain ⟨i,hi,e⟩:=nL hy
   rw [nQ] at hi
   have h5:=k5 (m + (j + i)) (by omega) (by omega)
   rw [show m + (j + i) - m=j + i by omega] at h5
   have e':gd Y (j + i)=y:=by rw [wFM (by omega),<- e,kB]
   rw [e'] at h5
   have h5:¬ K y < K x:=by simpa using h5
   exact Lr.of (by omega) (hlt y (List.mem_of_mem_drop hy))
  ·rcases nS.1 hz with e0 | hz
   ·rw [e0]
    obtain ⟨i,hi,e⟩:=nL hy
    rw [nK] at hi
    have h4:=k4 (m + i) (by omega) (by omega)
    rw [show m + i - m=i by omega] at h4
    have e':gd Y i=y:=by rw [wFM (by omega),<- e,kC]
    rw [e'] at h4
    exact .inl (by simpa using h4)
   ·exact ho.2.2 y hy z hz
theorem wNB {K:Int->Int} {n:Int} {c:(Int × Int)->Option Int} (hc:ByK K n c) {A X B:List Int} {y:Int} (hy:0 <= y/\y < n) (hX:In n X) (hlt:∀ x ∈ X,x < y) (ho:X.Pairwise (Lr K)) (hl:(A ++ X ++ [y] ++ B).length <= 1000) {a m b:Nat} (ha:A.length=a) (hm:a + X.length=m) (hb:m + 1=b) :
    ∃ Z,sm2 (A ++ X ++ [y] ++ B) (a:Int) (m:Int) (b:Int) c=some (A ++ Z ++ B)/\Z.Perm (X ++ [y])/\Z.Pairwise (Lr K):=by
  have hl2:=hl
  simp only [hJ,nT] at hl2
  unfold sm2
  have hy0:gd (A ++ X ++ [y] ++ B) m=y:=by rw [gd_Y (by omega) (by simp;omega),show m - (A.length + X.length)=0 by omega];rfl
  have hx:∀ i,a <= i->i < m->gd (A ++ X ++ [y] ++ B) i=gd X (i - a):=fun i h1 h2=>by rw [gd_X (by omega) (by omega),ha]
  obtain ⟨k,k1,k2,k3,k4,k5⟩:=wGe (body:=fun (x137,x138) =>
        if x137 < x138 then
          (chk (m:Int) (A ++ X ++ [y] ++ B).length).bind fun _ =>
          (chk (w64 ((wAP (w64 (x137 + x138))) / 2)) (A ++ X ++ [y] ++ B).length).bind fun _ =>
          (c ((gd (A ++ X ++ [y] ++ B) (m:Int).toNat),(gd (A ++ X ++ [y] ++ B) (w64 ((wAP (w64 (x137 + x138))) / 2)).toNat))).bind fun x166 =>
          if x166 < 0 then
            some (.inl (x137,w64 ((wAP (w64 (x137 + x138))) / 2)))
          else
            some (.inl (w64 ((w64 ((wAP (w64 (x137 + x138))) / 2)) + 1),x138))
        else
          esc (some x137)) (fun h=>decide (K (gd X (h - a)) <= K y)) (lo:=a) (hi:=m) (by omega) (by omega) (fun i j h1 h2 h3 h4=>by
        have h4:K (gd X (j - a)) <= K y:=by simpa using h4
        have:=wIG ho (i:=i - a) (j:=j - a) (by omega) (by omega)
        simpa using (by omega:K (gd X (i - a)) <= K y)) (fun i j h1 h2 h3=>by
        have hh:(i + j) / 2 - a < X.length:=by omega
        have hin:=hX _ (wCc hh)
        simp only
        rw [if_pos (by omega),wHU (by omega),wBf (by omega) (by simp only [hJ,nT];omega),hD,wBf (by omega) (by simp only [hJ,nT];omega),hD]
        simp only [nD]
        rw [hy0,hx _ (by omega) (by omega)]
        obtain ⟨v,hv,hv2⟩:=hc y (gd X ((i + j) / 2 - a)) hy.1 hy.2 hin.1 hin.2
        rw [hv,hD]
        by_cases g:K y < K (gd X ((i + j) / 2 - a))
        · rw [if_pos (hv2.2 g),if_neg (by simpa using g)]
        · rw [if_neg (fun h=>g (hv2.1 h)),if_pos (by simpa using g),wFy (by omega)]) (fun i h1 h2=>by
        simp only
        rw [if_neg (by omega)]
        rfl)
  rw [k3,hD]
  obtain ⟨j,rfl⟩:∃ j,k=a + j:=⟨k - a,by omega⟩
  have hj:j <= X.length:=by omega
  refine ⟨X.take j ++ y :: X.drop j,?_,?_,?_⟩
  · refine wFw (m:=X.length - j) (fun i=>(A ++ X.take (X.length - i) ++ y :: (X.drop (X.length - i) ++ B),((m - i:Nat):Int))) (fun i hi=>?_) ?_ (by simp) (by omega)
    · obtain ⟨q,hq⟩:∃ q,X.length - i=q + 1:=⟨X.length - i - 1,by omega⟩
      have hq1:X.length - (i + 1)=q:=by omega
      have e:(A ++ X.take q).length=a + q:=by rw [hJ,nK];omega
      obtain ⟨s1,s2,s3,_⟩:=wHT (A ++ X.take q) (X.drop (q + 1) ++ B) (gd X q) y
      rw [e] at s1 s2 s3
      have e2:A ++ X.take (q + 1) ++ y :: (X.drop (q + 1) ++ B)=A ++ X.take q ++ gd X q :: y :: (X.drop (q + 1) ++ B):=by rw [wCq (by omega)];simp
      have hll:a + q + 2 <= (A ++ X.take q ++ gd X q :: y :: (X.drop (q + 1) ++ B)).length:=by rw [hJ,e];simp only [nE];omega
      have em:m - i=a + q + 1:=by omega
      simp only
      rw [hq,hq1,e2,em,if_pos (by omega),wHS (by omega) (by omega),wBf (by omega) (by omega),hD,wBf (by omega) (by omega),hD,wBf (by omega) (by rw [nN];omega),hD]
      simp only [nD,kL]
      rw [s1,s2,s3,show m - (i + 1)=a + q by omega,wEU (l:=X) (k:=q) (by omega)]
      rfl
    · simp only
      rw [show X.length - (X.length - j)=j by omega,if_neg (by omega)]
      simp
  · refine (List.perm_middle).trans ?_
    rw [nB]
    exact (ny y X).symm
  · rw [<- nB j X,nI] at ho
    rw [nI,nf]
    refine ⟨ho.1,⟨fun x hx=>?_,ho.2.1⟩,fun x hx z hz=>?_⟩
    · obtain ⟨i,hi,e⟩:=nL hx
      rw [nQ] at hi
      have h5:=k5 (a + (j + i)) (by omega) (by omega)
      rw [show a + (j + i) - a=j + i by omega] at h5
      have e':gd X (j + i)=x:=by rw [wFM (by omega),<- e,kB]
      rw [e'] at h5
      exact .inl (by simpa using h5)
    · rcases nS.1 hz with e0 | hz
      · rw [e0]
        obtain ⟨i,hi,e⟩:=nL hx
        rw [nK] at hi
        have h4:=k4 (a + i) (by omega) (by omega)
        rw [show a + i - a=i by omega] at h4
        have e':gd X i=x:=by rw [wFM (by omega),<- e,kC]
        rw [e'] at h4
        exact Lr.of (by simpa using h4) (hlt x (nu hx))
      · exact ho.2.2 x hx z hz
end Go.Proofs.YtlmekamhphnmjaaGreat
namespace Go.Proofs.YtlmekamhphnmjaaGreat
open Go.KL
abbrev Rec:=(List Int)->Int->Int->Int->((Int × Int)->Option Int)->Option ((List Int))
def wJO (K:Int->Int) (n:Int) (c:(Int × Int)->Option Int) (r:Rec) (N:Nat):Prop:=∀ A X Y B:List Int,0 < X.length->0 < Y.length->In n X->In n Y->(∀ x ∈ X,∀ y ∈ Y,x < y)->X.Pairwise (Lr K)->Y.Pairwise (Lr K)->(A ++ X ++ Y ++ B).length <= 1000->X.length + Y.length < N ->
 ∃ Z,r (A ++ X ++ Y ++ B) ((A.length:Nat):Int) ((A.length + X.length:Nat):Int) ((A.length + X.length + Y.length:Nat):Int) c=some (A ++ Z ++ B)/\Z.Perm (X ++ Y)/\Z.Pairwise (Lr K)
theorem wJP {K:Int->Int} {n:Int} {c:(Int × Int)->Option Int} {r:Rec} {N:Nat} (H:wJO K n c r N) {A X Y B:List Int} (hX:In n X) (hY:In n Y) (hlt:∀ x ∈ X,∀ y ∈ Y,x < y) (oX:X.Pairwise (Lr K)) (oY:Y.Pairwise (Lr K)) (hl:(A ++ X ++ Y ++ B).length <= 1000) (hN:X.length + Y.length < N) {a k m:Nat} (ha:A.length=a) (hk:a + X.length=k) (hm:k + Y.length=m) (R:List Int->Option (List Int)) :
  ∃ Z,(if (a:Int) < (k:Int) then (if (k:Int) < (m:Int) then (r (A ++ X ++ Y ++ B) (a:Int) (k:Int) (m:Int) c).bind R else R (A ++ X ++ Y ++ B)) else R (A ++ X ++ Y ++ B))=R (A ++ Z ++ B)/\Z.Perm (X ++ Y)/\Z.Pairwise (Lr K):=by
 by_cases h1:(a:Int) < (k:Int)
 ·rw [if_pos h1]
  by_cases h2:(k:Int) < (m:Int)
  ·rw [if_pos h2]
   obtain ⟨Z,e,p,o⟩:=H A X Y B (by omega) (by omega) hX hY hlt oX oY hl hN
   rw [ha,hk,hm] at e
   exact ⟨Z,by rw [e,hD],p,o⟩
  ·rw [if_neg h2]
   have:Y=[]:=na (by omega)
   subst this
   exact ⟨X,by simp,by simp,oX⟩
 ·rw [if_neg h1]
  have:X=[]:=na (by omega)
  subst this
  exact ⟨Y,by simp,by simp,oY⟩
theorem wNC {K:Int->Int} {n:Int} {c:(Int × Int)->Option Int} {r:Rec} {N:Nat} (H:wJO K n c r N) {A X1 X2 Y1 Y2 B:List Int} (hX:In n (X1 ++ X2)) (hY:In n (Y1 ++ Y2)) (hlt:∀ x ∈ X1 ++ X2,∀ y ∈ Y1 ++ Y2,x < y) (oX:(X1 ++ X2).Pairwise (Lr K)) (oY:(Y1 ++ Y2).Pairwise (Lr K))
  (o12:∀ x ∈ X1,∀ y ∈ Y2,Lr K x y) (o21:∀ y ∈ Y1,∀ x ∈ X2,Lr K y x) (hl:(A ++ X1 ++ Y1 ++ X2 ++ Y2 ++ B).length <= 1000) (hN1:X1.length + Y1.length < N) (hN2:X2.length + Y2.length < N) {a k mid e b:Nat} (ha:A.length=a) (hk:a + X1.length=k) (hm:k + Y1.length=mid) (he:mid + X2.length=e) (hb:e + Y2.length=b) :
  ∃ Z,smT r (A ++ X1 ++ Y1 ++ X2 ++ Y2 ++ B) (a:Int) (b:Int) (mid:Int) (e:Int) (k:Int) c=some (A ++ Z ++ B)/\Z.Perm ((X1 ++ X2) ++ (Y1 ++ Y2))/\Z.Pairwise (Lr K):=by
 rw [nI] at oX oY
 have T:∀ l:List Int,smT r l (a:Int) (b:Int) (mid:Int) (e:Int) (k:Int) c=if (a:Int) < (k:Int) then (if (k:Int) < (mid:Int) then (r l (a:Int) (k:Int) (mid:Int) c).bind (fun l=>if (mid:Int) < (e:Int) then (if (e:Int) < (b:Int) then (r l (mid:Int) (e:Int) (b:Int) c).bind some else some l) else some l) else (fun l=>if (mid:Int) < (e:Int) then (if (e:Int) < (b:Int) then (r l (mid:Int) (e:Int) (b:Int) c).bind some else some l) else some l) l) else (fun l=>if (mid:Int) < (e:Int) then (if (e:Int) < (b:Int) then (r l (mid:Int) (e:Int) (b:Int) c).bind some else some l) else some l) l:=fun l=>rfl
 obtain ⟨Z1,e1,p1,o1⟩:=wJP H (A:=A) (X:=X1) (Y:=Y1) (B:=X2 ++ Y2 ++ B) (fun x hx=>hX x (nM _ hx)) (fun y hy=>hY y (nM _ hy)) (fun x hx y hy=>hlt x (nM _ hx) y (nM _ hy)) oX.1 oY.1 (by simpa only [nA] using hl) hN1 ha hk hm (fun l=>if (mid:Int) < (e:Int) then (if (e:Int) < (b:Int) then (r l (mid:Int) (e:Int) (b:Int) c).bind some else some l) else some l)
 have hZ1:Z1.length=X1.length + Y1.length:=by rw [p1.length_eq,hJ]
 have hl2:=hl
 simp only [hJ] at hl2
 obtain ⟨Z2,e2,p2,o2⟩:=wJP H (A:=A ++ Z1) (X:=X2) (Y:=Y2) (B:=B) (fun x hx=>hX x (nU _ hx)) (fun y hy=>hY y (nU _ hy)) (fun x hx y hy=>hlt x (nU _ hx) y (nU _ hy)) oX.2.1 oY.2.1 (by simp only [hJ];omega) hN2 (a:=mid) (by rw [hJ];omega) he hb some
 refine ⟨Z1 ++ Z2,?_,?_,?_⟩
 ·rw [T]
  have q:A ++ X1 ++ Y1 ++ X2 ++ Y2 ++ B=A ++ X1 ++ Y1 ++ (X2 ++ Y2 ++ B):=by simp only [nA]
  rw [q,e1]
  have q2:A ++ Z1 ++ (X2 ++ Y2 ++ B)=A ++ Z1 ++ X2 ++ Y2 ++ B:=by simp only [nA]
  rw [q2,e2]
  simp only [nA]
 ·refine (p1.append p2).trans ?_
  rw [nA,nA]
  refine kE _ ?_
  rw [<- nA,<- nA]
  exact List.Perm.append_right _ List.perm_append_comm
 ·rw [nI]
  refine ⟨o1,o2,fun x hx y hy=>?_⟩
  rcases nV.1 (p1.mem_iff.1 hx) with hx | hx <;> rcases nV.1 (p2.mem_iff.1 hy) with hy | hy
  ·exact oX.2.2 x hx y hy
  ·exact o12 x hx y hy
  ·exact o21 x hx y hy
  ·exact oY.2.2 x hx y hy
theorem wND {K:Int->Int} {n:Int} {c:(Int × Int)->Option Int} {r:Rec} {N:Nat} (H:wJO K n c r N) {A X1 X2 Y1 Y2 B:List Int} (hX:In n (X1 ++ X2)) (hY:In n (Y1 ++ Y2)) (hlt:∀ x ∈ X1 ++ X2,∀ y ∈ Y1 ++ Y2,x < y) (oX:(X1 ++ X2).Pairwise (Lr K)) (oY:(Y1 ++ Y2).Pairwise (Lr K))
  (o12:∀ x ∈ X1,∀ y ∈ Y2,Lr K x y) (o21:∀ y ∈ Y1,∀ x ∈ X2,Lr K y x) (hl:(A ++ X1 ++ X2 ++ Y1 ++ Y2 ++ B).length <= 1000) (hN1:X1.length + Y1.length < N) (hN2:X2.length + Y2.length < N) {a k m mid e b:Nat} (ha:A.length=a) (hk:a + X1.length=k) (hm:k + X2.length=m) (hmid:k + Y1.length=mid) (he:m + Y1.length=e) (hb:e + Y2.length=b) :
  ∃ Z,smR r (A ++ X1 ++ X2 ++ Y1 ++ Y2 ++ B) (a:Int) (m:Int) (b:Int) (mid:Int) (e:Int) (k:Int) c=some (A ++ Z ++ B)/\Z.Perm ((X1 ++ X2) ++ (Y1 ++ Y2))/\Z.Pairwise (Lr K):=by
 have hl2:=hl
 simp only [hJ] at hl2
 obtain ⟨Z,e1,p,o⟩:=wNC H (A:=A) (B:=B) hX hY hlt oX oY o12 o21 (by simp only [hJ];omega) hN1 hN2 ha hk hmid (e:=e) (by omega) hb
 refine ⟨Z,?_,p,o⟩
 rw [<- e1]
 unfold smR
 by_cases h1:k < m
 ·rw [if_pos (by omega),hD]
  by_cases h2:m < e
  ·rw [if_pos (by simp;omega)]
   have q:A ++ X1 ++ X2 ++ Y1 ++ Y2 ++ B=(A ++ X1) ++ X2 ++ Y1 ++ (Y2 ++ B):=by simp only [nA]
   have q2:A ++ X1 ++ Y1 ++ X2 ++ Y2 ++ B=(A ++ X1) ++ Y1 ++ X2 ++ (Y2 ++ B):=by simp only [nA]
   rw [q,wKU (A:=A ++ X1) (a:=k) (m:=m) (b:=e) (by rw [hJ];omega) (by rw [hJ];omega) (by rw [hJ];omega) (by omega) (by omega) (by rw [<- q];exact hl),hD,q2]
  ·rw [if_neg (by simp;omega)]
   have:Y1=[]:=na (by omega)
   subst this
   simp
 ·rw [if_neg (by omega),hD,if_neg (by simp)]
  have:X2=[]:=na (by omega)
  subst this
  simp
theorem wLg {K:Int->Int} {n:Int} {c:(Int × Int)->Option Int} (hc:ByK K n c) {A X Y B:List Int} (hX:In n X) (hY:In n Y) (oX:X.Pairwise (Lr K)) (oY:Y.Pairwise (Lr K)) (hl:(A ++ X ++ Y ++ B).length <= 1000) {a m b lo hi p:Nat} (ha:A.length=a) (hm:a + X.length=m) (hb:m + Y.length=b) (h1:a <= lo) (h2:lo <= hi) (h3:hi <= m) (hp:∀ i,lo <= i->i < hi->i <= p/\m <= p - i/\p - i < b) :
  ∃ k:Nat,lo <= k/\k <= hi/\iter (smS (A ++ X ++ Y ++ B) (p:Int) c) big ((lo:Int),(hi:Int))=some (k:Int)/\(∀ i,lo <= i->i < k->K (gd X (i - a)) <= K (gd Y (p - i - m)))/\(∀ i,k <= i->i < hi->K (gd Y (p - i - m)) < K (gd X (i - a))):=by
 have hl2:=hl
 simp only [hJ] at hl2
 have gx:∀ i,a <= i->i < m->gd (A ++ X ++ Y ++ B) i=gd X (i - a):=fun i g1 g2=>by rw [gd_X (by omega) (by omega),ha]
 have gy:∀ i,m <= i->i < b->gd (A ++ X ++ Y ++ B) i=gd Y (i - m):=fun i g1 g2=>by rw [gd_Y (by omega) (by omega)];exact wIE (by omega)
 obtain ⟨k,k1,k2,k3,k4,k5⟩:=wGe (body:=smS (A ++ X ++ Y ++ B) (p:Int) c) (fun i=>decide (K (gd X (i - a)) <= K (gd Y (p - i - m)))) h2 (by omega) (fun i j g1 g2 g3 g4=>by
  have g4:K (gd X (j - a)) <= K (gd Y (p - j - m)):=by simpa using g4
  have q1:=hp i g1 (by omega)
  have q2:=hp j (by omega) g3
  have l1:=wIG oX (i:=i - a) (j:=j - a) (by omega) (by omega)
  have l2:=wIG oY (i:=p - j - m) (j:=p - i - m) (by omega) (by omega)
  simpa using (by omega:K (gd X (i - a)) <= K (gd Y (p - i - m)))) (fun i j g1 g2 g3=>by
  obtain ⟨q0,q1,q2⟩:=hp ((i + j) / 2) (by omega) (by omega)
  have hx:(i + j) / 2 - a < X.length:=by omega
  have hy:p - (i + j) / 2 - m < Y.length:=by omega
  have ix:=hX _ (wCc hx)
  have iy:=hY _ (wCc hy)
  unfold smS
  simp only
  have hpb:p <= 1000000:=by omega
  rw [if_pos (by omega),wHU (by omega),wDk (by omega) hpb,wBf (by omega) (by simp only [hJ];omega),hD,wBf (by omega) (by simp only [hJ];omega),hD]
  simp only [nD]
  rw [gx ((i + j) / 2) (by omega) (by omega),gy (p - (i + j) / 2) q1 q2]
  obtain ⟨v,hv,hv2⟩:=hc (gd Y (p - (i + j) / 2 - m)) (gd X ((i + j) / 2 - a)) iy.1 iy.2 ix.1 ix.2
  rw [hv,hD]
  by_cases g:K (gd Y (p - (i + j) / 2 - m)) < K (gd X ((i + j) / 2 - a))
  ·rw [if_pos (hv2.2 g),if_neg (by simpa using g)]
  ·rw [if_neg (fun h=>g (hv2.1 h)),if_pos (by simpa using g),wFy (by omega)]) (fun i g1 g2=>by
  unfold smS
  simp only
  rw [if_neg (by omega)]
  rfl)
 exact ⟨k,k1,k2,k3,fun i g1 g2=>by simpa using k4 i g1 g2,fun i g1 g2=>by simpa using k5 i g1 g2⟩
theorem wNE {K:Int->Int} {n:Int} {c:(Int × Int)->Option Int} (hc:ByK K n c):∀ F:Nat,wJO K n c (wAN F) (F + 1):=by
 intro F
 induction F with
 | zero=>intro A X Y B h1 h2 _ _ _ _ _ _ h;omega
 | succ F ih =>
  intro A X Y B hx0 hy0 hX hY hlt oX oY hl hF
  show ∃ Z,wBF (wAN F) _ _ _ _ _=_/\_
  rw [wJd]
  have hl2:=hl
  simp only [hJ] at hl2
  generalize ha:A.length=a at *
  generalize hm:a + X.length=m at *
  generalize hb:m + Y.length=b at *
  rw [wDk (a:=m) (b:=a) (by omega) (by omega),wDk (a:=b) (b:=m) (by omega) (by omega)]
  by_cases c1:X.length=1
  ·rw [if_pos (by omega)]
   obtain ⟨x,rfl⟩:=kZ.1 c1
   exact wNA hc (hX x (by simp)) hY (fun y hy=>hlt x (by simp) y hy) oY hl ha (by simpa using hm) hb
  rw [if_neg (by omega)]
  by_cases c2:Y.length=1
  ·rw [if_pos (by omega)]
   obtain ⟨y,rfl⟩:=kZ.1 c2
   exact wNB hc (hY y (by simp)) hX (fun x hx=>hlt x hx y (by simp)) oX hl ha hm (by simpa using hb)
  rw [if_neg (by omega),wHU (by omega)]
  generalize hmid:(a + b) / 2=mid at *
  rw [wEV (a:=mid) (b:=m) (by omega),wHS (a:=mid + m) (by omega) (by omega)]
  have fin:∀ k:Nat,a <= k->k <= m->m + k <= mid + m->mid + m <= b + k->(a < k->mid + m < b + k->K (gd X (k - 1 - a)) <= K (gd Y (mid + m - k - m)))->(k < m->k < mid->K (gd Y (mid + m - 1 - k - m)) < K (gd X (k - a))) ->
    ∃ Z,smR (wAN F) (A ++ X ++ Y ++ B) (a:Int) (m:Int) (b:Int) (mid:Int) (w64 (((mid + m:Nat):Int) - (k:Int))) (k:Int) c=some (A ++ Z ++ B)/\Z.Perm (X ++ Y)/\Z.Pairwise (Lr K):=by
   intro k k1 k2 k3 k4 k5 k6
   rw [wDk (by omega) (by omega)]
   have ex:X=X.take (k - a) ++ X.drop (k - a):=(nB ..).symm
   have ey:Y=Y.take (mid - k) ++ Y.drop (mid - k):=(nB ..).symm
   have lx1:(X.take (k - a)).length=k - a:=by rw [nK];omega
   have lx2:(X.drop (k - a)).length=m - k:=by rw [nQ];omega
   have ly1:(Y.take (mid - k)).length=mid - k:=by rw [nK];omega
   have ly2:(Y.drop (mid - k)).length=Y.length - (mid - k):=by rw [nQ]
   have mx1:∀ x ∈ X.take (k - a),∃ i,i < k - a/\gd X i=x:=fun x hx=>by
    obtain ⟨i,hi,e⟩:=nL hx
    rw [lx1] at hi
    exact ⟨i,hi,by rw [wFM (by omega),<- e,kC]⟩
   have mx2:∀ x ∈ X.drop (k - a),∃ i,k - a <= i/\i < X.length/\gd X i=x:=fun x hx=>by
    obtain ⟨i,hi,e⟩:=nL hx
    rw [lx2] at hi
    exact ⟨k - a + i,by omega,by omega,by rw [wFM (by omega),<- e,kB]⟩
   have my1:∀ y ∈ Y.take (mid - k),∃ i,i < mid - k/\gd Y i=y:=fun y hy=>by
    obtain ⟨i,hi,e⟩:=nL hy
    rw [ly1] at hi
    exact ⟨i,hi,by rw [wFM (by omega),<- e,kC]⟩
   have my2:∀ y ∈ Y.drop (mid - k),∃ i,mid - k <= i/\i < Y.length/\gd Y i=y:=fun y hy=>by
    obtain ⟨i,hi,e⟩:=nL hy
    rw [ly2] at hi
    exact ⟨mid - k + i,by omega,by omega,by rw [wFM (by omega),<- e,kB]⟩
   obtain ⟨Z,e,p,o⟩:=wND ih (A:=A) (X1:=X.take (k - a)) (X2:=X.drop (k - a)) (Y1:=Y.take (mid - k)) (Y2:=Y.drop (mid - k)) (B:=B) (by rwa [<- ex]) (by rwa [<- ey]) (by rwa [<- ex,<- ey]) (by rwa [<- ex]) (by rwa [<- ey]) (fun x hx y hy=>by
     obtain ⟨i,i1,rfl⟩:=mx1 x hx
     obtain ⟨j,j1,j2,rfl⟩:=my2 y hy
     have h5:=k5 (by omega) (by omega)
     have l1:=wIG oX (i:=i) (j:=k - 1 - a) (by omega) (by omega)
     have l2:=wIG oY (i:=mid + m - k - m) (j:=j) (by omega) j2
     exact Lr.of (by omega) (hlt _ (wCc (by omega)) _ (wCc j2))) (fun y hy x hx=>by
     obtain ⟨i,i1,i2,rfl⟩:=mx2 x hx
     obtain ⟨j,j1,rfl⟩:=my1 y hy
     have h6:=k6 (by omega) (by omega)
     have l1:=wIG oX (i:=k - a) (j:=i) (by omega) i2
     have l2:=wIG oY (i:=j) (j:=mid + m - 1 - k - m) (by omega) (by omega)
     exact .inl (by omega)) (by
     have:A ++ X.take (k - a) ++ X.drop (k - a) ++ Y.take (mid - k) ++ Y.drop (mid - k) ++ B=A ++ X ++ Y ++ B:=by rw [nA A,<- ex,nA (A ++ X),<- ey]
     rw [this];exact hl) (by omega) (by omega) ha (k:=k) (m:=m) (mid:=mid) (e:=mid + m - k) (b:=b) (by omega) (by omega) (by omega) (by omega) (by omega)
   have q:A ++ X.take (k - a) ++ X.drop (k - a) ++ Y.take (mid - k) ++ Y.drop (mid - k) ++ B=A ++ X ++ Y ++ B:=by rw [nA A,<- ex,nA (A ++ X),<- ey]
   rw [q] at e
   rw [<- ex,<- ey] at p
   exact ⟨Z,e,p,o⟩
  by_cases c3:mid < m
  ·rw [if_pos (by omega),wDk (a:=mid + m) (b:=b) (by omega) (by omega)]
   obtain ⟨k,k1,k2,k3,k4,k5⟩:=wLg hc hX hY oX oY hl ha hm hb (lo:=mid + m - b) (hi:=mid) (p:=mid + m - 1) (by omega) (by omega) (by omega) (fun i g1 g2=>by omega)
   rw [k3,hD]
   refine fin k (by omega) (by omega) (by omega) (by omega) (fun g1 g2=>?_) (fun g1 g2=>k5 k (by omega) g2)
   have:=k4 (k - 1) (by omega) (by omega)
   rwa [show mid + m - 1 - (k - 1) - m=mid + m - k - m by omega] at this
  ·rw [if_neg (by omega)]
   obtain ⟨k,k1,k2,k3,k4,k5⟩:=wLg hc hX hY oX oY hl ha hm hb (lo:=a) (hi:=m) (p:=mid + m - 1) (by omega) (by omega) (by omega) (fun i g1 g2=>by omega)
   rw [k3,hD]
   refine fin k (by omega) (by omega) (by omega) (by omega) (fun g1 g2=>?_) (fun g1 g2=>k5 k (by omega) g1)
   have:=k4 (k - 1) (by omega) (by omega)
   rwa [show mid + m - 1 - (k - 1) - m=mid + m - k - m by omega] at this
end Go.Proofs.YtlmekamhphnmjaaGreat
namespace Go.Proofs.YtlmekamhphnmjaaGreat
open Go.KL
def seg (l:List Int) (i j:Nat):List Int:=(l.drop i).take (j - i)
def rng (i j:Nat):List Int:=(kj (j - i)).map fun (k:Nat)=>((i + k:Nat):Int)
theorem wHA {i j:Nat}:∀ x ∈ rng i j,(i:Int) <= x/\x < j:=by
 intro x hx
 obtain ⟨k,hk,rfl⟩:=kU.1 hx
 have:=List.mem_range.1 hk
 omega
theorem wLh (i j:Nat):(rng i j).Pairwise (· < ·):=by
 unfold rng
 rw [kA]
 exact List.pairwise_lt_range.imp fun h=>by omega
theorem wFO (i j:Nat):(rng i j).length=j - i:=by simp [rng]
theorem wKV {a m b:Nat} (h1:a <= m) (h2:m <= b):rng a m ++ rng m b=rng a b:=by
 unfold rng
 rw [show b - a=(m - a) + (b - m) by omega,List.range_add,kI,List.map_map]
 congr 1
 refine List.map_congr_left fun k _=>?_
 simp only [Function.comp_apply]
 omega
theorem wHV {l:List Int} {i j:Nat} (h:j <= l.length):(seg l i j).length=j - i:=by
 unfold seg;rw [nK,nQ];omega
theorem wGf {l:List Int} {a b:Nat} (h1:a <= b):l=l.take a ++ seg l a b ++ l.drop b:=by
 unfold seg
 rw [nA]
 conv=>lhs;rw [<- nB a l]
 congr 1
 conv=>lhs;rw [<- nB (b - a) (l.drop a)]
 congr 1
 rw [List.drop_drop]
 congr 1
 omega
theorem wJe {l:List Int} {a m b:Nat} (h1:a <= m) (h2:m <= b):l=l.take a ++ seg l a m ++ seg l m b ++ l.drop b:=by
 conv=>lhs;rw [wGf (l:=l) h2]
 congr 1
 congr 1
 unfold seg
 conv=>lhs;rw [<- nB a (l.take m)]
 rw [List.take_take,nr h1,List.drop_take]
theorem wKW {A Z Z' B:List Int} (h:Z.length=Z'.length) {i j:Nat} (hij:j <= A.length \/ A.length + Z.length <= i):seg (A ++ Z ++ B) i j=seg (A ++ Z' ++ B) i j:=by
 unfold seg
 apply kQ
 intro t
 rw [kM,kM]
 split
 ·rw [kO,kO]
  rcases hij with g | g
  ·rw [nY (by simp;omega),nY (by omega),nY (by simp;omega),nY (by omega)]
  ·rw [nb (by simp;omega),nb (by simp;omega)]
   congr 1
   simp only [hJ]
   omega
 ·rfl
theorem wKX {A Z B:List Int} {a b:Nat} (ha:A.length=a) (hb:a + Z.length=b):seg (A ++ Z ++ B) a b=Z:=by
 unfold seg
 rw [nA,<- ha,List.drop_left,List.take_append_of_le_length (by omega),kD (by omega)]
def Srt (K:Int->Int) (l:List Int) (i j:Nat):Prop:=(seg l i j).Perm (rng i j)/\(seg l i j).Pairwise (Lr K)
theorem wHB {K:Int->Int} {n:Nat} {c:(Int × Int)->Option Int} (hc:ByK K n c) {l:List Int} (hl:l.length=n) (hn:n <= 64) {a b:Nat} (hab:a <= b) (hb:b <= n) (hs:seg l a b=rng a b) :
  ∃ l',wAS l (a:Int) (b:Int) c=some l'/\l'.length=n/\Srt K l' a b/\∀ i j,j <= a \/ b <= i->seg l' i j=seg l i j:=by
 have e:=wGf (l:=l) hab
 have la:(l.take a).length=a:=by rw [nK];omega
 have ls:=wHV (l:=l) (i:=a) (j:=b) (by omega)
 obtain ⟨Z,h1,h2,h3⟩:=wIF hc (A:=l.take a) (X:=seg l a b) (B:=l.drop b) (fun x hx=>by rw [hs] at hx;have:=wHA x hx;omega) (by rw [hs];exact wLh a b) (by rw [<- e];omega) (a:=a) (b:=b) la (by rw [la,ls];omega)
 have lz:Z.length=b - a:=by rw [h2.length_eq,ls]
 rw [<- e] at h1
 refine ⟨_,h1,?_,?_,fun i j hij=>?_⟩
 ·have:=congrArg List.length e
  simp only [hJ] at this ⊢
  omega
 ·rw [Srt,wKX la (by omega)]
  exact ⟨by rw [<- hs];exact h2,h3⟩
 ·conv=>rhs;rw [e]
  exact wKW (by omega) (by omega)
theorem wIH {K:Int->Int} {n:Nat} {c:(Int × Int)->Option Int} (hc:ByK K n c) {l:List Int} (hl:l.length=n) (hn:n <= 64) {a m b:Nat} (ham:a < m) (hmb:m < b) (hb:b <= n) (h1:Srt K l a m) (h2:Srt K l m b) :
  ∃ l',wAN 1000 l (a:Int) (m:Int) (b:Int) c=some l'/\l'.length=n/\Srt K l' a b/\∀ i j,j <= a \/ b <= i->seg l' i j=seg l i j:=by
 have e:=wJe (l:=l) (kW ham) (kW hmb)
 have e2:=wGf (l:=l) (a:=a) (b:=b) (by omega)
 have la:(l.take a).length=a:=by rw [nK];omega
 have l1:=wHV (l:=l) (i:=a) (j:=m) (by omega)
 have l2:=wHV (l:=l) (i:=m) (j:=b) (by omega)
 have l3:=wHV (l:=l) (i:=a) (j:=b) (by omega)
 have i1:∀ x ∈ seg l a m,(a:Int) <= x/\x < m:=fun x hx=>wHA x (h1.1.mem_iff.1 hx)
 have i2:∀ x ∈ seg l m b,(m:Int) <= x/\x < b:=fun x hx=>wHA x (h2.1.mem_iff.1 hx)
 obtain ⟨Z,g1,g2,g3⟩:=wNE hc 1000 (l.take a) (seg l a m) (seg l m b) (l.drop b) (by omega) (by omega) (fun x hx=>by have:=i1 x hx;omega) (fun x hx=>by have:=i2 x hx;omega) (fun x hx y hy=>by have:=i1 x hx;have:=i2 y hy;omega) h1.2 h2.2 (by rw [<- e];omega) (by omega)
 rw [<- e,la,l1,l2,show a + (m - a)=m by omega,show m + (b - m)=b by omega] at g1
 have lz:Z.length=b - a:=by rw [g2.length_eq,hJ,l1,l2];omega
 refine ⟨_,g1,?_,?_,fun i j hij=>?_⟩
 ·have:=congrArg List.length e2
  simp only [hJ] at this ⊢
  omega
 ·rw [Srt,wKX la (by omega)]
  refine ⟨?_,g3⟩
  rw [<- wKV (kW ham) (kW hmb)]
  exact g2.trans (h1.1.append h2.1)
 ·conv=>rhs;rw [e2]
  exact wKW (by omega) (by omega)
def Blk (K:Int->Int) (n bs:Nat) (l:List Int):Prop:=∀ s,bs * s < n->Srt K l (bs * s) (min (bs * s + bs) n)
theorem Srt.same {K:Int->Int} {l l':List Int} {i j:Nat} (h:Srt K l i j) (e:seg l' i j=seg l i j):Srt K l' i j:=by unfold Srt;rw [e];exact h
theorem wIl {K:Int->Int} {n:Nat} {c:(Int × Int)->Option Int} (hc:ByK K n c) (hn:n <= 64):∃ l a l',iter (fun (l16,x17,x18) =>
  if x18 <= (n:Int) then
   (wAS l16 x17 x18 c).bind fun x39 =>
   some (.inl (x39,x18,w64 (x18 + 20)))
  else
   esc (some (l16,x17))) big (rng 0 n,0,20)=some (l,a)/\wAS l a (n:Int) c=some l'/\l'.length=n/\Blk K n 20 l':=by
 obtain ⟨r,h1,l,t,rfl,h2,h3,h4,h5,h6⟩:=wDm (body:=fun (l16,x17,x18) =>
  if x18 <= (n:Int) then
   (wAS l16 x17 x18 c).bind fun x39 =>
   some (.inl (x39,x18,w64 (x18 + 20)))
  else
   esc (some (l16,x17))) (fun t s=>∃ l,s=(l,((20 * t:Nat):Int),((20 * t + 20:Nat):Int))/\l.length=n/\20 * t <= n/\(∀ s,s < t->Srt K l (20 * s) (20 * s + 20))/\(∀ i j,20 * t <= i->j <= n->seg l i j=rng i j))
  (fun r=>∃ l t,r=(l,((20 * t:Nat):Int))/\l.length=n/\20 * t <= n/\n < 20 * t + 20/\(∀ s,s < t->Srt K l (20 * s) (20 * s + 20))/\(∀ i j,20 * t <= i->j <= n->seg l i j=rng i j)) 4
  (fun t s ht ⟨l,hs,g1,g2,g3,g4⟩=>by
   subst hs
   simp only
   by_cases h:((20 * t + 20:Nat):Int) <= (n:Int)
   ·left
    obtain ⟨l',e1,e2,e3,e4⟩:=wHB hc g1 hn (a:=20 * t) (b:=20 * t + 20) (by omega) (by omega) (g4 _ _ (nR _) (by omega))
    have ew:w64 (((20 * t + 20:Nat):Int) + 20)=((20 * (t + 1) + 20:Nat):Int):=by
     have:=wEV (a:=20 * t + 20) (b:=20) (by omega)
     rw [show ((20:Nat):Int)=20 from rfl] at this
     rw [this]
     omega
    rw [if_pos h,e1,hD,ew]
    refine ⟨by omega,_,rfl,l',by rw [show 20 * t + 20=20 * (t + 1) by omega],e2,by omega,fun s hs=>?_,fun i j hi hj=>?_⟩
    ·by_cases c1:s=t
     ·rw [c1];exact e3
     ·exact (g3 s (by omega)).same (e4 _ _ (by omega))
    ·rw [e4 _ _ (by omega)]
     exact g4 i j (by omega) hj
   ·right
    rw [if_neg h]
    exact ⟨_,rfl,l,t,rfl,g1,g2,by omega,g3,g4⟩)
  (s0:=(rng 0 n,0,20)) ⟨rng 0 n,rfl,by rw [wFO];omega,by omega,fun s hs=>by omega,fun i j _ hj=>by
   unfold seg
   apply kQ
   intro q
   rw [kM]
   split
   ·rw [kO]
    simp only [rng,kh]
    rw [kJ (by omega),kJ (by omega)]
    simp
   ·rw [nt (by rw [wFO];omega)]⟩ (by omega)
 obtain ⟨l',e1,e2,e3,e4⟩:=wHB hc h2 hn (a:=20 * t) (b:=n) h3 (nR _) (h6 _ _ (nR _) (nR _))
 refine ⟨l,_,l',h1,e1,e2,fun s hs=>?_⟩
 by_cases c1:s=t
 ·rw [c1,nw (by omega)];exact e3
 ·have hlt:s < t:=by omega
  rw [nr (by omega)]
  exact (h5 s hlt).same (e4 _ _ (by omega))
theorem wLK {K:Int->Int} {n:Nat} {c:(Int × Int)->Option Int} (hc:ByK K n c) (hn:n <= 64) {bs:Nat} (hbs:bs=20 \/ bs=40) (hlt:bs < n) {l:List Int} (hl:l.length=n) (hB:Blk K n bs l) :
    ∃ l',((iter (fun (l121,x122,x123) =>
        if x123 <= (n:Int) then
          (wAN 1000 l121 x122 (w64 (x122 + (bs:Int))) x123 c).bind fun x146 =>
          some (.inl (x146,x123,w64 (x123 + (w64 (2 * (bs:Int))))))
        else
          esc (some (l121,x122))) big (l,0,w64 (2 * (bs:Int)))).bind fun (l107,x108) =>
      if (w64 (x108 + (bs:Int))) < (n:Int) then
        (wAN 1000 l107 x108 (w64 (x108 + (bs:Int))) (n:Int) c).bind fun x182 =>
        some (.inl (x182,w64 ((bs:Int) * 2)))
      else
        some (.inl (l107,w64 ((bs:Int) * 2))))=some (Sum.inl (β:=List Int) (l',((2 * bs:Nat):Int)))/\l'.length=n/\Blk K n (2 * bs) l':=by
  have e0:w64 (2 * (bs:Int))=((2 * bs:Nat):Int):=by rw [wAf (by omega) (by omega)];omega
  have e00:w64 ((bs:Int) * 2)=((2 * bs:Nat):Int):=by rw [wAf (by omega) (by omega)];omega
  rw [e0,e00]
  obtain ⟨r,h1,m,t,rfl,h2,h3,h4,h5,h6⟩:=wDm (body:=fun (l121,x122,x123) =>
        if x123 <= (n:Int) then
          (wAN 1000 l121 x122 (w64 (x122 + (bs:Int))) x123 c).bind fun x146 =>
          some (.inl (x146,x123,w64 (x123 + ((2 * bs:Nat):Int))))
        else
          esc (some (l121,x122))) (fun t s=>∃ l,s=(l,((2 * bs * t:Nat):Int),((2 * bs * t + 2 * bs:Nat):Int))/\l.length=n/\2 * bs * t <= n/\(∀ s,s < t->Srt K l (2 * bs * s) (2 * bs * s + 2 * bs))/\(∀ s,2 * t <= s->bs * s < n->Srt K l (bs * s) (min (bs * s + bs) n)))
    (fun r=>∃ l t,r=(l,((2 * bs * t:Nat):Int))/\l.length=n/\2 * bs * t <= n/\n < 2 * bs * t + 2 * bs/\(∀ s,s < t->Srt K l (2 * bs * s) (2 * bs * s + 2 * bs))/\(∀ s,2 * t <= s->bs * s < n->Srt K l (bs * s) (min (bs * s + bs) n))) 4
    (fun t s ht ⟨l,hs,g1,g2,g3,g4⟩=>by
      subst hs
      simp only
      by_cases h:((2 * bs * t + 2 * bs:Nat):Int) <= (n:Int)
      · left
        have s1:=g4 (2 * t) (nR _) (by rcases hbs with rfl | rfl <;> omega)
        have s2:=g4 (2 * t + 1) (by omega) (by rcases hbs with rfl | rfl <;> omega)
        have q1:bs * (2 * t)=2 * bs * t:=by rcases hbs with rfl | rfl <;> omega
        have q2:bs * (2 * t + 1)=2 * bs * t + bs:=by rcases hbs with rfl | rfl <;> omega
        rw [q1,nr (by omega)] at s1
        rw [q2,nr (by omega),show 2 * bs * t + bs + bs=2 * bs * t + 2 * bs by omega] at s2
        obtain ⟨l',e1,e2,e3,e4⟩:=wIH hc g1 hn (by omega) (by omega) (by omega) s1 s2
        have ew:w64 (((2 * bs * t + 2 * bs:Nat):Int) + ((2 * bs:Nat):Int))=((2 * bs * (t + 1) + 2 * bs:Nat):Int):=by
          rw [wEV (by omega)]
          rcases hbs with rfl | rfl <;> omega
        rw [if_pos h,wEV (by omega),e1,hD,ew]
        refine ⟨by rcases hbs with rfl | rfl <;> omega,_,rfl,l',by rw [show 2 * bs * t + 2 * bs=2 * bs * (t + 1) by rw [Nat.mul_add,Nat.mul_one]],e2,by rw [Nat.mul_add,Nat.mul_one];omega,fun s hs=>?_,fun s hs hs2=>?_⟩
        · by_cases c1:s=t
          · rw [c1];exact e3
          · exact (g3 s (by omega)).same (e4 _ _ (by rcases hbs with rfl | rfl <;> omega))
        · exact (g4 s (by omega) hs2).same (e4 _ _ (by rcases hbs with rfl | rfl <;> omega))
      · right
        rw [if_neg h]
        exact ⟨_,rfl,l,t,rfl,g1,g2,by omega,g3,g4⟩)
    (s0:=(l,0,((2 * bs:Nat):Int))) ⟨l,by simp,hl,by omega,fun s hs=>by omega,fun s _ hs=>hB s hs⟩ (by omega)
  rw [h1,hD]
  simp only
  rw [wEV (by omega)]
  have fin:∀ l':List Int,l'.length=n->(2 * bs * t < n->Srt K l' (2 * bs * t) n)->(∀ s,s < t->Srt K l' (2 * bs * s) (2 * bs * s + 2 * bs))->Blk K n (2 * bs) l':=fun l' _ g2 g3 s hs=>by
    by_cases c1:s=t
    · subst c1
      rw [nw (by omega)]
      exact g2 hs
    · have:s < t:=by rcases hbs with rfl | rfl <;> omega
      have q:2 * bs * s + 2 * bs <= n:=by rcases hbs with rfl | rfl <;> omega
      rw [nr q]
      exact g3 s this
  have q1:bs * (2 * t)=2 * bs * t:=by rcases hbs with rfl | rfl <;> omega
  have q2:bs * (2 * t + 1)=2 * bs * t + bs:=by rcases hbs with rfl | rfl <;> omega
  by_cases h:((2 * bs * t + bs:Nat):Int) < (n:Int)
  · have s1:=h6 (2 * t) (nR _) (by omega)
    have s2:=h6 (2 * t + 1) (by omega) (by omega)
    rw [q1,nr (by omega)] at s1
    rw [q2,nw (by omega)] at s2
    obtain ⟨l',e1,e2,e3,e4⟩:=wIH hc h2 hn (by omega) (by omega) (nR _) s1 s2
    rw [if_pos h,e1,hD]
    refine ⟨l',rfl,e2,fin l' e2 (fun _=>e3) fun s hs=>(h5 s hs).same (e4 _ _ (by rcases hbs with rfl | rfl <;> omega))⟩
  · rw [if_neg h]
    refine ⟨m,rfl,h2,fin m h2 (fun g=>?_) h5⟩
    have s1:=h6 (2 * t) (nR _) (by omega)
    rw [q1,nw (by omega)] at s1
    exact s1
theorem wKY {K:Int->Int} {n:Nat} {c:(Int × Int)->Option Int} (hc:ByK K n c) (hn:n <= 64):∃ r,wBD (rng 0 n) c=some r/\r.Perm (rng 0 n)/\r.Pairwise (Lr K):=by
 unfold wBD wBl
 rw [wFO,Nat.sub_zero]
 obtain ⟨l,a,l',h1,h2,h3,h4⟩:=wIl hc hn
 rw [h1,hD]
 simp only
 rw [h2,hD]
 obtain ⟨r,g1,g2,g3⟩:=wDm (body:=fun (l88,x89) =>
  if x89 < (n:Int) then
   (iter (fun (l121,x122,x123) =>
    if x123 <= (n:Int) then
     (wAN 1000 l121 x122 (w64 (x122 + x89)) x123 c).bind fun x146 =>
     some (.inl (x146,x123,w64 (x123 + (w64 (2 * x89)))))
    else
     esc (some (l121,x122))) big (l88,0,w64 (2 * x89))).bind fun (l107,x108) =>
   if (w64 (x108 + x89)) < (n:Int) then
    (wAN 1000 l107 x108 (w64 (x108 + x89)) (n:Int) c).bind fun x182 =>
    some (.inl (x182,w64 (x89 * 2)))
   else
    some (.inl (l107,w64 (x89 * 2)))
  else
   esc (some l88)) (fun k s=>∃ l bs,s=(l,((bs:Nat):Int))/\(k=0/\bs=20 \/ k=1/\bs=40 \/ k=2/\bs=80)/\l.length=n/\Blk K n bs l) (fun r=>r.length=n/\Srt K r 0 n) 3
  (fun k s hk ⟨l,bs,hs,q1,q2,q3⟩=>by
   subst hs
   simp only
   by_cases h:((bs:Nat):Int) < (n:Int)
   ·left
    obtain ⟨l2,e1,e2,e3⟩:=wLK hc hn (bs:=bs) (by omega) (by omega) q2 q3
    rw [if_pos h,e1]
    exact ⟨by omega,_,rfl,l2,2 * bs,rfl,by omega,e2,e3⟩
   ·right
    rw [if_neg h]
    refine ⟨_,rfl,q2,?_⟩
    by_cases z:n=0
    ·subst z
     have:l=[]:=na q2
     subst this
     exact ⟨kc _,nz⟩
    ·have:=q3 0 (by omega)
     rw [Nat.mul_zero,nm,nw (by omega)] at this
     exact this) (s0:=(l',20)) ⟨l',20,rfl,.inl ⟨rfl,rfl⟩,h3,h4⟩ (by omega)
 rw [g1,hD]
 refine ⟨r,rfl,?_⟩
 have:seg r 0 n=r:=by unfold seg;rw [List.drop_zero,kD (by omega)]
 unfold Srt at g3
 rwa [this] at g3
end Go.Proofs.YtlmekamhphnmjaaGreat
namespace Go.Proofs.YtlmekamhphnmjaaGreat
open Go.KL
theorem wLL (x a b:Int):wDT x a b=some (decide (a <= x) && decide (x <= b)):=by
 unfold wDT
 by_cases h:a <= x <;> simp [h]
theorem wLM {K V:Type} [DecidableEq K] {m:List (K × V)} {x y:K} {v:V}:wGm (wGn m x v) y=if y=x then some v else wGm m y:=by
 induction m with
 | nil=>simp only [wGn,wGm]
 | cons p m ih =>
  obtain ⟨a,u⟩:=p
  rw [wGn]
  by_cases h:x=a
  ·subst h
   rw [if_pos rfl,wGm,wGm]
   split <;> rfl
  ·rw [if_neg h,wGm,wGm,ih]
   by_cases h2:y=a
   ·rw [if_pos h2,if_neg (fun e:y=x=>h (e.symm.trans h2)),if_pos h2]
   ·rw [if_neg h2,if_neg h2]
theorem wLN {l:List Int} (hl:l.length <= 1000):wDc l=some (!decide l.Nodup):=by
 unfold wDc
 rw [wDs (by omega)]
 have key:∀ (m k:Nat) (t:List (Int × Bool)),k + m=l.length->(∀ n,wEH t n false=decide (n ∈ l.take k))->(l.take k).Nodup ->
   jn (forN (fun k20 l17 =>
  (idx l (↑k20:Int)).bind fun x41 =>
  if (wEH l17 x41 false)=true then
   esc (some true)
  else
   some (.inl (wGn l17 x41 true))) m k t) (fun _=>some false)=some (!decide l.Nodup):=by
  intro m
  induction m with
  | zero =>
   intro k t hk _ hn
   rw [kD (by omega)] at hn
   simp [forN,hn]
  | succ m ih =>
   intro k t hk ht hn
   have hlt:k < l.length:=by omega
   rw [forN,wDj hlt,hD,ht]
   by_cases c:gd l k ∈ l.take k
   ·have:¬ l.Nodup:=fun h=>by
     rw [<- nB k l,wEU hlt] at h
     exact (ki.1 h).2.2 _ c _ (by simp) rfl
    simp [c,this]
   ·rw [if_neg (by simpa using c)]
    simp only
    refine ih (k + 1) _ (by omega) (fun n=>?_) ?_
    ·unfold wEH at ht ⊢
     rw [wLM,wCq hlt]
     by_cases e:n=gd l k
     ·rw [if_pos e];simp [e]
     ·rw [if_neg e,ht];simp [e]
    ·rw [wCq hlt,ki]
     exact ⟨hn,by simp,fun a ha b hb e=>by simp at hb;subst hb;subst e;exact c ha⟩
 exact key l.length 0 [] (by omega) (fun n=>by simp [wEH,wGm]) (by simp)
theorem wIm {α:Type} [Inhabited α] {l:List α} {a:α} (h:a ∈ l):∃ i,i < l.length/\gd l i=a:=by
 obtain ⟨i,hi,e⟩:=nL h
 exact ⟨i,hi,by rw [wFM hi,e]⟩
theorem wHC (a b:Int):wBB a b=some (if a < b then -1 else if b < a then 1 else 0):=by
 unfold wBB wCT
 simp only [not_true_eq_false,decide_false,hD,kK,if_false]
 split
 ·rfl
 ·split <;> rfl
end Go.Proofs.YtlmekamhphnmjaaGreat
namespace Go.Proofs.YtlmekamhphnmjaaGreat
open Go.KL
theorem wMG {a u:Int} (h:0 <= a) (hu:0 < u):a % u <= a:=by
 have h1:=Int.emod_add_mul_ediv a u
 have h2:=Int.mul_nonneg (Int.le_of_lt hu) (Int.ediv_nonneg h (Int.le_of_lt hu))
 omega
def okQ (x:wAJ):Bool:=(decide (1 <= x.Bib) && decide (x.Bib <= 999)) && (decide (0 <= x.Time) && decide (x.Time <= 360000))
def okU (r:wAX):Prop:=(1 <= r.Unit/\r.Unit <= 600)/\0 <= r.Limit/\r.Limit <= 360000
instance (r:wAX):Decidable (okU r):=by unfold okU;exact inferInstance
def wKZ (l:List wAJ) (r:wAX):Int:=if 60 < l.length then 2 else if l.all okQ=true/\okU r then (if (l.map (·.Bib)).Nodup then 0 else 5) else 3
theorem wMH {l:List wAJ} (hn:l.length <= 1000):wBc l wBd=some (l.all okQ):=by
 unfold wBc
 rw [wKw (p:=okQ) (z:=false) (fun x _=>by
  have:wBd x=some (okQ x):=by
   unfold wBd okQ
   rw [wLL,hD]
   by_cases h:(decide (1 <= x.Bib) && decide (x.Bib <= 999))=true
   ·rw [if_pos h,wLL,h];rfl
   ·rw [if_neg h,kS.2 h];rfl
  simp only [this,hD];split <;> rfl) (by omega)]
 cases l.all okQ <;> rfl
theorem wJf {l:List wAJ} (hl:l.length <= 1000) (r:wAX):wDA l r=some (wKZ l r):=by
 unfold wDA wKZ
 rw [wKx (bytes:=8) (f:=fun x:wAJ=>x.Bib) (fun s _ r=>by rw [wLv]) (by omega) (by omega)]
 show (some (l.map (·.Bib))).bind _=_
 rw [hD]
 by_cases h0:60 < l.length
 ·rw [if_pos (by omega),if_pos h0]
 rw [if_neg (by omega),if_neg h0,wMH hl,hD]
 by_cases h1:l.all okQ=true
 case neg=>rw [if_neg h1,if_neg (fun h=>h1 h.1)]
 rw [if_pos h1,wLL,hD]
 by_cases h2:1 <= r.Unit/\r.Unit <= 600
 case neg=>rw [if_neg (by simp;omega),if_neg (fun h=>h2 h.2.1)]
 rw [if_pos (by simp;omega),wLL,hD]
 by_cases h3:0 <= r.Limit/\r.Limit <= 360000
 case neg=>rw [if_neg (by simp;omega),if_neg (fun h=>h3 h.2.2)]
 rw [if_pos (by simp;omega),wLN (by simpa using hl),hD,if_pos (show l.all okQ=true/\okU r from ⟨h1,h2,h3⟩)]
 by_cases h4:(l.map (·.Bib)).Nodup
 ·rw [if_neg (by simp [h4]),if_pos h4]
 ·rw [if_pos (by simp [h4]),if_neg h4]
structure wLO (l:List wAJ) (r:wAX):Prop where
 len:l.length <= 60
 bib:∀ x ∈ l,1 <= x.Bib/\x.Bib <= 999
 time:∀ x ∈ l,0 <= x.Time/\x.Time <= 360000
 unit:1 <= r.Unit/\r.Unit <= 600
 lim:0 <= r.Limit/\r.Limit <= 360000
 bibs:(l.map (·.Bib)).Nodup
theorem wGg {l:List wAJ} {r:wAX}:wKZ l r=0 ↔ wLO l r:=by
 unfold wKZ
 constructor
 ·intro h
  by_cases h0:60 < l.length
  ·rw [if_pos h0] at h;omega
  rw [if_neg h0] at h
  by_cases h1:l.all okQ=true/\okU r
  case neg=>rw [if_neg h1] at h;omega
  rw [if_pos h1] at h
  by_cases h2:(l.map (·.Bib)).Nodup
  case neg=>rw [if_neg h2] at h;omega
  have:=fun x hx=>nv.1 h1.1 x hx
  simp only [okQ,Bool.and_eq_true,decide_eq_true_iff] at this
  exact ⟨by omega,fun x hx=>(this x hx).1,fun x hx=>(this x hx).2,h1.2.1,h1.2.2,h2⟩
 ·intro G
  have:=G.len
  rw [if_neg (by omega),if_pos ⟨nv.2 fun x hx=>by
   have h1:=G.bib x hx
   have h2:=G.time x hx
   simp only [okQ,Bool.and_eq_true,decide_eq_true_iff]
   exact ⟨h1,h2⟩,G.unit,G.lim⟩,if_pos G.bibs]
def bst (l:List wAJ):Int:=l.foldl (fun b x=>min b x.Time) 360000
theorem wLP {l:List wAJ} {k:Nat} (hk:k < l.length):bst (l.take (k + 1))=min (bst (l.take k)) (gd l k).Time:=by
 unfold bst
 rw [wCq hk,List.foldl_append]
 rfl
theorem wKa (l:List wAJ):∀ b:Int,l.foldl (fun b x=>min b x.Time) b <= b/\(∀ x ∈ l,l.foldl (fun b x=>min b x.Time) b <= x.Time)/\((∀ x ∈ l,0 <= x.Time)->0 <= b->0 <= l.foldl (fun b x=>min b x.Time) b):=by
 induction l with
 | nil=>intro b;exact ⟨nj _,fun x hx=>by simp at hx,fun _ h=>h⟩
 | cons a l ih =>
  intro b
  obtain ⟨h1,h2,h3⟩:=ih (min b a.Time)
  rw [List.foldl_cons]
  refine ⟨by omega,fun x hx=>?_,fun h0 hb=>h3 (fun x hx=>h0 x (kH _ hx)) (by have:=h0 a (List.mem_cons_self ..);omega)⟩
  rcases nS.1 hx with rfl | hx
  ·omega
  ·exact h2 x hx
def dfc (r:wAX) (best t:Int):Int:=min ((t - best) - (t - best) % r.Unit) r.Limit
def dfs (l:List wAJ) (r:wAX):List Int:=l.map fun x=>dfc r (bst l) x.Time
theorem wNF {l:List wAJ} {r:wAX} (G:wLO l r):0 <= bst l/\bst l <= 360000/\∀ x ∈ l,bst l <= x.Time:=by
 have:=wKa l 360000
 exact ⟨this.2.2 (fun x hx=>(G.time x hx).1) (by omega),this.1,this.2.1⟩
theorem wIn {l:List wAJ} {r:wAX} (hl:l.length <= 1000):wCj l r=some (if wKZ l r=0 then dfs l r else [],wKZ l r):=by
 unfold wCj
 rw [wJf hl,hD]
 by_cases h:wKZ l r=0
 case neg=>rw [if_neg h,if_neg h]
 rw [if_pos h,if_pos h,h]
 have G:=wGg.1 h
 have B:=wNF G
 rw [wEN (s0:=(360000:Int)) (fun k=>bst (l.take k)) (by simp [bst]) (by omega) (fun i hi=>by rw [wDj hi,hD,wLP hi]),hD,nP]
 have hlen:=G.len
 rw [wEN (s0:=([]:List Int)) (fun k=>(l.take k).map fun x=>dfc r (bst l) x.Time) (by simp) (by omega) (fun i hi=>by
  have hx:=wCc hi
  have t:=G.time _ hx
  have b:=B.2.2 _ hx
  have u:=G.unit
  have em:=Int.emod_nonneg ((gd l i).Time - bst l) (show r.Unit ≠ 0 by omega)
  have em2:=wMG (a:=(gd l i).Time - bst l) (u:=r.Unit) (by omega) (by omega)
  have e:w64 ((gd l i).Time - bst l)=(gd l i).Time - bst l:=wAf (by omega) (by omega)
  rw [wDj hi,hD,e,rem,if_neg (by omega),hD,nh (by omega),wAf (by omega) (by omega),wDg (by simp;omega),hD,wCq hi,kI]
  rfl),hD,nP]
 rfl
end Go.Proofs.YtlmekamhphnmjaaGreat
namespace Go.Proofs.YtlmekamhphnmjaaGreat
open Go.KL
def key (l:List wAJ) (r:wAX) (i:Int):Int:=dfc r (bst l) (gd l i.toNat).Time * 400000 + (gd l i.toNat).Time
theorem or_is (a b:Int):wDr [a,b]=some (if a=0 then b else a):=by
 unfold wDr
 have e:((([a,b]:List Int).length:Nat):Int)=((2:Nat):Int):=rfl
 rw [e,wDs (by omega)]
 have i0:idx [a,b] ((0:Nat):Int)=some a:=rfl
 have i1:idx [a,b] ((0 + 1:Nat):Int)=some b:=rfl
 simp only [forN,i0,i1,hD]
 by_cases c:a=0
 ·rw [if_pos c,if_pos c]
  by_cases c2:b=0
  ·simp [c2]
  ·simp [c2]
 ·rw [if_neg c,if_neg c]
  rfl
theorem wIo {l:List wAJ} {r:wAX} {a b:Int} (ha:0 <= a/\a < l.length) (hb:0 <= b/\b < l.length):wBe a b (dfs l r) l=some (if (if dfc r (bst l) (gd l a.toNat).Time < dfc r (bst l) (gd l b.toNat).Time then (-1:Int) else if dfc r (bst l) (gd l b.toNat).Time < dfc r (bst l) (gd l a.toNat).Time then 1 else 0)=0 then (if (gd l a.toNat).Time < (gd l b.toNat).Time then (-1:Int) else if (gd l b.toNat).Time < (gd l a.toNat).Time then 1 else 0) else (if dfc r (bst l) (gd l a.toNat).Time < dfc r (bst l) (gd l b.toNat).Time then (-1:Int) else if dfc r (bst l) (gd l b.toNat).Time < dfc r (bst l) (gd l a.toNat).Time then 1 else 0)):=by
 unfold wBe
 have e:∀ {i:Int},0 <= i->i < l.length->idx l i=some (gd l i.toNat)/\idx (dfs l r) i=some (dfc r (bst l) (gd l i.toNat).Time):=fun {i} h1 h2=>by
  refine ⟨by unfold idx;rw [if_pos h1,wAv (by omega)],?_⟩
  unfold idx dfs
  rw [if_pos h1,wAv (by simp;omega),wFL _ (by omega)]
 rw [(e ha.1 ha.2).2,hD,(e hb.1 hb.2).2,hD,(e ha.1 ha.2).1,hD,(e hb.1 hb.2).1,hD,wHC,hD,wHC,hD,or_is,hD]
theorem byKey {l:List wAJ} {r:wAX} (G:wLO l r):ByK (key l r) (l.length:Int) (fun x=>wBe x.1 x.2 (dfs l r) l):=by
 intro a b a0 a1 b0 b1
 refine ⟨_,wIo ⟨a0,a1⟩ ⟨b0,b1⟩,?_⟩
 have ta:=G.time _ (wCc (l:=l) (k:=a.toNat) (by omega))
 have tb:=G.time _ (wCc (l:=l) (k:=b.toNat) (by omega))
 unfold key
 generalize dfc r (bst l) (gd l a.toNat).Time=x
 generalize dfc r (bst l) (gd l b.toNat).Time=y
 generalize (gd l a.toNat).Time=s at ta ⊢
 generalize (gd l b.toNat).Time=t at tb ⊢
 by_cases c1:x < y
 ·rw [if_pos c1,if_neg (by decide)]
  constructor
  ·intro _;omega
  ·intro _;decide
 ·simp only [c1,if_false]
  by_cases c2:y < x
  ·rw [if_pos c2,if_neg (by decide)]
   constructor
   ·intro h;exact absurd h (by decide)
   ·intro h;omega
  ·simp only [c2,if_false,if_true]
   by_cases c3:s < t
   ·simp only [c3,if_true]
    constructor
    ·intro _;omega
    ·intro _;decide
   ·simp only [c3,if_false]
    by_cases c4:t < s
    ·simp only [c4,if_true]
     constructor
     ·intro h;exact absurd h (by decide)
     ·intro h;omega
    ·simp only [c4,if_false]
     constructor
     ·intro h;omega
     ·intro h;omega
structure Plc (l:List wAJ) (r:wAX) (p:List Int):Prop where
 perm:p.Perm (rng 0 l.length)
 ord:p.Pairwise (Lr (key l r))
def stt (l:List wAJ) (r:wAX) (i:Int):wBn:=⟨(gd l i.toNat).Bib,dfc r (bst l) (gd l i.toNat).Time,0⟩
theorem wNG {l:List wAJ} {r:wAX} {p:List Int} (h:Plc l r p) {k:Nat} (hk:k < l.length):p.length=l.length/\0 <= gd p k/\gd p k < l.length:=by
 have hl:p.length=l.length:=by rw [h.perm.length_eq,wFO];omega
 have:=wHA _ (h.perm.mem_iff.1 (wCc (l:=p) (k:=k) (by omega)))
 exact ⟨hl,by omega,this.2⟩
theorem wJg {l:List wAJ} {r:wAX} (hl:l.length <= 1000):∃ p,(wKZ l r=0->Plc l r p)/\wCB l r=some (if wKZ l r=0 then p.map (stt l r) else [],wKZ l r):=by
 unfold wCB
 rw [wIn hl,hD]
 by_cases h:wKZ l r=0
 case neg=>exact ⟨[],fun e=>absurd e h,by simp only [if_neg h]⟩
 simp only [if_pos h]
 have G:=wGg.1 h
 have h60:=G.len
 rw [wEN (s0:=([]:List Int)) (fun k=>rng 0 k) rfl (by omega) (fun i hi=>by
  rw [wDg (by rw [wFO];simp;omega),hD]
  have:=wKV (a:=0) (m:=i) (b:=i + 1) (by omega) (by omega)
  rw [<- this]
  congr 2
  simp [rng]),hD]
 obtain ⟨p,e,hp,ho⟩:=wKY (byKey G) (by omega)
 rw [e,hD]
 have P:Plc l r p:=⟨hp,ho⟩
 have hpl:p.length=l.length:=by rw [hp.length_eq,wFO];omega
 refine ⟨p,fun _=>P,?_⟩
 rw [wEN (s0:=([]:List wBn)) (fun k=>(p.take k).map (stt l r)) (by simp) (by omega) (fun i hi=>by
  obtain ⟨_,g0,g1⟩:=wNG P (k:=i) (by omega)
  have e1:idx l (gd p i)=some (gd l (gd p i).toNat):=by unfold idx;rw [if_pos g0,wAv (by omega)]
  have e2:idx (dfs l r) (gd p i)=some (dfc r (bst l) (gd l (gd p i).toNat).Time):=by unfold idx dfs;rw [if_pos g0,wAv (by simp;omega),wFL _ (by omega)]
  rw [wBf (by omega) (by omega),hD,e1,hD,e2,hD,wDg (by simp;omega),hD,wCq hi,kI]
  rfl),hD,nP,h]
end Go.Proofs.YtlmekamhphnmjaaGreat
namespace Go.Proofs.YtlmekamhphnmjaaGreat
open Go.KL
theorem wKb {a b:Int} (h0:0 <= a) (hb:0 < b):∃ x,rem a b=some x/\0 <= x/\x < b:=by
 refine ⟨a.tmod b,if_neg (by omega),?_,?_⟩
 ·rw [nh h0];exact Int.emod_nonneg _ (by omega)
 ·rw [nh h0];exact Int.emod_lt_of_pos _ hb
theorem wIp (x:Int):0 <= wEf x:=by unfold wEf;omega
theorem wMI (x:Int):wEf x < 4294967296:=by unfold wEf;omega
theorem w64u (x:Int):w64 (wEf x)=wEf x:=by
 have:=wIp x
 have:=wMI x
 exact wAf (by omega) (by omega)
theorem wLQ (a:Int) {b:Int} (hb:b ≠ 0):∃ x,quo a b=some x:=⟨_,if_neg hb⟩
theorem wFz (d:wAW) (n:Int) (h0:0 <= d.next) (h1:d.next <= 1000000):∃ x d',wAU d n=some (x,d')/\0 <= d'.next/\d'.next <= d.next + 1/\0 <= x/\(x < n \/ (n <= 1/\x=0)):=by
 unfold wAU
 by_cases hn:n <= 1
 ·exact ⟨0,d,by rw [if_pos hn],h0,by omega,by omega,.inr ⟨hn,rfl⟩⟩
 rw [if_neg hn]
 by_cases hl:(d.bytes.length:Int)=0
 ·exact ⟨0,d,by rw [if_pos hl],h0,by omega,by omega,.inl (by omega)⟩
 rw [if_neg hl]
 obtain ⟨r,e1,r0,r1⟩:=wKb h0 (show (0:Int) < d.bytes.length by omega)
 obtain ⟨b,e2⟩:∃ b,idx d.bytes r=some b:=by
  unfold idx
  rw [if_pos r0,nG (by omega)]
  exact ⟨_,rfl⟩
 obtain ⟨q,e3⟩:=wLQ d.next (b:=d.bytes.length) hl
 obtain ⟨st,e4,_,_⟩:=wKb (wIp ((wEf ((wEf ((wEf (d.state * 45)) + (wEf b))) + (wEf (77 * (wEf q))))) + 1)) (b:=65519) (by decide)
 rw [e1,hD,e2,hD,e3,hD,e4,hD,wAf (x:=d.next + 1) (by omega) (by omega)]
 have fin:∀ z:Int,∃ x d',((rem (w64 (wEf z)) n).bind fun x=>some (x,(⟨d.bytes,d.next + 1,st⟩:wAW)))=some (x,d')/\0 <= d'.next/\d'.next <= d.next + 1/\0 <= x/\(x < n \/ (n <= 1/\x=0)):=by
  intro z
  obtain ⟨x,e5,x0,x1⟩:=wKb (a:=w64 (wEf z)) (b:=n) (by rw [w64u];exact wIp z) (by omega)
  exact ⟨x,_,by rw [e5];rfl,by show 0 <= d.next + 1;omega,by show d.next + 1 <= _;omega,x0,.inl x1⟩
 by_cases c1:wEf q=0
 ·rw [if_pos c1]
  by_cases c2:n <= 256
  ·rw [if_pos c2];exact fin _
  ·rw [if_neg c2];exact fin _
 ·rw [if_neg c1];exact fin _
theorem wMJ (d:wAW) (a b:Int) (h0:0 <= d.next) (h1:d.next <= 1000000) (ha:-1000000 <= a) (hab:a <= b) (hb:b <= 1000000):∃ x d',wBI d a b=some (x,d')/\0 <= d'.next/\d'.next <= d.next + 1/\a <= x/\x <= b:=by
 unfold wBI
 rw [wAf (x:=b - a) (by omega) (by omega),wAf (x:=b - a + 1) (by omega) (by omega)]
 obtain ⟨x,d',e,n0,n1,x0,x1⟩:=wFz d (b - a + 1) h0 h1
 refine ⟨a + x,d',?_,n0,n1,by omega,by omega⟩
 rw [e,hD]
 simp only
 rw [wAf (by omega) (by omega)]
end Go.Proofs.YtlmekamhphnmjaaGreat
namespace Go.Proofs.YtlmekamhphnmjaaGreat
open Go.KL
def dRd (k128:Nat):List Int × Int × Int × List wAH × List (List Int) × List (List wAE) × List Int->Option (List Int × Int × Int × List wAH × List (List Int) × List (List wAE) × List Int)
 | (l105,x108,x109,l110,l114,l119,l124) =>
  (wAU (⟨l105,x108,x109⟩:wAW) 6).bind fun (x169,x170) =>
  (wAU x170 6).bind fun (x183,x184) =>
  (wAU x184 3).bind fun (x197,x198) =>
  (wAU x198 2).bind fun (x211,x212) =>
  (app 24 l114 [[x169,x183]]).bind fun x241 =>
  (app 24 l119 [[(⟨0,1,(⟨max 0 (w64 ((w64 (x169 + x183)) - (w64 (x197 * x211)))),max 0 (w64 ((w64 (x169 + x183)) - (w64 (x197 * x211))))⟩:wDD)⟩:wAE)]]).bind fun x272 =>
  (app 8 l124 [w64 ((w64 (x169 + x183)) - (max 0 (w64 ((w64 (x169 + x183)) - (w64 (x197 * x211))))))]).bind fun x293 =>
  (wAU x212 500).bind fun (x350,x351) =>
  (app 16 l110 [(⟨(↑(k128 + 1):Int),w64 (14000 + x350)⟩:wAH)]).bind fun x370 =>
  some (x351.bytes,x351.next,x351.state,x370,x241,x272,x293)
def eRd (y139 x463:List Int) (k500:Nat):List wAC × Int->Option ((List wAC × Int) ⊕ Bool)
 | (l495,x499) =>
   (chk (↑k500:Int) y139.length).bind fun _ =>
   if 0 < (gd y139 k500) then
    if (↑x463.length:Int) <= x499 then
     esc (some false)
    else
     (chk x499 x463.length).bind fun _ =>
     if (gd x463 x499.toNat)=(↑k500:Int) then
      (app 48 l495 [(⟨(↑(k500 + 1):Int),2,0,(↑(k500 + 1):Int),(gd y139 k500),0⟩:wAC)]).bind fun x550 =>
      some (.inl (x550,w64 (x499 + 1)))
     else
      esc (some false)
   else
    some (.inl (l495,x499))
def fRd (x606:List wAA) (y139:List Int) (y136:List wAH) (k641:Nat) (l637:List wAJ):Option (List wAJ ⊕ Bool) :=
            (chk (↑k641:Int) x606.length).bind fun _ =>
            if ((gd x606 k641).Bib) < 1 then
              esc (some false)
            else
              if (↑y139.length:Int) < ((gd x606 k641).Bib) then
                esc (some false)
              else
                (idx y136 (w64 (((gd x606 k641).Bib) - 1))).bind fun x692 =>
                (chk (w64 (((gd x606 k641).Bib) - 1)) y139.length).bind fun _ =>
                if ((gd x606 k641).Total)=(w64 (x692.Time + (w64 (1200 * (gd y139 (w64 (((gd x606 k641).Bib) - 1)).toNat))))) then
                  (app 16 l637 [(⟨(gd x606 k641).Bib,(gd x606 k641).Total⟩:wAJ)]).bind fun x713 =>
                  some (.inl x713)
                else
                  esc (some false)
def hRd (x760:List wBn) (x606:List wAA) (k780:Nat) (_:Unit):Option (Unit ⊕ Bool) :=
                (chk (↑k780:Int) x760.length).bind fun _ =>
                (chk (↑k780:Int) x606.length).bind fun _ =>
                (chk 0 x606.length).bind fun _ =>
                if ((gd x760 k780).Bib)=((gd x606 k780).Bib) then
                  (rem (w64 (((gd x606 k780).Total) - ((gd x606 0).Total))) 10).bind fun x827 =>
                  if ((gd x760 k780).Time)=(w64 ((w64 (((gd x606 k780).Total) - ((gd x606 0).Total))) - x827)) then
                    some (.inl ())
                  else
                    esc (some false)
                else
                  esc (some false)
theorem wGu (p0:List Int):wBy p0 =
 (wCy p0).bind fun x1 =>
 (wBI x1 1 6).bind fun (x23,x24) =>
 (wBx 0 x23 dRd (x24.bytes,x24.next,x24.state,[],[],[],[])).bind fun (_,_,_,y136,y137,y138,y139) =>
 (wDR y137 y138).bind fun (x463,x464) =>
 if x464=0 then
  jn (wFU 0 (↑y139.length:Int) (eRd y139 x463) ([],0)) fun (y578,y579) =>
  if y579=(↑x463.length:Int) then
   (wCe (⟨0,y136,y578⟩:wAO)).bind fun (x606,x607) =>
   if x607=0 then
    if (↑x606.length:Int)=(↑y139.length:Int) then
     jn (wFU 0 (↑x606.length:Int) (fRd x606 y139 y136) []) fun y741 =>
     (wCB y741 (⟨10,360000⟩:wAX)).bind fun (x760,x761) =>
     if x761=0 then
      if (↑x760.length:Int)=(↑x606.length:Int) then
       jn (wFU 0 (↑x760.length:Int) (hRd x760 x606) ()) fun _ =>
       some true
      else
       some false
     else
      some false
    else
     some false
   else
    some false
  else
   some false
 else
  some false:=rfl
structure DI (n0:Int) (k:Nat) (s:List Int × Int × Int × List wAH × List (List Int) × List (List wAE) × List Int):Prop where
 lo:0 <= s.2.1
 hi:s.2.1 <= n0 + 5 * (k:Int)
 sl:s.2.2.2.1.length=k
 skk:∀ i,i < k->(gd s.2.2.2.1 i).Bib=(i:Int) + 1/\14000 <= (gd s.2.2.2.1 i).Time/\(gd s.2.2.2.1 i).Time <= 14500
 ol:s.2.2.2.2.1.length=k
 hl:s.2.2.2.2.2.1.length=k
 ml:s.2.2.2.2.2.2.length=k
 o:∀ i,i < k->∃ a b w m:Int,0 <= a/\a <= 5/\0 <= b/\b <= 5/\0 <= w/\0 <= m/\a + b=w + m/\gd s.2.2.2.2.1 i=[a,b]/\gd s.2.2.2.2.2.1 i=[⟨0,1,⟨w,w⟩⟩]/\gd s.2.2.2.2.2.2 i=m
theorem wHW {α:Type} [Inhabited α] {l:List α} {k:Nat} (h:l.length=k) (x:α):gd (l ++ [x]) k=x:=by
 have:=wEy l [] x
 rwa [h] at this
theorem wNH {n0:Int} (h:n0 <= 1000) {k:Nat} {s:List Int × Int × Int × List wAH × List (List Int) × List (List wAE) × List Int} (hk:k < 6) (I:DI n0 k s):∃ s',dRd k s=some s'/\DI n0 (k + 1) s':=by
 obtain ⟨b,nx,st,sl,ol,hl,ml⟩:=s
 obtain ⟨i0,i1,i2,i3,i4,i5,i6,i7⟩:=I
 simp only at i0 i1 i2 i3 i4 i5 i6 i7
 unfold dRd
 simp only
 obtain ⟨u,d2,e2,q0,q1,u0,u1⟩:=wFz ⟨b,nx,st⟩ 6 i0 (by simp only;omega)
 simp only at q1
 obtain ⟨v,d3,e3,r0,r1,v0,v1⟩:=wFz d2 6 q0 (by omega)
 obtain ⟨x,d4,e4,a0,a1,x0,x1⟩:=wFz d3 3 r0 (by omega)
 obtain ⟨y,d5,e5,b0,b1,y0,y1⟩:=wFz d4 2 a0 (by omega)
 obtain ⟨z,d6,e6,c0,c1,z0,z1⟩:=wFz d5 500 b0 (by omega)
 rw [e2,hD]
 simp only
 rw [e3,hD]
 simp only
 rw [e4,hD]
 simp only
 rw [e5,hD]
 simp only
 have hxy:0 <= x * y/\x * y <= 4:=by
  have hy:y=0 \/ y=1:=by omega
  rcases hy with rfl | rfl <;> omega
 rw [wDg (by simp;omega),hD,wDg (by simp;omega),hD,wDg (by simp;omega),hD,e6,hD]
 simp only
 rw [wDg (by simp;omega),hD,wAf (x:=u + v) (by omega) (by omega),wAf (x:=x * y) (by omega) (by omega),wAf (x:=u + v - x * y) (by omega) (by omega),wAf (x:=14000 + z) (by omega) (by omega)]
 obtain ⟨w,hw⟩:∃ w,w=max 0 (u + v - x * y):=⟨_,rfl⟩
 rw [<- hw,wAf (x:=u + v - w) (by omega) (by omega)]
 refine ⟨_,rfl,c0,by simp only;omega,by simp [i2],fun i hi=>?_,by simp [i4],by simp [i5],by simp [i6],fun i hi=>?_⟩
 ·simp only
  by_cases e:i=k
  ·subst e
   rw [wHW i2]
   simp only
   omega
  ·rw [wFh (by omega)]
   exact i3 i (by omega)
 ·simp only
  by_cases e:i=k
  ·subst e
   rw [wHW i4,wHW i5,wHW i6]
   exact ⟨u,v,w,u + v - w,u0,by omega,v0,by omega,by omega,by omega,by omega,rfl,rfl,rfl⟩
  ·rw [wFh (by omega),wFh (by omega),wFh (by omega)]
   exact i7 i (by omega)
theorem wMK {a b w m:Int} (h:0 <= a/\a <= 5/\0 <= b/\b <= 5/\0 <= w/\0 <= m/\a + b=w + m):wDQ [a,b] [⟨0,1,⟨w,w⟩⟩]=some (decide (0 < m),0):=by
 obtain ⟨h1,h2,h3,h4,h5,h6,h7⟩:=h
 have hs:wIj ((2:Nat):Int) [(⟨0,1,⟨w,w⟩⟩:wAE)]=0:=by
  unfold wIj
  rw [if_neg (by simp),if_pos (by simp [wGb]),if_pos (by simp [wGc];omega)]
 obtain ⟨x,e,hx⟩:=wMy (n:=2) hs (owed:=[a,b]) rfl (fun k hk=>by
  simp only [nS,kV,or_false] at hk
  rcases hk with rfl | rfl <;> omega)
 suffices key:x=decide (0 < m) by rw [e,key]
 by_cases c:0 < m
 ·rw [decide_eq_true c]
  cases x with
  | true=>rfl
  | false =>
   obtain ⟨y,F⟩:=hx.1 rfl
   have g1:=F.sh _ (nJ.2 rfl)
   have g2:=F.ow 0 a rfl
   have g3:=F.ow 1 b rfl
   have e1:y ((1:Int) + 1).toNat=y 2:=rfl
   have e2:y (0:Int).toNat=y 0:=rfl
   simp only at g1
   rw [e1,e2] at g1
   simp only [Nat.reduceAdd] at g2 g3
   omega
 ·rw [decide_eq_false c]
  refine hx.2 ⟨fun i=>if i=0 then 0 else if i=1 then a else a + b,⟨fun s hs=>?_,fun i hi=>?_,fun i k hk=>?_⟩⟩
  ·rw [nJ.1 hs]
   show w <= (a + b) - 0/\(a + b) - 0 <= w
   omega
  ·have:i=0 \/ i=1:=by omega
   rcases this with rfl | rfl
   ·show 0 <= a - 0/\a - 0 <= 9
    omega
   ·show 0 <= (a + b) - a/\(a + b) - a <= 9
    omega
  ·match i with
   | 0 =>
    have e:a=k:=nX hk
    show k <= a - 0
    omega
   | 1 =>
    have e:b=k:=nX hk
    show k <= (a + b) - a
    omega
   | i + 2=>simp at hk
def wHX (p:Nat->Bool) (n:Nat):List Int:=((kj n).filter p).map fun (k:Nat)=>(k:Int)
theorem wEt (p:Nat->Bool) (n:Nat):wHX p (n + 1)=if p n=true then wHX p n ++ [(n:Int)] else wHX p n:=by
 unfold wHX
 rw [List.range_succ,nq,kI]
 by_cases h:p n=true <;> simp [h]
theorem wHY (p:Nat->Bool) (n:Nat):(wHX p n).length <= n:=by
 unfold wHX
 rw [nO]
 exact Nat.le_trans (List.length_filter_le _ _) (by simp)
theorem wLR (p:Nat->Bool) {k n:Nat} (h:k <= n):∃ t,wHX p n=wHX p k ++ t:=by
 induction n with
 | zero=>exact ⟨[],by rw [show k=0 by omega];simp⟩
 | succ n ih =>
  by_cases e:k=n + 1
  ·exact ⟨[],by rw [e];simp⟩
  ·obtain ⟨t,ht⟩:=ih (by omega)
   rw [wEt]
   split
   ·exact ⟨t ++ [(n:Int)],by rw [ht,nA]⟩
   ·exact ⟨t,ht⟩
def msB (M:List Int) (i:Nat):Bool:=decide (0 < gd M i)
theorem wNI {n:Nat} {O:List (List Int)} {H:List (List wAE)} {M:List Int} (hn:n <= 6) (ol:O.length=n) (hl:H.length=n)
  (o:∀ i,i < n->∃ a b w m:Int,0 <= a/\a <= 5/\0 <= b/\b <= 5/\0 <= w/\0 <= m/\a + b=w + m/\gd O i=[a,b]/\gd H i=[⟨0,1,⟨w,w⟩⟩]/\gd M i=m):wDR O H=some (wHX (msB M) n,0):=by
 unfold wDR
 rw [if_neg (by omega),if_pos (by omega),ol,wGL (n:=n) (s0:=([]:List Int)) (wHX (msB M)) rfl (by omega) ?_]
 ·rfl
 ·intro i hi
  obtain ⟨a,b,w,m,g1,g2,g3,g4,g5,g6,g7,g8,g9,g10⟩:=o i hi
  rw [wDj (by omega),hD,wDj (by omega),hD,g8,g9,wMK ⟨g1,g2,g3,g4,g5,g6,g7⟩,hD]
  simp only
  rw [if_pos trivial,wEt]
  unfold msB
  rw [g10]
  have:=wHY (msB M) i
  unfold msB at this
  by_cases c:decide (0 < m)=true
  ·rw [if_pos c,if_pos c,wDg (by simp;omega)]
   rfl
  ·rw [if_neg c,if_neg c]
def wHe (M:List Int):Nat->List wAC
 | 0=>[]
 | k + 1=>if 0 < gd M k then wHe M k ++ [⟨((k + 1:Nat):Int),2,0,((k + 1:Nat):Int),gd M k,0⟩] else wHe M k
theorem wHZ (M:List Int):∀ k,(wHe M k).length=(wHX (msB M) k).length
 | 0=>rfl
 | k + 1=>by
  rw [wHe,wEt]
  unfold msB
  have:=wHZ M k
  unfold msB at this
  by_cases c:0 < gd M k
  ·rw [if_pos c,if_pos (decide_eq_true c)];simp [this]
  ·rw [if_neg c,if_neg (by simpa using c),this]
theorem wGN {M:List Int} {d:wAC}:∀ {k:Nat},d ∈ wHe M k->∃ i,i < k/\0 < gd M i/\d=⟨((i + 1:Nat):Int),2,0,((i + 1:Nat):Int),gd M i,0⟩
 | 0,h=>by cases h
 | k + 1,h=>by
  rw [wHe] at h
  split at h
  ·rename_i c
   rcases nV.1 h with h | h
   ·obtain ⟨i,h1,h2,h3⟩:=wGN h
    exact ⟨i,by omega,h2,h3⟩
   ·exact ⟨k,by omega,c,nJ.1 h⟩
  ·obtain ⟨i,h1,h2,h3⟩:=wGN h
   exact ⟨i,by omega,h2,h3⟩
theorem wHa (M:List Int):∀ k,(wHe M k).Pairwise fun a b=>a.Number < b.Number
 | 0=>nz
 | k + 1=>by
  rw [wHe]
  split
  ·refine nI.2 ⟨wHa M k,List.pairwise_singleton _ _,fun a ha b hb=>?_⟩
   obtain ⟨i,h1,_,rfl⟩:=wGN ha
   rw [nJ.1 hb]
   simp only
   omega
  ·exact wHa M k
theorem wJQ {M:List Int} (h0:∀ i,0 <= gd M i):∀ k (j:Nat),wFx (wHe M k) ((j:Int) + 1)=if j < k then 1200 * gd M j else 0
 | 0,j=>by rw [wHe,wFx,if_neg (by omega)]
 | k + 1,j=>by
  rw [wHe]
  have ih:=wJQ h0 k j
  have hk:=h0 k
  by_cases c:0 < gd M k
  ·rw [if_pos c,wHO,ih,wFx,wFx]
   simp only [wLA]
   by_cases e:j=k
   ·subst e
    rw [if_neg (by omega),if_pos (by omega),if_neg (by omega),if_pos (by omega)]
    omega
   ·rw [if_neg (show ¬ (((k + 1:Nat):Int)=(j:Int) + 1) by omega)]
    by_cases c2:j < k
    ·rw [if_pos c2,if_pos (by omega)];omega
    ·rw [if_neg c2,if_neg (by omega)];omega
  ·rw [if_neg c,ih]
   by_cases e:j=k
   ·subst e
    rw [if_neg (by omega),if_pos (by omega)];omega
   ·by_cases c2:j < k
    ·rw [if_pos c2,if_pos (by omega)]
    ·rw [if_neg c2,if_neg (by omega)]
theorem wNJ {n:Nat} {M:List Int} (hn:n <= 6) (ml:M.length=n):wFU 0 (n:Int) (eRd M (wHX (msB M) n)) ([],0)=some (.inl (wHe M n,((wHX (msB M) n).length:Int))):=by
 refine (wGL (n:=n) (s0:=(([],0):List wAC × Int)) (body:=eRd M (wHX (msB M) n)) (fun k=>(wHe M k,((wHX (msB M) k).length:Int))) rfl (by omega) fun k hk=>?_)
 have h1:=wHY (msB M) k
 have h2:=wHZ M k
 unfold eRd
 simp only
 rw [wBf (by omega) (by omega),hD,wHe,wEt]
 by_cases c:0 < gd M k
 ·have cb:msB M k=true:=decide_eq_true c
  obtain ⟨t,ht⟩:=wLR (msB M) (show k + 1 <= n by omega)
  rw [wEt,if_pos cb,nA] at ht
  have hg:gd (wHX (msB M) n) (wHX (msB M) k).length=(k:Int):=by rw [ht];exact wEy _ _ _
  have hlt:(wHX (msB M) k).length < (wHX (msB M) n).length:=by rw [ht];simp
  rw [if_pos c,if_pos c,if_pos cb,if_neg (by omega),wBf (by omega) (by omega),hD,nD,hg,if_pos rfl,wDg (by simp;omega),hD,wAf (by omega) (by omega)]
  simp
 ·rw [if_neg c,if_neg c,if_neg (by unfold msB;simpa using c)]
theorem wNK {n:Nat} (n1:1 <= n) (hn:n <= 6) {Sk:List wAH} (sl:Sk.length=n) (sk:∀ i,i < n->(gd Sk i).Bib=(i:Int) + 1/\14000 <= (gd Sk i).Time/\(gd Sk i).Time <= 14500) {M:List Int} (ml:M.length=n) (m:∀ i,i < n->0 <= gd M i/\gd M i <= 10) :
  ((wCe (⟨0,Sk,wHe M n⟩:wAO)).bind fun (x606,x607) =>
   if x607=0 then
    if (↑x606.length:Int)=(↑M.length:Int) then
     jn (wFU 0 (↑x606.length:Int) (fRd x606 M Sk) []) fun y741 =>
     (wCB y741 (⟨10,360000⟩:wAX)).bind fun (x760,x761) =>
     if x761=0 then
      if (↑x760.length:Int)=(↑x606.length:Int) then
       jn (wFU 0 (↑x760.length:Int) (hRd x760 x606) ()) fun _ =>
       some true
      else
       some false
     else
      some false
    else
     some false
   else
    some false)=some true:=by
 have hm0:∀ i,0 <= gd M i:=fun i=>by
  by_cases h:i < n
  ·exact (m i h).1
  ·unfold gd
   rw [nH,nt (by omega)]
   exact nj 0
 have mem:∀ s ∈ Sk,∃ i,i < n/\gd Sk i=s:=fun s hs=>by
  obtain ⟨i,hi,e⟩:=wIm hs
  exact ⟨i,by omega,e⟩
 have G:wIf ⟨0,Sk,wHe M n⟩:=by
  refine ⟨by simp only;omega,by simp only;omega,nj 0,by simp only;omega,?_,fun s hs=>?_,?_,fun d hd=>?_,wHa M n⟩
  ·have:=wHY (msB M) n
   have:=wHZ M n
   simp only;omega
  ·obtain ⟨i,hi,rfl⟩:=mem s hs
   have:=sk i hi
   omega
  ·rw [nZ]
   intro i j hi hj hij
   simp only at hi hj ⊢
   have a:=sk i (by omega)
   have b:=sk j (by omega)
   rw [wFM (by omega)] at a b
   omega
  ·obtain ⟨i,hi,hpos,rfl⟩:=wGN hd
   have a:=sk i hi
   have b:=m i hi
   refine ⟨by simp only;omega,by simp only;omega,.inr rfl,rfl,hm0 i,by simp only;omega,rfl,?_⟩
   simp only
   exact kU.2 ⟨gd Sk i,wCc (by omega),by omega⟩
 obtain ⟨Z,L,e,R⟩:=wMC G
 rw [e,hD]
 simp only
 have hLl:L.length=n:=by rw [R.len];exact sl
 have hins:wKM ⟨0,Sk,wHe M n⟩ Sk=Sk.map fun s=>⟨s.Bib,0,tot ⟨0,Sk,wHe M n⟩ s⟩:=by
  unfold wKM
  rw [List.filter_eq_self.2 fun s hs=>by
   obtain ⟨i,hi,rfl⟩:=mem s hs
   have:=sk i hi
   simp;omega]
 have perm:=R.perm
 simp only at perm
 rw [hins] at perm
 have hZ:Z.length=n:=by rw [perm.length_eq,nO,sl]
 have line:∀ k,k < n->∃ i,i < n/\(gd L k).Bib=(i:Int) + 1/\(gd L k).Total=(gd Sk i).Time + 1200 * gd M i/\(gd L k).Total=(gd Z k).Total/\(gd L k).Bib=(gd Z k).Bib:=fun k hk=>by
  have hL:=R.at_ k (by omega)
  obtain ⟨s,hs,hz⟩:=kU.1 (perm.mem_iff.1 (wCc (l:=Z) (k:=k) (by omega)))
  obtain ⟨i,hi,rfl⟩:=mem s hs
  have:=sk i hi
  refine ⟨i,hi,?_,?_,by rw [hL],by rw [hL]⟩
  ·rw [hL,<- hz];exact this.1
  ·rw [hL,<- hz]
   simp only [tot]
   rw [this.1,wJQ hm0,if_pos hi]
 have lin:∀ k,k < n->1 <= (gd L k).Bib/\(gd L k).Bib <= n/\14000 <= (gd L k).Total/\(gd L k).Total <= 26500:=fun k hk=>by
  obtain ⟨i,hi,h1,h2,_⟩:=line k hk
  have:=sk i hi
  have:=m i hi
  omega
 rw [if_pos trivial,if_pos (by omega)]
 obtain ⟨Q,hQd⟩:∃ Q:List wAJ,Q=L.map fun x=>⟨x.Bib,x.Total⟩:=⟨_,rfl⟩
 have hQ:Q.length=n:=by rw [hQd,nO];exact hLl
 have gQ:∀ k,k < n->gd Q k=⟨(gd L k).Bib,(gd L k).Total⟩:=fun k hk=>by rw [hQd];exact wFL _ (by omega)
 have ef:wFU 0 (↑L.length:Int) (fRd L M Sk) []=some (.inl Q):=by
  have h:=wGL (n:=L.length) (s0:=([]:List wAJ)) (body:=fRd L M Sk) (fun k=>(L.take k).map fun x=>(⟨x.Bib,x.Total⟩:wAJ)) rfl (by omega) fun k hk=>by
   obtain ⟨i,hi,h1,h2,_⟩:=line k (by omega)
   have hs:=sk i hi
   have hm:=m i hi
   unfold fRd
   rw [wBf (by omega) (by omega),hD,if_neg (by omega),if_neg (by omega),h1,show (i:Int) + 1 - 1=i by omega,wAf (x:=(i:Int)) (by omega) (by omega),wDj (by omega),hD,wBf (by omega) (by omega),hD,nD,wAf (x:=1200 * gd M i) (by omega) (by omega),wAf (by omega) (by omega),if_pos h2,wDg (by simp;omega),hD,<- h1,wCq hk]
   simp
  rw [nP,<- hQd] at h
  exact h
 rw [ef,wGQ]
 have ord:∀ i j,i < j->j < n->LrJ (fun x=>x.Total) (gd Z i) (gd Z j):=fun i j hij hj=>by
  have:=nZ.1 R.ord i j (by omega) (by omega) hij
  rwa [<- wFM (by omega),<- wFM (by omega)] at this
 have up:∀ i j,i <= j->j < n->(gd L i).Total <= (gd L j).Total:=fun i j hij hj=>by
  obtain ⟨_,_,_,_,a,_⟩:=line i (by omega)
  obtain ⟨_,_,_,_,b,_⟩:=line j hj
  by_cases h:i=j
  ·rw [h];exact nj _
  ·have:(gd Z i).Total <= (gd Z j).Total:=(ord i j (by omega) hj).le
   omega
 have GQ:wLO Q ⟨10,360000⟩:=by
  have mq:∀ x ∈ Q,∃ k,k < n/\x=⟨(gd L k).Bib,(gd L k).Total⟩:=fun x hx=>by
   obtain ⟨k,hk,rfl⟩:=wIm hx
   exact ⟨k,by omega,gQ k (by omega)⟩
  refine ⟨by omega,fun x hx=>?_,fun x hx=>?_,by simp only;omega,by simp only;omega,?_⟩
  ·obtain ⟨k,hk,rfl⟩:=mq x hx
   have:=lin k hk
   simp only;omega
  ·obtain ⟨k,hk,rfl⟩:=mq x hx
   have:=lin k hk
   simp only;omega
  ·have hb:Q.map (·.Bib)=Z.map (·.Bib):=wLb (by rw [nO,nO];omega) fun k hk=>by
    rw [nO] at hk
    rw [wFL _ hk,wFL _ (by omega),gQ k (by omega)]
    obtain ⟨_,_,_,_,_,b⟩:=line k (by omega)
    exact b
   rw [hb]
   have hp:(Z.map (·.Bib)).Perm (Sk.map (·.Bib)):=by
    have:=perm.map (·.Bib)
    rwa [List.map_map] at this
   rw [hp.nodup_iff,List.nodup_iff_pairwise_ne,nZ]
   intro i j hi hj hij
   rw [nO] at hi hj
   rw [List.getElem_map,List.getElem_map]
   have a:=sk i (by omega)
   have b:=sk j (by omega)
   rw [wFM (by omega)] at a b
   omega
 obtain ⟨p,hp,ep⟩:=wJg (l:=Q) (r:=⟨10,360000⟩) (by omega)
 have e0:=wGg.2 GQ
 have P:=hp e0
 rw [ep,hD]
 simp only [e0,if_pos]
 have best:bst Q=(gd L 0).Total:=by
  have h:=wKa Q 360000
  have h1:bst Q <= (gd L 0).Total:=by
   have:=h.2.1 _ (wCc (l:=Q) (k:=0) (by omega))
   rw [gQ 0 (by omega)] at this
   exact this
  have h2:∀ (l:List wAJ) (b c:Int),c <= b->(∀ x ∈ l,c <= x.Time)->c <= l.foldl (fun b x=>min b x.Time) b:=by
   intro l
   induction l with
   | nil=>intro b c hb _;exact hb
   | cons a l ih =>
    intro b c hb hx
    rw [List.foldl_cons]
    have:=hx a (by simp)
    exact ih _ c (by omega) fun x hx'=>hx x (by simp [hx'])
  have h3:(gd L 0).Total <= bst Q:=by
   refine h2 Q 360000 _ (by have:=lin 0 (by omega);omega) fun x hx=>?_
   obtain ⟨k,hk,rfl⟩:=wIm hx
   rw [gQ k (by omega)]
   exact up 0 k (by omega) (by omega)
  omega
 have def_:∀ k,k < n->dfc ⟨10,360000⟩ (bst Q) (gd Q k).Time=((gd L k).Total - (gd L 0).Total) - ((gd L k).Total - (gd L 0).Total) % 10:=fun k hk=>by
  have a:=up 0 k (by omega) hk
  have b:=lin k hk
  have c:=lin 0 (by omega)
  rw [gQ k hk,best]
  unfold dfc
  simp only
  omega
 have pid:p=rng 0 n:=by
  refine List.Perm.eq_of_pairwise (le:=Lr (key Q ⟨10,360000⟩)) (fun a b _ _ h1 h2=>by unfold Lr at h1 h2;omega) P.ord ?_ (by rw [<- hQ];exact P.perm)
  refine (List.Pairwise.imp_of_mem (fun {a b} ha hb h=>?_) (wLh 0 n))
  have a1:=wHA _ ha
  have b1:=wHA _ hb
  refine Lr.of ?_ h
  unfold key
  have da:=def_ a.toNat (by omega)
  have db:=def_ b.toNat (by omega)
  have u:=up a.toNat b.toNat (by omega) (by omega)
  rw [da,db,gQ a.toNat (by omega),gQ b.toNat (by omega)]
  simp only
  omega
 have gp:∀ k,k < n->gd p k=(k:Int):=fun k hk=>by
  rw [pid]
  unfold rng
  rw [wFL _ (by simp;omega)]
  have h1:=wAv (xs:=kj (n - 0)) (k:=k) (by simp;omega)
  rw [kJ (by omega)] at h1
  rw [<- nX h1]
  omega
 have pl:p.length=n:=by rw [pid,wFO];omega
 rw [if_pos (by rw [nO];omega)]
 rw [wKF (n:=(p.map (stt Q ⟨10,360000⟩)).length) (by rw [nO];omega) fun k hk=>?_]
 ·rfl
 rw [nO,pl] at hk
 have gs:gd (p.map (stt Q ⟨10,360000⟩)) k=stt Q ⟨10,360000⟩ (k:Int):=by rw [wFL _ (by omega),gp k hk]
 have a:=up 0 k (by omega) hk
 have b:=lin k hk
 have c:=lin 0 (by omega)
 unfold hRd
 rw [wBf (by omega) (by rw [nO];omega),hD,wBf (by omega) (by omega),hD,wBf (by omega) (by omega),hD,gs]
 unfold stt
 simp only [nD]
 have eb:(gd Q k).Bib=(gd L k).Bib:=by rw [gQ k hk]
 have er:rem ((gd L k).Total - (gd L 0).Total) 10=some (((gd L k).Total - (gd L 0).Total) % 10):=by
  unfold rem
  rw [if_neg (by omega),nh (by omega)]
 rw [if_pos eb,wAf (x:=(gd L k).Total - (gd L 0).Total) (by omega) (by omega),er,hD,wAf (by omega) (by omega),if_pos (def_ k hk)]
theorem wIq (p0:List Int):wBy p0=some true:=by
 rw [wGu,show wCy p0=some ⟨p0,0,17⟩ from rfl,hD]
 obtain ⟨n,d1,e1,a0,a1,n0,n1⟩:=wMJ ⟨p0,0,17⟩ 1 6 (nj 0) (by simp only;omega) (by omega) (by omega) (by omega)
 simp only at a1
 rw [e1,hD]
 simp only
 obtain ⟨n,rfl⟩:∃ k:Nat,n=k:=⟨n.toNat,by omega⟩
 obtain ⟨⟨b,nx,st,Sk,O,H,M⟩,e2,I⟩:=wEz (n:=n) (body:=dRd) (DI d1.next) (by omega) (s0:=(d1.bytes,d1.next,d1.state,[],[],[],[])) ⟨a0,by simp,rfl,fun i hi=>by omega,rfl,rfl,rfl,fun i hi=>by omega⟩ fun k s hk I=>wNH (by omega) (by omega) I
 obtain ⟨i0,i1,sl,sk,ol,hl,ml,o⟩:=I
 simp only at i0 i1 sl sk ol hl ml o
 rw [e2,hD]
 simp only
 rw [wNI (by omega) ol hl o,hD]
 simp only
 rw [if_pos trivial,ml,wNJ (by omega) ml,wGQ]
 simp only
 rw [if_pos trivial]
 have:=wNK (n:=n) (by omega) (by omega) sl sk ml (fun i hi=>by
  obtain ⟨a,b,w,m,g1,g2,g3,g4,g5,g6,g7,_,_,g10⟩:=o i hi
  omega)
 rw [ml] at this
 exact this
end Go.Proofs.YtlmekamhphnmjaaGreat
