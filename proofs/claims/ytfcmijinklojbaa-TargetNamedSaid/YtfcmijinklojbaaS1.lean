import Derived.Test.YtfcmijinklojbaaS0
import Derived.Lib.AppendZeros
set_option linter.all false
open Bool renaming and_eq_true->hH,or_eq_true->nQ,false_eq_true->nS,not_eq_true'->nh,eq_false_iff->kC
open Nat renaming eq_of_beq_eq_true->nA,beq->nB,blt_eq->nE,le_refl->nG,le_of_ble_eq_true->nK,ble_eq->nM,le_trans->nW,blt->na,lt_of_lt_of_le->nc,le_of_mul_le_mul_right->nl,ble->kE,lt_or_ge->kG,le_mul_of_pos_right->kK,add_mul->kO,mul_le_mul_right->kR
open List.cons renaming injEq->nD
open List renaming map_cons->nH,mem_cons->nL,getElem?_cons_zero->nO,set->nR,mem_append->nT,replicate->nU,all_eq_true->nV,getD_eq_getElem?_getD->nX,nil_append->nf,eq_nil_of_length_eq_zero->ng,mem_of_getElem?->nj,cons_append->nk,getElem?_eq_getElem->no,append_assoc->nr,getElem?_map->nt,getElem?_eq_none->nu,getElem?_of_mem->nv,length->ny,length_append->kA,getElem?_append_right->kB,range->kD,map_nil->kH,mem_append_right->kQ,mem_append_left->kS,map_eq_nil_iff->kV,getElem?_take->kW,toArray_range->kX,size_toArray->kY
open Array renaming ext'->nI,range->nZ,getD_eq_getD_getElem?->ni,getElem?_replicate->kJ,replicate->kM,getElem?_toList->kP,toList_append->kU,size_append->kZ,toList_map->kc
open Option.some renaming injEq->nJ
open Int renaming ofNat_eq_natCast->nY,toNat_natCast->nq,negSucc_eq->nw,ofNat->kL
open Go.Value renaming int->nz
open Option renaming getD_none->ke,getD_some->kf,map_some->kg
namespace Go.Proofs.Ytfcmijinklojbaa
open Go.KL
structure wAD where
 bytes:List Int
 next:Int
 state:Int
deriving DecidableEq,Inhabited,Repr
structure wAA where
 Skier:Int
 Lane:Int
deriving DecidableEq,Inhabited,Repr
structure wAC where
 Shots:List Int
 Down:List Int
 Across:List wAA
deriving DecidableEq,Inhabited,Repr
structure wAE where
 Bout:wAC
 may:List (wAA × Bool)
 hits:Arr Int 64
 used:Arr Int 8
 met:Arr Bool 16
structure wAb where
 Lo:Int
 Hi:Int
deriving DecidableEq,Inhabited,Repr
def wBs (p0:List Int):Option (wAD) :=
 some (⟨p0,0,17⟩:wAD)
def wAT (p0:wAD) (p1:Int):Option (Int × wAD) :=
 if p1 <= 1 then
  some (0,p0)
 else
  if (↑p0.bytes.length:Int)=0 then
   some (0,p0)
  else
   (rem p0.next (↑p0.bytes.length:Int)).bind fun x10 =>
   (idx p0.bytes x10).bind fun x13 =>
   (quo p0.next (↑p0.bytes.length:Int)).bind fun x20 =>
   (rem (wDf ((wDf ((wDf ((wDf (p0.state * 45)) + (wDf x13))) + (wDf (77 * (wDf x20))))) + 1)) 65519).bind fun x32 =>
   if (wDf x20)=0 then
    if p1 <= 256 then
     (rem (w64 (wDf x13)) p1).bind fun x42 =>
     some (x42,(⟨p0.bytes,w64 (p0.next + 1),x32⟩:wAD))
    else
     (rem (w64 (wDf ((wDf (x32 * 256)) + (wDf x13)))) p1).bind fun x46 =>
     some (x46,(⟨p0.bytes,w64 (p0.next + 1),x32⟩:wAD))
   else
    (rem (w64 (wDf ((wDf (x32 * 256)) + (wDf x13)))) p1).bind fun x50 =>
    some (x50,(⟨p0.bytes,w64 (p0.next + 1),x32⟩:wAD))
def wAX (p0:wAD) (p1:Int) (p2:Int):Option (Int × wAD) :=
 (wAT p0 (w64 ((w64 (p2 - p1)) + 1))).bind fun (x2,x3) =>
 some (w64 (p1 + x2),x3)
def wAa (p0:wAD) (p1:Int):Option (Bool × wAD) :=
 (wAT p0 p1).bind fun (x2,x3) =>
 some (decide (x2=0),x3)
def wAY (p0:List wAA) (p1:wAA):Option (Int) :=
 jn (wGX 0 (↑p0.length:Int) (fun k6 _ =>
  (idx p0 (↑k6:Int)).bind fun x28 =>
  if p1=x28 then
   esc (some (↑k6:Int))
  else
   some (.inl ())) ()) fun _ =>
 some (-1)
def wAG (p0:List wAA) (p1:wAA):Option (Bool) :=
 (wAY p0 p1).bind fun x5 =>
 some (decide (0 <= x5))
def wBR (p0:wAD) (p1:Int):Option (wAC × (List (List Int)) × wAD) :=
 (wAX p0 1 p1).bind fun (x10,x11) =>
 (wCa 0 x10 (fun k62 (l53,x56,x57,l58) =>
  (wCa 0 x10 (fun k125 (l117,x120,x121,l122) =>
   if (↑k62:Int)=(↑k125:Int) then
    some (l117,x120,x121,l122)
   else
    (wAa (⟨l117,x120,x121⟩:wAD) 4).bind fun (x166,x167) =>
    if x166=true then
     (app 16 l122 [(⟨(↑k62:Int),(↑k125:Int)⟩:wAA)]).bind fun x187 =>
     some (x167.bytes,x167.next,x167.state,x187)
    else
     some (x167.bytes,x167.next,x167.state,l122)) (l53,x56,x57,l58)).bind fun (y130,y131,y132,y133) =>
  some (y130,y131,y132,y133)) (x11.bytes,x11.next,x11.state,[])).bind fun (y67,y68,y69,y70) =>
 (mkz 8 x10 (0:Int)).bind fun x278 =>
 (wCa 0 x10 (fun k365 (l350,x353,x354,l355,l359,l360) =>
  (wAX (⟨l350,x353,x354⟩:wAD) 3 6).bind fun (x436,x437) =>
  (app 8 l355 [x436]).bind fun x455 =>
  (mkz 8 x10 (0:Int)).bind fun x466 =>
  (chk (↑k365:Int) x455.length).bind fun _ =>
  (wCa 0 (gd x455 k365) (fun k509 (l502,x505,x506,l507,l508) =>
   ((wAa (⟨l502,x505,x506⟩:wAD) 4).bind fun (x554,x555) =>
   if x554=true then
    (wAT x555 x10).bind fun (x570,x571) =>
    (chk x570 l507.length).bind fun _ =>
    if (gd l507 x570.toNat) < 5 then
     (wAa x571 4).bind fun (x589,x590) =>
     if x589=true then
      some (x590.bytes,x590.next,x590.state,l507,l508)
     else
      if x570=(↑k365:Int) then
       (chk x570 l508.length).bind fun _ =>
       some (x590.bytes,x590.next,x590.state,(nR l507 x570.toNat (w64 ((gd l507 x570.toNat) + 1))),(nR l508 x570.toNat (w64 ((gd l508 x570.toNat) + 1))))
      else
       (wAG y70 (⟨(↑k365:Int),x570⟩:wAA)).bind fun x656 =>
       if x656=true then
        (chk x570 l508.length).bind fun _ =>
        some (x590.bytes,x590.next,x590.state,(nR l507 x570.toNat (w64 ((gd l507 x570.toNat) + 1))),(nR l508 x570.toNat (w64 ((gd l508 x570.toNat) + 1))))
       else
        some (x590.bytes,x590.next,x590.state,l507,l508)
    else
     some (x571.bytes,x571.next,x571.state,l507,l508)
   else
    (chk (↑k365:Int) l507.length).bind fun _ =>
    if (gd l507 k365) < 5 then
     (wAa x555 4).bind fun (x726,x727) =>
     if x726=true then
      some (x727.bytes,x727.next,x727.state,l507,l508)
     else
      if (↑k365:Int)=(↑k365:Int) then
       (chk (↑k365:Int) l508.length).bind fun _ =>
       some (x727.bytes,x727.next,x727.state,(nR l507 k365 (w64 ((gd l507 k365) + 1))),(nR l508 k365 (w64 ((gd l508 k365) + 1))))
      else
       (wAG y70 (⟨(↑k365:Int),(↑k365:Int)⟩:wAA)).bind fun x778 =>
       if x778=true then
        (chk (↑k365:Int) l508.length).bind fun _ =>
        some (x727.bytes,x727.next,x727.state,(nR l507 k365 (w64 ((gd l507 k365) + 1))),(nR l508 k365 (w64 ((gd l508 k365) + 1))))
       else
        some (x727.bytes,x727.next,x727.state,l507,l508)
    else
     some (x555.bytes,x555.next,x555.state,l507,l508)).bind fun (l544,x547,x548,l549,l550) =>
   some (l544,x547,x548,l549,l550)) (x437.bytes,x437.next,x437.state,l359,x466)).bind fun (y514,y515,y516,y517,y518) =>
  (app 24 l360 [y518]).bind fun x895 =>
  some (y514,y515,y516,x455,y517,x895)) (y67,y68,y69,[],x278,[])).bind fun (y370,y371,y372,y373,y374,y375) =>
 some ((⟨y373,y374,y70⟩:wAC),y375,(⟨y370,y371,y372⟩:wAD))
def wAs (p0:wAD) (p1:Int):Option ((List Int) × wAD) :=
 (wCa 0 (max 0 p1) (fun k19 l15 =>
  (app 8 l15 [(↑k19:Int)]).bind fun x47 =>
  some x47) []).bind fun y24 =>
 iter (fun (l95,x98,x99,l100,x101) =>
  if 0 < x101 then
   (wAT (⟨l95,x98,x99⟩:wAD) (w64 (x101 + 1))).bind fun (x120,x121) =>
   (chk x120 l100.length).bind fun _ =>
   (chk x101 l100.length).bind fun _ =>
   (chk x120 (nR l100 x101.toNat (gd l100 x120.toNat)).length).bind fun _ =>
   some (.inl (x121.bytes,x121.next,x121.state,(nR (nR l100 x101.toNat (gd l100 x120.toNat)) x120.toNat (gd l100 x101.toNat)),w64 (x101 - 1)))
  else
   esc (some (l100,(⟨l95,x98,x99⟩:wAD)))) big (p0.bytes,p0.next,p0.state,y24,w64 ((↑y24.length:Int) - 1))
def wAK (p0:List Int) (p1:Int):Option (Int) :=
 jn (wGX 0 (↑p0.length:Int) (fun k2 _ =>
  (idx p0 (↑k2:Int)).bind fun x22 =>
  if p1=x22 then
   esc (some (↑k2:Int))
  else
   some (.inl ())) ()) fun _ =>
 some (-1)
def wAc (p0:Int) (p1:Int) (p2:Int):Option (Bool) :=
 if p1 <= p0 then
  some (decide (p0 <= p2))
 else
  some false
def wBE (p0:Int) (p1:(Int->Option Bool)):Option (Bool) :=
 (p1 p0).bind fun x1 =>
 some (!x1)
def wBB (p0:List Int) (p1:(Int->Option Bool)):Option (Int) :=
 jn (wGX 0 (↑p0.length:Int) (fun k2 _ =>
  (idx p0 (↑k2:Int)).bind fun x22 =>
  (p1 x22).bind fun x30 =>
  if x30=true then
   esc (some (↑k2:Int))
  else
   some (.inl ())) ()) fun _ =>
 some (-1)
def wAu (p0:List Int) (p1:(Int->Option Bool)):Option (Bool) :=
 (wBB p0 p1).bind fun x1 =>
 some (decide (0 <= x1))
def wBV (p0:List Int) (p1:(Int->Option Bool)):Option (Bool) :=
 (wAu p0 (fun x=>wBE x p1)).bind fun x13 =>
 some (!x13)
def wBH (p0:Int):Option (Bool) :=
 (wAc p0 0 8).bind fun x1 =>
 some x1
def wBI (p0:Int):Option (Bool) :=
 (wAc p0 0 5).bind fun x1 =>
 some x1
def wBJ (p0:wAA) (p1:Int):Option (Bool) :=
 (wAc p0.Skier 0 (w64 (p1 - 1))).bind fun x5 =>
 if x5=true then
  (wAc p0.Lane 0 (w64 (p1 - 1))).bind fun x18 =>
  if x18=true then
   some (decide (¬ (p0.Skier=p0.Lane)))
  else
   some false
 else
  some false
def wAe (p0:wAA) (p1:(wAA->Option Bool)):Option (Bool) :=
 (p1 p0).bind fun x5 =>
 some (!x5)
def wAS (p0:List wAA) (p1:(wAA->Option Bool)):Option (Int) :=
 jn (wGX 0 (↑p0.length:Int) (fun k2 _ =>
  (idx p0 (↑k2:Int)).bind fun x22 =>
  (p1 x22).bind fun x30 =>
  if x30=true then
   esc (some (↑k2:Int))
  else
   some (.inl ())) ()) fun _ =>
 some (-1)
def wAP (p0:List wAA) (p1:(wAA->Option Bool)):Option (Bool) :=
 (wAS p0 p1).bind fun x1 =>
 some (decide (0 <= x1))
def wAv (p0:List wAA) (p1:(wAA->Option Bool)):Option (Bool) :=
 (wAP p0 (fun x=>wAe x p1)).bind fun x13 =>
 some (!x13)
def wCN (p0:wAA) (p1:wAA):Option (Bool) :=
 if p0.Skier < p1.Skier then
  some true
 else
  if p0.Skier=p1.Skier then
   some (decide (p0.Lane < p1.Lane))
  else
   some false
def wCB (p0:wAC):Option (Int) :=
 (wAc (↑p0.Shots.length:Int) 1 8).bind fun x12 =>
 if x12=true then
  if (↑p0.Down.length:Int)=(↑p0.Shots.length:Int) then
   (wBV p0.Shots wBH).bind fun x28 =>
   if x28=true then
    (wBV p0.Down wBI).bind fun x43 =>
    if x43=true then
     (wAv p0.Across (fun x=>wBJ x (↑p0.Shots.length:Int))).bind fun x65 =>
     if x65=true then
      iter (fun x80 =>
       if x80 < (↑p0.Across.length:Int) then
        (idx p0.Across (w64 (x80 - 1))).bind fun x97 =>
        (idx p0.Across x80).bind fun x106 =>
        (wCN x97 x106).bind fun x113 =>
        if x113=true then
         some (.inl (w64 (x80 + 1)))
        else
         esc (some 4)
       else
        esc (some 0)) big 1
     else
      some 1
    else
     some 3
   else
    some 3
  else
   some 2
 else
  some 2
def wAt (p0:wAC):Option (wAE) :=
 (wCa 0 (↑p0.Shots.length:Int) (fun k28 l25 =>
  some (mput l25 (⟨(↑k28:Int),(↑k28:Int)⟩:wAA) true)) ([]:List (wAA × Bool))).bind fun y33 =>
 (wCa 0 (↑p0.Across.length:Int) (fun k90 l87 =>
  (idx p0.Across (↑k90:Int)).bind fun x112 =>
  some (mput l87 x112 true)) y33).bind fun y95 =>
 some (⟨p0,y95,(⟨[0,0,0,0,0,0,0,0,0,0,0,0,0,0,0,0,0,0,0,0,0,0,0,0,0,0,0,0,0,0,0,0,0,0,0,0,0,0,0,0,0,0,0,0,0,0,0,0,0,0,0,0,0,0,0,0,0,0,0,0,0,0,0,0],rfl⟩:Arr Int 64),(⟨[0,0,0,0,0,0,0,0],rfl⟩:Arr Int 8),(⟨[false,false,false,false,false,false,false,false,false,false,false,false,false,false,false,false],rfl⟩:Arr Bool 16)⟩:wAE)
def wBk (p0:wAC):Option ((Option wAE) × Int) :=
 (wCB p0).bind fun x5 =>
 if x5=0 then
  (wAt p0).bind fun x20 =>
  some ((some x20),0)
 else
  some (none,x5)
def wAk (p0:wAE) (p1:Int) (p2:Int):Option (Bool) :=
 some (wEI p0.may (⟨p1,p2⟩:wAA) false)
def wAV {S E:Type} (f:S->Int->Option (S ⊕ E)) (s0:S) (p1:wAE) (p2:Unit) (p3:Int):Option (S ⊕ E) :=
 jn (wGX 0 (↑p1.Bout.Down.length:Int) (fun k19 s17 =>
  (wAk p1 p3 (↑k19:Int)).bind fun x55 =>
  if x55=true then
   (f s17 (↑k19:Int)).bind fun yr64 =>
   match yr64 with
   | .inl s74 =>
    some (.inl s74)
   | .inr s74 =>
    esc (some (.inr s74))
  else
   some (.inl s17)) s0) fun y91 =>
 some (.inl y91)
def wAh (p0:Unit) (p1:Int):Option (Unit) :=
 some ()
def wAy (rec_:Int->wAE->Unit->Option (Bool × (Arr Int 64 × Arr Int 8 × Arr Bool 16))) (p0:Int) (p1:wAE) (p2:Unit):Option (Bool × (Arr Int 64 × Arr Int 8 × Arr Bool 16)) :=
 (chk p0 8).bind fun _ =>
 jn (wGX 0 (↑p1.Bout.Shots.length:Int) (fun k39 (a36,a37,a38) =>
  (chk (↑k39:Int) 8).bind fun _ =>
  if (a38.get k39)=true then
   some (.inl (a36,a37,a38))
  else
   (wAk (⟨p1.Bout,p1.may,a36,a37,a38⟩:wAE) (↑k39:Int) p0).bind fun x84 =>
   if x84=true then
    (idx p1.Bout.Shots (↑k39:Int)).bind fun x107 =>
    if (a37.get k39) < x107 then
     esc (some (true,((a36.set (k39 * 8 + p0.toNat) (w64 ((a36.get (k39 * 8 + p0.toNat)) + 1))),(a37.set k39 (w64 ((a37.get k39) + 1))),(a38.set k39 true))))
    else
     (wAh () (↑k39:Int)).bind fun _ =>
     (wAV (S:=(Arr Int 64) × (Arr Int 8) × (Arr Bool 16)) (E:=(Arr Int 64) × (Arr Int 8) × (Arr Bool 16) × Bool) (fun (a303,a304,a305) x332 =>
      if x332=p0 then
       some (.inl (a303,a304,a305))
      else
       (chk x332 8).bind fun _ =>
       if 0 < (a303.get (k39 * 8 + x332.toNat)) then
        (rec_ x332 (⟨p1.Bout,p1.may,a303,a304,a305⟩:wAE) ()).bind fun (x383,x384) =>
        if x383=true then
         some (.inr (((x384.1.set (k39 * 8 + x332.toNat) (w64 ((x384.1.get (k39 * 8 + x332.toNat)) - 1))).set (k39 * 8 + p0.toNat) (w64 (((x384.1.set (k39 * 8 + x332.toNat) (w64 ((x384.1.get (k39 * 8 + x332.toNat)) - 1))).get (k39 * 8 + p0.toNat)) + 1))),x384.2.1,x384.2.2,true))
        else
         some (.inl (x384.1,x384.2.1,x384.2.2))
       else
        some (.inl (a303,a304,a305))) (a36,a37,(a38.set k39 true)) (⟨p1.Bout,p1.may,a36,a37,(a38.set k39 true)⟩:wAE) () (↑k39:Int)).bind fun rr321 =>
     match rr321 with
     | .inl (y439,y440,y441) =>
      some (.inl (y439,y440,y441))
     | .inr (y442,y443,y444,y445) =>
      esc (some (y445,(y442,y443,y444)))
   else
    some (.inl (a36,a37,a38))) (p1.hits,p1.used,(p1.met.set (8 + p0.toNat) true))) fun (y471,y472,y473) =>
 some (false,(y471,y472,y473))
def wAR:Nat->Int->wAE->Unit->Option (Bool × (Arr Int 64 × Arr Int 8 × Arr Bool 16))
 | 0=>fun _ _ _=>none
 | n_ + 1=>wAy (wAR n_)
def wAn (p0:wAE):Option ((List Int)) :=
 (wCa 0 (↑p0.Bout.Down.length:Int) (fun k20 l16 =>
  (chk (↑k20:Int) 8).bind fun _ =>
  if (p0.met.get (8 + k20))=true then
   (app 8 l16 [(↑k20:Int)]).bind fun x53 =>
   some x53
  else
   some l16) []).bind fun y25 =>
 some y25
def wAO (p0:wAE):Option ((List Int) × (Arr Int 64 × Arr Int 8 × Arr Bool 16)) :=
 jn (wGX 0 (↑p0.Bout.Down.length:Int) (fun k39 (a36,a37,a38) =>
  (idx p0.Bout.Down (↑k39:Int)).bind fun x60 =>
  jn (wGX 0 x60 (fun k84 (a81,a82,a83) =>
   (wAR 1000 (↑k39:Int) (⟨p0.Bout,p0.may,a81,a82,(Arr.fill 16 false)⟩:wAE) ()).bind fun (x125,x126) =>
   if x125=true then
    some (.inl (x126.1,x126.2.1,x126.2.2))
   else
    (wAn (⟨p0.Bout,p0.may,x126.1,x126.2.1,x126.2.2⟩:wAE)).bind fun x146 =>
    esc (esc ((wKq x146).bind fun x165 =>
    some (x146,(x126.1,x126.2.1,x126.2.2))))) (a36,a37,a38)) fun (y172,y173,y174) =>
  some (.inl (y172,y173,y174))) (p0.hits,p0.used,p0.met)) fun (y194,y195,y196) =>
 some ([],(y194,y195,y196))
def wBZ (p0:wAC):Option ((Option wAE) × Int) :=
 (wBk p0).bind fun (x5,x6) =>
 match x5 with
 | none =>
  if x6=0 then
   none
  else
   some (none,x6)
 | some x26 =>
  if x6=0 then
   (wAO x26).bind fun (x40,x41) =>
   if x40=[] then
    some ((some (⟨x26.Bout,x26.may,x41.1,x41.2.1,x41.2.2⟩:wAE)),x6)
   else
    some ((some (⟨x26.Bout,x26.may,x41.1,x41.2.1,x41.2.2⟩:wAE)),7)
  else
   some ((some x26),x6)
def wAL (p0:List Int):Option ((List Int)) :=
 (app 8 ([]:List Int) p0).bind fun x11 =>
 some x11
def wBl (p0:Int) (p1:List Int):Option (Int) :=
 (wCa 0 (↑p1.length:Int) (fun k7 x6 =>
  (idx p1 (↑k7:Int)).bind fun x28 =>
  some (min x6 x28)) p0).bind fun y12 =>
 some y12
def wBa (p0:wAC):Option ((List wAb) × Int) :=
 (wBZ p0).bind fun (x7,x8) =>
 match x7 with
 | none =>
  if x8=0 then
   none
  else
   some ([],x8)
 | some x28 =>
  if x8=0 then
   (wCa 0 (↑x28.Bout.Shots.length:Int) (fun k82 l78 =>
    (idx x28.Bout.Shots (↑k82:Int)).bind fun x106 =>
    (wAh () (↑k82:Int)).bind fun _ =>
    (wAV (S:=Int) (E:=Empty) (fun x182 x195 =>
     (idx x28.Bout.Down x195).bind fun x227 =>
     some (.inl (w64 (x182 + x227)))) 0 x28 () (↑k82:Int)).bind fun rr184 =>
    match rr184 with
    | .inl y245 =>
     (iter (fun x257 =>
      if x257 < x106 then
       (wAL x28.Bout.Shots).bind fun x281 =>
       (chk (↑k82:Int) x281.length).bind fun _ =>
       (wAt (⟨(nR x281 k82 x257),x28.Bout.Down,x28.Bout.Across⟩:wAC)).bind fun x317 =>
       (wAO x317).bind fun (x343,x344) =>
       if x343=[] then
        esc (some x257)
       else
        some (.inl (w64 (x257 + 1)))
      else
       esc (some x257)) big 0).bind fun x250 =>
     (wBl x106 [y245]).bind fun x395 =>
     (app 16 l78 [(⟨w64 (x106 - x395),w64 (x106 - x250)⟩:wAb)]).bind fun x410 =>
     some x410
    | .inr e246 =>
     e246.elim) []).bind fun y87 =>
   some (y87,0)
  else
   some ([],x8)
def wBX (p0:wAE) (p1:Int) (p2:Int):Option (Int) :=
 (wAk p0 p1 p2).bind fun x3 =>
 if x3=true then
  (idx p0.Bout.Shots p1).bind fun x17 =>
  (idx p0.Bout.Down p2).bind fun x25 =>
  (wBl x17 [x25]).bind fun x43 =>
  some x43
 else
  some 0
def wAw (p0:wAE) (p1:Int) (p2:Int) (p3:Int):Option (wAE) :=
 (wAL p0.Bout.Shots).bind fun x5 =>
 (wAL p0.Bout.Down).bind fun x19 =>
 (chk p1 x5.length).bind fun _ =>
 (chk p2 x19.length).bind fun _ =>
 (wAt (⟨(nR x5 p1.toNat (w64 ((gd x5 p1.toNat) - p3))),(nR x19 p2.toNat (w64 ((gd x19 p2.toNat) - p3))),p0.Bout.Across⟩:wAC)).bind fun x65 =>
 some (⟨x65.Bout,(mdel x65.may (⟨p1,p2⟩:wAA)),x65.hits,x65.used,x65.met⟩:wAE)
def wAz (p0:wAE) (p1:Int) (p2:Int):Option (wAb) :=
 (wBX p0 p1 p2).bind fun x14 =>
 (wCa 0 (w64 (x14 + 1)) (fun k35 (x33,x34) =>
  (wAw p0 p1 p2 (↑k35:Int)).bind fun x66 =>
  (wAO x66).bind fun (x92,x93) =>
  if x92=[] then
   if x33 < 0 then
    some ((↑k35:Int),(↑k35:Int))
   else
    some (x33,(↑k35:Int))
  else
   some (x33,x34)) (-1,0)).bind fun (y40,y41) =>
 some (⟨y40,y41⟩:wAb)
def wBW (p0:wAC):Option ((List wAA) × Int) :=
 (wBZ p0).bind fun (x5,x6) =>
 match x5 with
 | none =>
  if x6=0 then
   none
  else
   some ([],x6)
 | some x26 =>
  if x6=0 then
   (wCa 0 (↑x26.Bout.Across.length:Int) (fun k59 l55 =>
    (idx x26.Bout.Across (↑k59:Int)).bind fun x83 =>
    (wAz x26 x83.Skier x83.Lane).bind fun x100 =>
    if 0 < x100.Lo then
     (app 16 l55 [x83]).bind fun x118 =>
     some x118
    else
     some l55) []).bind fun y64 =>
   some (y64,0)
  else
   some ([],x6)
def wCE (p0:wAC) (p1:Int) (p2:Int):Option ((Option wAE) × Int) :=
 (wBk p0).bind fun (x5,x6) =>
 match x5 with
 | none =>
  if x6=0 then
   (wAc p1 0 (w64 ((↑p0.Shots.length:Int) - 1))).bind fun x30 =>
   if x30=true then
    (wAc p2 0 (w64 ((↑p0.Down.length:Int) - 1))).bind fun x42 =>
    if x42=true then
     none
    else
     some (none,1)
   else
    some (none,1)
  else
   some (none,x6)
 | some x26 =>
  if x6=0 then
   (wAc p1 0 (w64 ((↑p0.Shots.length:Int) - 1))).bind fun x66 =>
   if x66=true then
    (wAc p2 0 (w64 ((↑p0.Down.length:Int) - 1))).bind fun x78 =>
    if x78=true then
     (wAO x26).bind fun (x96,x97) =>
     if x96=[] then
      some ((some (⟨x26.Bout,x26.may,x97.1,x97.2.1,x97.2.2⟩:wAE)),0)
     else
      some (none,7)
    else
     some (none,1)
   else
    some (none,1)
  else
   some (none,x6)
def wBM (p0:wAC) (p1:Int) (p2:Int):Option (wAb × Int) :=
 (wCE p0 p1 p2).bind fun (x9,x10) =>
 match x9 with
 | none =>
  if x10=0 then
   none
  else
   some ((⟨0,0⟩:wAb),x10)
 | some x30 =>
  if x10=0 then
   (wAz x30 p1 p2).bind fun x47 =>
   some (x47,0)
  else
   some ((⟨0,0⟩:wAb),x10)
def wBw:Option Bool:=some true
def wBC (p0:List Int) (p1:List Int):Option (Bool) :=
 (wBs p0).bind fun x1 =>
 (wBR x1 6).bind fun (x16,x17,x18) =>
 (wBs p1).bind fun x54 =>
 (wAs x54 (↑x16.Shots.length:Int)).bind fun (x69,x70) =>
 ((mkz 8 (↑x16.Shots.length:Int) (0:Int)).bind fun x97 =>
 (mkz 8 (↑x16.Shots.length:Int) (0:Int)).bind fun x105 =>
 some (x105,x105)).bind fun (l88,l91) =>
 (wCa 0 (↑x69.length:Int) (fun k297 (l295,l296) =>
  (chk (↑k297:Int) x69.length).bind fun _ =>
  (chk (↑k297:Int) x16.Shots.length).bind fun _ =>
  (chk (↑k297:Int) x16.Down.length).bind fun _ =>
  (chk (gd x69 k297) l295.length).bind fun _ =>
  (chk (gd x69 k297) l296.length).bind fun _ =>
  some ((nR l295 (gd x69 k297).toNat (gd x16.Shots k297)),(nR l296 (gd x69 k297).toNat (gd x16.Down k297)))) (l88,l91)).bind fun (y302,y303) =>
 (wCa 0 (↑x16.Shots.length:Int) (fun k444 l440 =>
  (wCa 0 (↑x16.Shots.length:Int) (fun k483 l480 =>
   (wAK x69 (↑k444:Int)).bind fun x513 =>
   (wAK x69 (↑k483:Int)).bind fun x524 =>
   (wAG x16.Across (⟨x513,x524⟩:wAA)).bind fun x543 =>
   if x543=true then
    (app 16 l480 [(⟨(↑k444:Int),(↑k483:Int)⟩:wAA)]).bind fun x560 =>
    some x560
   else
    some l480) l440).bind fun y488 =>
  some y488) []).bind fun y449 =>
 (wBa x16).bind fun (x639,x640) =>
 (wBa (⟨y302,y303,y449⟩:wAC)).bind fun (x671,x672) =>
 (wBW x16).bind fun (x700,x701) =>
 (wBW (⟨y302,y303,y449⟩:wAC)).bind fun (x720,x721) =>
 if x640=0 then
  if x672=0 then
   if x701=0 then
    if x721=0 then
     if (↑x639.length:Int)=(↑x16.Shots.length:Int) then
      if (↑x671.length:Int)=(↑x16.Shots.length:Int) then
       if (↑x700.length:Int)=(↑x720.length:Int) then
        jn (wGX 0 (↑x16.Shots.length:Int) (fun k764 _ =>
         (chk (↑k764:Int) x639.length).bind fun _ =>
         (idx x69 (↑k764:Int)).bind fun x797 =>
         (chk x797 x671.length).bind fun _ =>
         if (gd x639 k764)=(gd x671 x797.toNat) then
          jn (wGX 0 (↑x16.Shots.length:Int) (fun k824 _ =>
           (wBM x16 (↑k764:Int) (↑k824:Int)).bind fun (x865,x866) =>
           ((idx x69 (↑k824:Int)).bind fun x897 =>
           (wBM (⟨y302,y303,y449⟩:wAC) x797 x897).bind fun (x916,x917) =>
           some (x916.Lo,x916.Hi,x917)).bind fun (x885,x886,x887) =>
           if x866=0 then
            if x887=0 then
             if x865=(⟨x885,x886⟩:wAb) then
              some (.inl ())
             else
              esc (esc (some false))
            else
             esc (esc (some false))
           else
            esc (esc (some false))) ()) fun _ =>
          some (.inl ())
         else
          esc (some false)) ()) fun _ =>
        jn (wGX 0 (↑x700.length:Int) (fun k1114 _ =>
         (chk (↑k1114:Int) x700.length).bind fun _ =>
         if ((gd x700 k1114).Skier) < 0 then
          esc (some false)
         else
          if (↑x16.Shots.length:Int) <= ((gd x700 k1114).Skier) then
           esc (some false)
          else
           if ((gd x700 k1114).Lane) < 0 then
            esc (some false)
           else
            if (↑x16.Shots.length:Int) <= ((gd x700 k1114).Lane) then
             esc (some false)
            else
             (idx x69 ((gd x700 k1114).Skier)).bind fun x1174 =>
             (idx x69 ((gd x700 k1114).Lane)).bind fun x1194 =>
             (wAG x720 (⟨x1174,x1194⟩:wAA)).bind fun x1202 =>
             if x1202=true then
              some (.inl ())
             else
              esc (some false)) ()) fun _ =>
        (wBw).bind fun x1232 =>
        some x1232
       else
        some false
      else
       some false
     else
      some false
    else
     some false
   else
    some false
  else
   some false
 else
  some false
end Go.Proofs.Ytfcmijinklojbaa
namespace Go.KL
open Go.RowKit
open Go.KX (LoopAt Yd wKn Dfr wKp retM)
def mks (rbs:List Nat):Res:=.abs (fun b=>b ∈ rbs) fun w=>rbs.Nodup/\∀ rb ∈ rbs,w.heap[rb]?=some (.deferred (some []))
section
variable {B:Base} {U U':PHeap} {L:List Res} {w w':World}
theorem wNI {rbs:List Nat} (hn:rbs.Nodup) (h:∀ rb ∈ rbs,w.heap[rb]?=some (.deferred (some []))):(mks rbs).At w :=
 ⟨⟨hn,h⟩,fun b hb=>wAM (h b hb),fun w2 h2=>⟨hn,fun rb hr=>(h2 rb hr).trans (h rb hr)⟩⟩
theorem St.mks0 (h:St B U L w):St B U (mks [] :: L) w:=h.addNone (wNI List.nodup_nil fun rb h=>by cases h) fun b (hb:b ∈ ([]:List Nat))=>by cases hb
theorem St.mksAdd {rbs:List Nat} {rb:Nat} (h:St B U (mks rbs :: .obj rb (.deferred (some [])) :: L) w):St B U (mks (rb :: rbs) :: L) w:=by
 have h1:(mks rbs).At w:=h.at_ _ (by simp)
 have h2:w.heap[rb]?=some (.deferred (some [])):=h.at_ (.obj rb (.deferred (some []))) (by simp)
 have hnot:rb ∉ rbs:=fun hm=>by have:=h.dj 0 1 (mks rbs) (.obj rb (.deferred (some []))) rb rfl rfl hm rfl;omega
 have hown:∀ b,(mks (rb :: rbs)).has b->U b=none/\B.mine b:=fun b hb=>by
  rcases nL.1 (show b ∈ rb :: rbs from hb) with rfl | hb
  ·exact h.own (.obj b (.deferred (some []))) (by simp) b rfl
  ·exact h.own (mks rbs) (by simp) b hb
 have hoth:∀ (j:Nat) (s:Res) (b:Nat),L[j]?=some s->s.has b->¬ (mks (rb :: rbs)).has b:=fun j s b hj hs hb=>by
  rcases nL.1 (show b ∈ rb :: rbs from hb) with rfl | hb
  ·have:=h.dj 1 (j + 2) (.obj b (.deferred (some []))) s b rfl hj rfl hs;omega
  ·have:=h.dj 0 (j + 2) (mks rbs) s b rfl hj hb hs;omega
 refine ⟨h.os,h.tape,h.output,h.size,h.old,h.fro,h.le,h.src,fun r hr=>?_,fun r hr=>?_,fun i j r s b hi hj hr hs=>?_⟩
 ·rcases nL.1 hr with rfl | hr
  ·exact wNI (List.nodup_cons.2 ⟨hnot,h1.1.1⟩) fun x hx=>by
    rcases nL.1 hx with rfl | hx
    ·exact h2
    ·exact h1.1.2 x hx
  ·exact h.at_ r (by simp [hr])
 ·rcases nL.1 hr with rfl | hr
  ·exact hown
  ·exact h.own r (by simp [hr])
 ·cases i with
  | zero =>
   simp only [nO,nJ] at hi;subst hi
   cases j with
   | zero=>rfl
   | succ j=>exact absurd hr (hoth j s b (by simpa using hj) hs)
  | succ i =>
   cases j with
   | zero=>simp only [nO,nJ] at hj;subst hj;exact absurd hs (hoth i r b (by simpa using hi) hr)
   | succ j=>have:=h.dj (i + 2) (j + 2) r s b (by simpa using hi) (by simpa using hj) hr hs;omega
theorem St.outK {rbs:List Nat} (h:St B U (mks rbs :: L) w) (K:Keep w w' (· ∈ rbs)):St B U L w':=by
 have h0:St B U L w:=h.drop 0
 refine h0.keepX K (fun b hb=>h.own (mks rbs) (by simp) b hb) fun r hr b hb hm=>?_
 obtain ⟨i,hi⟩:=nv hr
 have:=h.dj 0 (i + 1) (mks rbs) r b rfl (by simpa using hi) hm hb
 omega
end
section
variable {P:Program} {σ:Env} {B:Base} {U:PHeap} {L:List Res} {w:World}
theorem wDv {rs:Array ResultVar} {R:Value->World->Prop} {rbs:List Nat} {e:Exit} (he:e=.normal \/ e=.ret) (hS:St B U (mks rbs :: L) w)
  (k:∀ w',St B U L w'->∃ v,(wCI rs σ).run P w'=.ok v w'/\R v w'):retM P rs R (rbs.map Go.KX.mark) e σ w:=by
 have h1:(mks rbs).At w:=hS.at_ _ (by simp)
 have fin:∃ rbs':List Nat,rbs.map Go.KX.mark=rbs'.map Go.KX.mark/\rbs'.Nodup/\(∀ rb ∈ rbs',Dfr w rb)/\∀ w',Keep w w' (· ∈ rbs')->w'.heap.size=w.heap.size->∃ v,(wCI rs σ).run P w'=.ok v w'/\R v w' :=
  ⟨rbs,rfl,h1.1.1,h1.1.2,fun w' K _=>k w' (hS.outK K)⟩
 rcases he with rfl | rfl
 ·exact fin
 ·exact fin
end
section
variable {r:Option Nat} {N:Nat} {P:Program} {Q:wCZ} {D:List Deferred} {σ:Env} {w:World}
theorem CK.cutD {x y:Code} (M:List Deferred->Env->World->Prop) (h1:CK r N P x (wDC M Q) D σ w)
  (h2:∀ D σ w,M D σ w->CK r N P y Q D σ w):CK r N P (.seq x y) Q D σ w:=by
 refine CK.seq (h1.mono ?_)
 intro D' e σ w q
 cases e with
 | normal=>exact h2 _ _ _ q
 | _=>exact q
theorem CK.loopMD {c:Code} (I:Nat->List Deferred->Env->World->Prop) {m:Nat} (h0:I m D σ w)
  (h:∀ m D σ w,I m D σ w->CK r N P c (wDC (fun D' σ' w'=>∃ m',m' < m/\I m' D' σ' w') Q) D σ w):CK r N P (.loop c) Q D σ w:=by
 have key:∀ M m D σ w,m < M->I m D σ w->∀ a,Rep N D a σ->Code.roundsIn (WF r) 0 P c (wGN N Q) M a w:=by
  intro M
  induction M with
  | zero=>intro m _ _ _ hm;omega
  | succ M ih =>
   intro m D σ w hm hI a ha
   rw [roundsIn_succ]
   refine wpIn_mono (h m D σ w hI a ha) ?_
   rintro e a' w' ⟨σ',D',hr,q⟩
   cases e with
   | normal =>
    obtain ⟨m',hlt,hI'⟩:=q
    exact ih m' D' σ' w' (by omega) hI' a' hr
   | _=>exact ⟨σ',D',hr,q⟩
 exact fun a ha=>wpIn_loop_rounds (m + 1) (key (m + 1) m D σ w (by omega) h0 a ha)
theorem CK.forND {S B:Type} {c:Code} {body:Nat->S->Option (S ⊕ B)} {n:Nat} {s0:S} {b:S ⊕ B} (I:Nat->S->List Deferred->Env->World->Prop) (hm:KL.forN body n 0 s0=some b) (h0:I 0 s0 D σ w)
  (hs:∀ k s x D σ w,k < n->I k s D σ w->body k s=some x->(∀ b',x=.inr b'->b=.inr b')->CK r N P c (wDC (fun D' σ' w'=>∃ s',x=.inl s'/\I (k + 1) s' D' σ' w') Q) D σ w)
  (he:∀ s D σ w,I n s D σ w->b=.inl s->CK r N P c (wDC (fun _ _ _=>False) Q) D σ w):CK r N P (.loop c) Q D σ w:=by
 refine CK.loopMD (fun m D σ w=>∃ k s,k + m=n/\KL.forN body m k s=some b/\I k s D σ w) (m:=n) ⟨0,s0,by omega,hm,h0⟩ ?_
 rintro m D σ w ⟨k,s,hk,hf,hI⟩
 cases m with
 | zero =>
  have e:k=n:=by omega
  subst e
  simp only [KL.forN,nJ] at hf
  refine (he s D σ w hI hf.symm).mono fun D' e σ' w' hq=>?_
  cases e with
  | normal=>exact hq.elim
  | _=>exact hq
 | succ m =>
  rw [KL.forN] at hf
  cases hx:body k s with
  | none=>rw [hx] at hf;cases hf
  | some x =>
   rw [hx] at hf
   refine (hs k s x D σ w (by omega) hI hx ?_).mono fun D' e σ' w' hq=>?_
   ·rintro b' rfl;injection hf with hf;exact hf.symm
   ·cases e with
    | normal =>
     obtain ⟨s',rfl,hI'⟩:=hq
     exact ⟨m,by omega,k + 1,s',by omega,hf,hI'⟩
    | _=>exact hq
theorem CK.forN'D {S:Type} {c:Code} {body:Nat->S->Option S} {n:Nat} {s0 b:S} (I:Nat->S->List Deferred->Env->World->Prop) (hm:KL.forN' body n 0 s0=some b) (h0:I 0 s0 D σ w)
  (hs:∀ k s x D σ w,k < n->I k s D σ w->body k s=some x->CK r N P c (wDC (fun D' σ' w'=>I (k + 1) x D' σ' w') Q) D σ w)
  (he:∀ D σ w,I n b D σ w->CK r N P c (wDC (fun _ _ _=>False) Q) D σ w):CK r N P (.loop c) Q D σ w:=by
 refine CK.loopMD (fun m D σ w=>∃ k s,k + m=n/\KL.forN' body m k s=some b/\I k s D σ w) (m:=n) ⟨0,s0,by omega,hm,h0⟩ ?_
 rintro m D σ w ⟨k,s,hk,hf,hI⟩
 cases m with
 | zero =>
  have e:k=n:=by omega
  subst e
  simp only [KL.forN',nJ] at hf
  subst hf
  refine (he D σ w hI).mono fun D' e σ' w' hq=>?_
  cases e with
  | normal=>exact hq.elim
  | _=>exact hq
 | succ m =>
  rw [KL.forN'] at hf
  cases hx:body k s with
  | none=>rw [hx] at hf;cases hf
  | some x =>
   rw [hx] at hf
   refine (hs k s x D σ w (by omega) hI hx).mono fun D' e σ' w' hq=>?_
   cases e with
   | normal=>exact ⟨m,by omega,k + 1,x,by omega,hf,hq⟩
   | _=>exact hq
theorem CK.iterD {S B:Type} {c:Code} {body:S->Option (S ⊕ B)} {n:Nat} {s0:S} {b:B} (I:S->List Deferred->Env->World->Prop) (hm:KL.iter body n s0=some b) (h0:I s0 D σ w)
  (hs:∀ s x D σ w,I s D σ w->body s=some x->(∀ b',x=.inr b'->b=b')->CK r N P c (wDC (fun D' σ' w'=>∃ s',x=.inl s'/\I s' D' σ' w') Q) D σ w):CK r N P (.loop c) Q D σ w:=by
 refine CK.loopMD (fun m D σ w=>∃ s,KL.iter body m s=some b/\I s D σ w) (m:=n) ⟨s0,hm,h0⟩ ?_
 rintro m D σ w ⟨s,hf,hI⟩
 cases m with
 | zero=>cases hf
 | succ m =>
  rw [KL.iter] at hf
  cases hx:body s with
  | none=>rw [hx] at hf;cases hf
  | some x =>
   rw [hx] at hf
   refine (hs s x D σ w hI hx ?_).mono fun D' e σ' w' hq=>?_
   ·rintro b' rfl;injection hf with hf;exact hf.symm
   ·cases e with
    | normal =>
     obtain ⟨s',rfl,hI'⟩:=hq
     exact ⟨m,by omega,s',hf,hI'⟩
    | _=>exact hq
end
section
variable {B:Base} {U U':PHeap} {L:List Res} {w w':World}
theorem St.same {own:List Res} (h:St B U L w) (ho:∀ r ∈ own,r ∈ L) (h':St ⟨w,own,U⟩ U' own w'):St B U L w':=by
 have k:=h'.kp
 have mine:∀ b,(∃ r ∈ own,r.has b)->B.mine b/\U b=none:=fun b ⟨r,hr,hb⟩=>⟨(h.own r (ho r hr) b hb).2,(h.own r (ho r hr) b hb).1⟩
 refine ⟨k.os.trans h.os,k.tape.trans h.tape,k.output.trans h.output,nW h.size k.size,fun b hb hm=>?_,fun b o hb=>h'.fro b o (h'.le b o hb),h.le,h.src,fun r hr=>?_,h.own,h.dj⟩
 ·exact (k.block b (nc hb h.size) fun hx=>hm (mine b hx).1).trans (h.old b hb hm)
 ·by_cases e:r ∈ own
  ·exact h'.at_ r e
  ·refine (h.at_ r hr).keep k fun b hb ⟨s,hs,hsb⟩=>e ?_
   obtain ⟨i,hi⟩:=nv hr
   obtain ⟨j,hj⟩:=nv (ho s hs)
   have:=h.dj i j r s b hi hj hb hsb
   subst this
   rw [hi] at hj
   cases hj
   exact hs
end
section
variable {N:Nat} {P:Program} {Q:wCZ} {D:List Deferred} {l:List Oper} {ks:List Nat} {B:Base} {U:PHeap} {L:List Res} {σ:Env} {w:World} {o:Oper} {d i:Nat} {s:Sch}
theorem OKS.callP {f:FuncId} {args:List Value} {v0:Value} {i1 i2:Nat} {r1 r2:Res} (ho:l[i]?=some o) (hd:o.dst=some d) (hN:na d N=true) (hw:wanted l σ o=true) (he:Enters P σ w o f args) (hS:St B U L w)
  (h1:L[i1]?=some r1) (h2:L[i2]?=some r2) (hne:i1 ≠ i2) (hf:St ⟨w,[r1,r2],U⟩ U [r1,r2] w->Gv P f args w (wCp w [r1,r2] U fun _ L' v=>v=v0/\L'=[r1,r2])) (hk:wEH (kOf ks i)=false)
  (k:∀ w',St B U L w'->OKS N P l Q D ks s (upd σ d v0) w'):OKS N P l Q D ks (.fx i s .stop) σ w:=by
 have hE:St ⟨w,[r1,r2],U⟩ U [r1,r2] w:=hS.enter [r1,r2] ⟨fun k=>if k=0 then i1 else i2,fun k r hr=>by
  match k with
  | 0=>simp only [nO,nJ] at hr;subst hr;exact h1
  | 1=>simp only [List.getElem?_cons_succ,nO,nJ] at hr;subst hr;exact h2
  | k + 2=>simp at hr,fun a b ha hb e=>by
  simp only [List.length_cons,List.length_nil] at ha hb e
  by_cases a0:a=0 <;> by_cases b0:b=0
  ·omega
  ·rw [if_pos a0,if_neg b0] at e;exact absurd e hne
  ·rw [if_neg a0,if_pos b0] at e;exact absurd e.symm hne
  ·omega⟩
 refine ⟨⟨o,ho,dlt hd hN,.inl ⟨hw,.inr (.inr (.inl ⟨f,args,_,he,hf hE,?_⟩))⟩⟩,trivial⟩
 rintro v w' ⟨U',L',g1,rfl,rfl⟩
 have hm:∀ r ∈ [r1,r2],r ∈ L:=fun r hr=>by
  rcases nL.1 hr with rfl | hr
  ·exact nj h1
  ·rw [List.mem_singleton.1 hr];exact nj h2
 exact ⟨KeepD.of (.inl hk),by rw [wCA hd];exact k w' (hS.same hm g1)⟩
end
section
variable {r:Option Nat} {N:Nat} {P:Program} {Q:wCZ} {D:List Deferred} {B:Base} {U:PHeap} {L:List Res} {σ:Env} {w:World} {X S E:Type} {ar:PHeap->X->List Value->Prop}
 {PY:S->PHeap->List Res->Prop} {PE:E->PHeap->List Res->Prop} {f:S->X->Option (S ⊕ E)}
theorem CK.rangeYV (V:PHeap->List Res->Prop) (hVm:∀ U r L,V U L->V U (r :: L)) {g:Operand} {t:List Nat} {asg body:Code} {fi:FuncId} {fl cl:List Value} {s0:S} {rr:S ⊕ E} {exO:E->Exit} (hx:ev σ g=.func (.func fi) fl.toArray cl.toArray)
  (hcall:∀ (args:Array Value) (w:World),(callFunc fi args).run P w=.ok (.enter fi args) w) (hS:St B U L w) (ht:∀ x ∈ t,x < N) (hlen:∀ U x vs,ar U x vs->t.length=vs.length) (hex:∀ e,exO e=.ret \/ ∃ i,exO e=.exit i) (h0:PY s0 U L) (hV:∀ s U L,PY s U L->V U L)
  (hit:∀ (l:Nat) (w1:World) (L1:List Res) (PY':S->PHeap->List Res->Prop) (PE':E->PHeap->List Res->Prop),St ⟨w1,L1,U⟩ U L1 w1->PY' s0 U L1->YOK P l ar PY' PE' f U->(∀ s U L,PY' s U L->V U L)->Gv P fi (fl ++ [.func (.yield l) #[] #[]] ++ cl) w1 (ItS w1 L1 U PY' PE' rr))
  (hbody:∀ (l rb:Nat) (fn:FuncId) s x vs r U' L' w' o B',PHeap.Le U U'->St B' U' (.obj l o :: L') w'->PY s U' L'->ar U' x vs->f s x=some r->∀ σ0,(∀ i,σ0 i=wKn σ t vs i) ->
   CK (some l) N P asg (fun D' e σ1 w1=>e=.normal/\D'=[]/\∃ U1 L1,St B' U1 (.obj l o :: L1) w1/\∀ w2 o2,St B' U1 (.obj l o2 :: L1) w2 ->
    CK (some l) N P body (fun _ e2 _ w3=>∃ U3 L3,St B' U3 (.obj l o2 :: L3) w3/\(match r with | .inl s'=>e2=.normal/\PY s' U3 L3 | .inr e'=>e2=exO e'/\PE e' U3 L3)) [] σ1 w2) [] σ0 w')
  (hk:∀ rb U' L' w',PHeap.Le U U'->St B U' (L' ++ [.obj rb (.deferred (some []))]) w'->(match rr with | .inl s=>PY s U' L'->Q (Go.KX.mark rb :: D) .normal σ w' | .inr e=>PE e U' L'->Q (Go.KX.mark rb :: D) (exO e) σ w')) :
  CK none N P (.rangeFunc g t.toArray asg body) Q D σ w:=by
 refine Go.KX.CK.rangeFunc hx hcall fun fn l rb w1 e1 e2 hl hd K hs=>?_
 obtain ⟨o,ho,hLR⟩:=LR.of hl
 have hlt:l < w1.heap.size:=wAM ho
 have hS0:=hS.grow K
 have hsz:∀ s ∈ L,∀ b,s.has b->b < w.heap.size:=fun s hs b hb=>(hS.at_ s hs).lt hb
 have hfree:∀ b,w.heap.size <= b->U b=none/\B.mine b:=fun b hb=>by
  refine ⟨?_,.inl (nW hS.size hb)⟩
  cases e:U b with
  | none=>rfl
  | some x=>have:=wAM (hS.fro b x e);omega
 have hS1:St B U (.obj l o :: L) w1:=by
  have h1:=hS0.addLast (r:=.obj l o) (b:=l) ho rfl (hfree l (by omega)).1 (hfree l (by omega)).2 fun s hs' e=>by have:=hsz s hs' l e;omega
  refine ⟨h1.os,h1.tape,h1.output,h1.size,h1.old,h1.fro,h1.le,h1.src,fun r hr=>h1.at_ r ?_,fun r hr=>h1.own r ?_,?_⟩
  ·rcases nL.1 hr with rfl | hr <;> simp [*]
  ·rcases nL.1 hr with rfl | hr <;> simp [*]
  ·intro i j r s b hi hj hr hs'
   cases i with
   | zero =>
    simp only [nO,nJ] at hi;subst hi;cases hr
    cases j with
    | zero=>rfl
    | succ j=>have:=hsz s (nj (by simpa using hj)) _ hs';omega
   | succ i =>
    cases j with
    | zero=>simp only [nO,nJ] at hj;subst hj;cases hs';have:=hsz r (nj (by simpa using hi)) _ hr;omega
    | succ j=>rw [hS0.dj i j r s b (by simpa using hi) (by simpa using hj) hr hs']
 have hS2:St B U ((.obj l o :: L) ++ [.obj rb (.deferred (some []))]) w1:=by
  refine hS1.addLast (b:=rb) hd rfl (hfree rb (by omega)).1 (hfree rb (by omega)).2 fun s hs' e=>?_
  rcases nL.1 hs' with rfl | hs'
  ·cases e;omega
  ·have:=hsz s hs' rb e;omega
 let PYl:S->PHeap->List Res->Prop:=fun s U L=>∃ o L',L=.obj l o :: L'/\LR N σ t asg body rb fn .ready none o/\PY s U L'
 let PEl:E->PHeap->List Res->Prop:=fun e U L=>∃ o L',L=.obj l o :: L'/\LR N σ t asg body rb fn .done (wNH (exO e)) o/\PE e U L'
 have hY:YOK P l ar PYl PEl f U:=by
  rintro U' w' s x vs r L3 hle hSt ⟨o',L',rfl,hLR',hP⟩ har hf
  refine Go.KX.Yd.of (hLR'.at_ (hSt.at_ (.obj l o') (by simp))) ht (hlen _ _ _ har) fun σ0 hσ0=>?_
  refine (hbody l rb fn s x vs r U' L' w' o' _ hle hSt hP har hf σ0 hσ0).mono ?_
  rintro D' e σ1 w1 ⟨rfl,rfl,U1,L1,hS1,hb⟩
  refine ⟨rfl,rfl,hLR'.at_ (hS1.at_ (.obj l o') (by simp)),fun w2 hl2 K2 _=>?_⟩
  obtain ⟨o2,ho2,hLR2⟩:=LR.of hl2
  refine (hb w2 o2 (hS1.putObj K2 ho2)).mono ?_
  rintro D2 e2 σ2 w3 ⟨U3,L3,hS3,hm⟩
  cases r with
  | inl s' =>
   obtain ⟨rfl,hP'⟩:=hm
   refine ⟨hLR2.at_ (hS3.at_ (.obj l o2) (by simp)),fun w4 hl4 K4 _=>?_⟩
   obtain ⟨o4,ho4,hLR4⟩:=LR.of hl4
   exact ⟨U3,_,hS3.putObj K4 ho4,rfl,o4,L3,rfl,hLR4,hP'⟩
  | inr e' =>
   obtain ⟨rfl,hP'⟩:=hm
   have fin:∀ w4 p,p=wNH (exO e')->LoopAt w4 l N σ t asg body rb fn .done p->Keep w3 w4 (·=l)->∃ U'' L'',St ⟨w',.obj l o' :: L',U'⟩ U'' L'' w4/\(false=false/\PEl e' U'' L''):=by
    rintro w4 p rfl hl4 K4
    obtain ⟨o4,ho4,hLR4⟩:=LR.of hl4
    exact ⟨U3,_,hS3.putObj K4 ho4,rfl,o4,L3,rfl,hLR4,hP'⟩
   have hB:=hLR2.at_ (hS3.at_ (.obj l o2) (by simp))
   rcases hex e' with he | ⟨i,he⟩
   ·rw [he] at fin ⊢
    exact ⟨hB,fun w4 hl4 K4 _=>fin w4 _ rfl hl4 K4⟩
   ·rw [he] at fin ⊢
    exact ⟨hB,fun w4 hl4 K4 _=>fin w4 _ rfl hl4 K4⟩
 have hE:St ⟨w1,.obj l o :: L,U⟩ U (.obj l o :: L) w1:=by have:=hS1.enterH (L.length + 1);simpa using this
 refine (hit l w1 (.obj l o :: L) PYl PEl hE ⟨o,L,rfl,hLR,h0⟩ hY (fun s U L ⟨o',L',e,_,hp⟩=>e ▸ hVm _ _ _ (hV s U L' hp))).mono ?_
 rintro v w3 ⟨U',L3,g1,g2⟩
 obtain ⟨g3,g4⟩:=hS2.backH (L.length + 1) (own':=L3) (U':=U') (w':=w3) (by simpa using g1)
 have g3:St B U' (L3 ++ [.obj rb (.deferred (some []))]) w3:=by simpa using g3
 have hkk:=hk rb U'
 cases rr with
 | inl s' =>
  obtain ⟨o',L',rfl,hLR',hP⟩:=g2
  refine .inl ⟨hLR'.at_ (g3.at_ (.obj l o') (by simp)),fun w4 K4 _=>hkk L' w4 g4 ?_ hP⟩
  exact St.outObj (L:=L' ++ [.obj rb (.deferred (some []))]) (by simpa using g3) K4
 | inr e' =>
  obtain ⟨o',L',rfl,hLR',hP⟩:=g2
  refine .inr ⟨exO e',hex e',?_,fun w4 K4 _=>hkk L' w4 g4 ?_ hP⟩
  ·have:=hLR'.at_ (g3.at_ (.obj l o') (by simp))
   rcases hex e' with he | ⟨i,he⟩ <;> (rw [he] at this ⊢;exact this)
  ·exact St.outObj (L:=L' ++ [.obj rb (.deferred (some []))]) (by simpa using g3) K4
end
end Go.KL
namespace Go.KX
open Go.RowKit Go.KL
structure Gh where
 N:Nat
 σ:Env
 t:List Nat
 ac:Code
 bc:Code
 rb:Nat
 fn:FuncId
def g0:Gh:=⟨0,fun _=>undef,[],.skip,.skip,0,0⟩
structure Cl where
 b:Nat
 c:Nat
 g:Gh
abbrev Mu:=Pos->Option Cl
mutual
def Rv (μ:Mu):AV->Value->Prop
 | .int k n,v=>v=.int k n
 | .bool b,v=>v=.bool b
 | .ptr b off,v=>∃ c,μ b=some c/\v=.pointer (some ⟨c.1,off,none⟩)
 | .pnil,v=>v=.pointer none
 | .sl b off n c,v=>∃ d,μ b=some d/\n <= c/\v=.slice (some ⟨d.1,off,none⟩) n c
 | .rw b eo co n,v=>∃ d,μ b=some d/\eo + n <= d.2/\v=.slice (some ⟨d.1,co,none⟩) n (d.2 - eo)
 | .rz b eo,v=>∃ d,μ b=some d/\∃ o,v=.slice (some ⟨d.1,o,none⟩) 0 (d.2 - eo)
 | .snil,v=>v=.slice none 0 0
 | .map b,v=>∃ c,μ b=some c/\v=.map (some c.1)
 | .mnil,v=>v=.map none
 | .fn f fi ca,v=>∃ fv cv,RvL μ fi fv/\RvL μ ca cv/\v=.func (.func (f.nat - 1)) fv.toArray cv.toArray
 | .yld b,v=>∃ c,μ b=some c/\v=.func (.yield c.1) #[] #[]
 | .fnil,v=>v=.nilFunc
 | .agg l,v=>∃ vs,RvL μ l vs/\v=.agg vs.toArray
 | .tup l,v=>∃ vs,RvL μ l vs/\v=.tuple vs.toArray
def RvL (μ:Mu):List AV->List Value->Prop
 | [],vs=>vs=[]
 | a :: l,vs=>∃ v ws,Rv μ a v/\RvL μ l ws/\vs=v :: ws
end
def Mu.Le (μ μ':Mu):Prop:=∀ p c,μ p=some c->μ' p=some c
theorem Mu.Le.refl (μ:Mu):μ.Le μ:=fun _ _ h=>h
theorem Mu.Le.trans {a b c:Mu} (h:a.Le b) (k:b.Le c):a.Le c:=fun p x hx=>k p x (h p x hx)
mutual
theorem Rv.mono {μ μ':Mu} (hm:μ.Le μ'):∀ {a:AV} {v:Value},Rv μ a v->Rv μ' a v
 | .int _ _,_,h=>h
 | .bool _,_,h=>h
 | .ptr _ _,_,⟨c,h1,h2⟩=>⟨c,hm _ _ h1,h2⟩
 | .pnil,_,h=>h
 | .sl _ _ _ _,_,⟨c,h1,h2⟩=>⟨c,hm _ _ h1,h2⟩
 | .rw _ _ _ _,_,⟨c,h1,h2⟩=>⟨c,hm _ _ h1,h2⟩
 | .rz _ _,_,⟨c,h1,h2⟩=>⟨c,hm _ _ h1,h2⟩
 | .snil,_,h=>h
 | .map _,_,⟨c,h1,h2⟩=>⟨c,hm _ _ h1,h2⟩
 | .mnil,_,h=>h
 | .fn _ _ _,_,⟨fv,cv,h1,h2,h3⟩=>⟨fv,cv,RvL.mono hm h1,RvL.mono hm h2,h3⟩
 | .yld _,_,⟨c,h1,h2⟩=>⟨c,hm _ _ h1,h2⟩
 | .fnil,_,h=>h
 | .agg _,_,⟨vs,h1,h2⟩=>⟨vs,RvL.mono hm h1,h2⟩
 | .tup _,_,⟨vs,h1,h2⟩=>⟨vs,RvL.mono hm h1,h2⟩
theorem RvL.mono {μ μ':Mu} (hm:μ.Le μ'):∀ {l:List AV} {vs:List Value},RvL μ l vs->RvL μ' l vs
 | [],_,h=>h
 | _ :: _,_,⟨v,ws,h1,h2,h3⟩=>⟨v,ws,Rv.mono hm h1,RvL.mono hm h2,h3⟩
end
theorem wFn {μ:Mu}:RvL μ [] []:=rfl
theorem wBF {μ:Mu} {a:AV} {l:List AV} {v:Value} {vs:List Value} (h:Rv μ a v) (h':RvL μ l vs):RvL μ (a :: l) (v :: vs):=⟨v,vs,h,h',rfl⟩
theorem wCR {μ:Mu}:∀ {l:List AV} {vs:List Value},RvL μ l vs->vs.length=l.length
 | [],_,h=>by cases h;rfl
 | _ :: _,_,⟨_,_,_,h2,h3⟩=>by subst h3;simp [wCR h2]
theorem wDQ {μ:Mu}:∀ {l k:List AV} {vs ws:List Value},RvL μ l vs->RvL μ k ws->RvL μ (l ++ k) (vs ++ ws)
 | [],_,_,_,h,h'=>by cases h;exact h'
 | _ :: _,_,_,_,⟨v,ws,h1,h2,h3⟩,h'=>by subst h3;exact wBF h1 (wDQ h2 h')
theorem wEM {μ:Mu}:∀ {l:List AV} {vs:List Value},RvL μ l vs->∀ {i:Nat} {a:AV},l[i]?=some a->∃ v,vs[i]?=some v/\Rv μ a v
 | [],_,_,i,a,hi=>by simp at hi
 | b :: l,_,⟨v,ws,h1,h2,h3⟩,i,a,hi=>by
  subst h3
  cases i with
  | zero=>simp at hi;subst hi;exact ⟨v,rfl,h1⟩
  | succ i=>simpa using wEM h2 (i:=i) (by simpa using hi)
theorem wGz {μ:Mu}:∀ {l:List AV} {vs:List Value} (n:Nat),RvL μ l vs->RvL μ (l.drop n) (vs.drop n)
 | _,_,0,h=>h
 | [],_,n + 1,h=>by cases h;exact rfl
 | _ :: _,_,n + 1,⟨_,_,_,h2,h3⟩=>by subst h3;exact wGz n h2
theorem wHA {μ:Mu}:∀ {l:List AV} {vs:List Value} (n:Nat),RvL μ l vs->RvL μ (l.take n) (vs.take n)
 | _,_,0,_=>rfl
 | [],_,n + 1,h=>by cases h;exact rfl
 | _ :: _,_,n + 1,⟨_,_,h1,h2,h3⟩=>by subst h3;exact wBF h1 (wHA n h2)
theorem wFo {μ:Mu} {l:List AV} {vs:List Value} (h:RvL μ l vs):∀ n,RvL μ (rep n l) (nU n vs).flatten
 | 0=>rfl
 | n + 1=>by rw [List.replicate_succ,List.flatten_cons];exact wDQ h (wFo h n)
section
variable {α:Type}
theorem wFH:∀ (l:List α) (n:Nat),nth l n=l[n]?
 | [],_=>rfl
 | _ :: _,0=>rfl
 | _ :: l,n + 1=>by show nth l n=_;rw [wFH l n];simp
theorem wDl:∀ (l:List α),len l=l.length
 | []=>rfl
 | _ :: l=>by show Nat.succ (len l)=_;rw [wDl l];rfl
theorem wEz {a:α} {o:Option (List α)} {r:List α} (h:wIH a o=some r):∃ r',o=some r'/\r=a :: r':=by
 cases o with
 | none=>cases h
 | some r'=>cases h;exact ⟨r',rfl,rfl⟩
theorem wIX:∀ {l:List α} {n:Nat} {r:List α},tk l n=some r->r=l.take n/\n <= l.length
 | [],0,r,h=>by cases h;simp
 | [],n + 1,r,h=>by cases h
 | a :: l,0,r,h=>by cases h;simp
 | a :: l,n + 1,r,h=>by
  obtain ⟨r',h1,rfl⟩:=wEz (show wIH a (tk l n)=some r from h)
  obtain ⟨h2,h3⟩:=wIX h1
  simp [h2,h3]
theorem wIz:∀ {l:List α} {off n:Nat} {r:List α},sub l off n=some r->r=(l.drop off).take n/\off + n <= l.length
 | [],0,n,r,h=>by have:=wIX (l:=[]) (n:=n) h;simpa using this
 | [],off + 1,n,r,h=>by cases h
 | a :: l,0,n,r,h=>by have:=wIX (l:=a :: l) (n:=n) h;simpa using this
 | a :: l,off + 1,n,r,h=>by
  obtain ⟨h1,h2⟩:=wIz (show sub l off n=some r from h)
  exact ⟨by simpa using h1,by simp;omega⟩
theorem wIY:∀ {l vs r:List α},ov l vs=some r->vs.length <= l.length/\r=vs ++ l.drop vs.length
 | [],[],r,h=>by cases h;simp
 | [],v :: vs,r,h=>by cases h
 | a :: l,[],r,h=>by cases h;simp
 | a :: l,v :: vs,r,h=>by
  obtain ⟨r',h1,rfl⟩:=wEz (show wIH v (ov l vs)=some r from h)
  obtain ⟨h2,h3⟩:=wIY h1
  subst h3
  exact ⟨by simpa using h2,by simp⟩
theorem wHm:∀ {l:List α} {off:Nat} {vs r:List α},wNg l off vs=some r->off + vs.length <= l.length/\r=l.take off ++ vs ++ l.drop (off + vs.length)
 | [],0,vs,r,h=>by have:=wIY (l:=[]) h;simp at this;simp [this]
 | [],off + 1,vs,r,h=>by cases h
 | a :: l,0,vs,r,h=>by have:=wIY (l:=a :: l) h;simp at this;simp [this]
 | a :: l,off + 1,vs,r,h=>by
  obtain ⟨r',h1,rfl⟩:=wEz (show wIH a (wNg l off vs)=some r from h)
  obtain ⟨h2,h3⟩:=wHm h1
  subst h3
  refine ⟨by simp;omega,?_⟩
  rw [show off + 1 + vs.length=(off + vs.length) + 1 from by omega]
  simp
end
theorem wKr:∀ (vs l:List Value) (off:Nat),off + vs.length <= l.length->wDL l off vs=l.take off ++ vs ++ l.drop (off + vs.length)
 | [],l,off,_=>by simp [wDL]
 | v :: vs,l,off,h=>by
  simp only [List.length_cons] at h
  have hlt:off < l.length:=by omega
  rw [wDL,wKr vs (l.set off v) (off + 1) (by simp;omega)]
  have h1:(l.set off v).take (off + 1)=l.take off ++ [v]:=by
   rw [List.take_set,List.take_add_one,no hlt]
   rw [List.set_append_right _ _ (by simp;omega)]
   simp [Nat.min_eq_left (Nat.le_of_lt hlt)]
  rw [h1,List.drop_set_of_lt (by omega)]
  rw [show off + 1 + vs.length=off + (v :: vs).length from by simp;omega]
  simp
theorem wHB {μ:Mu} {l vs r:List AV} {L V:List Value} {off:Nat} (h:wNg l off vs=some r) (hl:RvL μ l L) (hv:RvL μ vs V):off + V.length <= L.length/\RvL μ r (wDL L off V):=by
 obtain ⟨h1,rfl⟩:=wHm h
 have e1:=wCR hl
 have e2:=wCR hv
 have h2:off + V.length <= L.length:=by omega
 refine ⟨h2,?_⟩
 rw [wKr V L off h2,e2]
 exact wDQ (wDQ (wHA off hl) hv) (wGz _ hl)
theorem wEN {μ:Mu} {l r:List AV} {L:List Value} {off n:Nat} (h:sub l off n=some r) (hl:RvL μ l L):RvL μ r ((L.drop off).take n)/\off + n <= L.length:=by
 obtain ⟨rfl,h1⟩:=wIz h
 have e1:=wCR hl
 exact ⟨wHA n (wGz off hl),by omega⟩
theorem wPP {μ:Mu} {a:AV} {v:Value} (h:Rv μ a v) (h1:a.one=true):one v=true:=by
 cases a <;> simp only [Rv] at h <;> first | (cases h1;done) | (subst h;rfl) | (obtain ⟨_,_,_,_,_,rfl⟩:=h;rfl) | (obtain ⟨_,_,_,_,rfl⟩:=h;rfl) | (obtain ⟨_,_,_,rfl⟩:=h;rfl) | (obtain ⟨_,_,rfl⟩:=h;rfl)
theorem wDR {μ:Mu}:∀ {l:List AV} {vs:List Value},RvL μ l vs->wNh l=true->∀ v ∈ vs,one v=true
 | [],_,h,_=>by cases h;simp
 | a :: l,_,⟨v,ws,h1,h2,h3⟩,ho=>by
  subst h3
  have ho:(a.one && wNh l)=true:=ho
  rw [hH] at ho
  intro u hu
  rcases nL.1 hu with rfl | hu
  ·exact wPP h1 ho.1
  ·exact wDR h2 ho.2 u hu
theorem wFP {μ:Mu} {a:AV} {v:Value} (h:Rv μ a v):∃ vs,RvL μ a.cells vs/\v.cells=vs.toArray:=by
 cases a with
 | agg l=>obtain ⟨vs,h1,rfl⟩:=h;exact ⟨vs,h1,rfl⟩
 | tup l=>obtain ⟨vs,h1,rfl⟩:=h;exact ⟨[_],wBF ⟨vs,h1,rfl⟩ wFn,rfl⟩
 | _ =>
  refine ⟨[v],wBF h wFn,?_⟩
  simp only [Rv] at h
  first | (subst h;rfl) | (obtain ⟨_,_,_,_,_,rfl⟩:=h;rfl) | (obtain ⟨_,_,_,_,rfl⟩:=h;rfl) | (obtain ⟨_,_,_,rfl⟩:=h;rfl) | (obtain ⟨_,_,rfl⟩:=h;rfl)
end Go.KX
namespace Go.KX
noncomputable section
open Go.RowKit Go.KL
def EnvR (μ:Mu) (σA:Tr AV) (σ:Env):Prop:=∀ p:Pos,Rv μ (evA σA (.t p)) (σ (p.nat - 1))
theorem wIZ (σA:Tr AV) (p:Pos):evA σA (.t p)=(σA.get p).getD u:=by
 show Option.rec (motive:=fun _=>AV) u (fun v=>v) (σA.get p)=_
 cases σA.get p <;> rfl
theorem EnvR.mono {μ μ':Mu} {σA:Tr AV} {σ:Env} (h:EnvR μ σA σ) (hm:μ.Le μ'):EnvR μ' σA σ:=fun p=>(h p).mono hm
theorem EnvR.put {μ:Mu} {σA:Tr AV} {σ:Env} (h:EnvR μ σA σ) {p:Pos} {a:AV} {v:Value} (hv:Rv μ a v):EnvR μ (σA.set p a) (upd σ (p.nat - 1) v):=by
 intro q
 rw [wIZ,Tr.get_set]
 by_cases e:q=p
 ·subst e;rw [if_pos rfl,wCD];exact hv
 ·rw [if_neg e,wBY,<- wIZ]
  ·exact h q
  ·intro e2
   have:=p.nat_pos;have:=q.nat_pos
   exact e (Pos.nat_inj (by omega))
theorem wKs (μ:Mu):Rv μ u undef:=⟨[],rfl,rfl⟩
theorem wJA {μ:Mu}:∀ {args:List AV} {vs:List Value},RvL μ args vs->∀ {p:Pos} {t:Tr AV} {σ σ':Env},EnvR μ t σ->(∀ i,i < p.nat - 1->σ' i=σ i)->(∀ j v,vs[j]?=some v->σ' (p.nat - 1 + j)=v) ->
  (∀ i,p.nat - 1 + vs.length <= i->σ' i=σ i)->EnvR μ (wKg args p t) σ'
 | [],_,h,p,t,σ,σ',hE,h1,_,h3=>by
  cases h
  intro q
  have:=hE q
  by_cases e:q.nat - 1 < p.nat - 1
  ·rw [h1 _ e];exact this
  ·rw [h3 _ (by simp;omega)];exact this
 | a :: l,_,⟨v,ws,h1,h2,h3⟩,p,t,σ,σ',hE,g1,g2,g3=>by
  subst h3
  have hp:=p.nat_pos
  refine wJA h2 (p:=p.succ) (hE.put (p:=p) h1) ?_ ?_ ?_
  ·intro i hi
   rw [Pos.nat_succ] at hi
   by_cases e:i=p.nat - 1
   ·subst e;rw [wCD];exact g2 0 v rfl
   ·rw [wBY _ _ e];exact g1 i (by omega)
  ·intro j x hx
   rw [Pos.nat_succ]
   have:=g2 (j + 1) x (by simpa using hx)
   rw [<- this];congr 1;omega
  ·intro i hi
   rw [Pos.nat_succ] at hi
   rw [wBY _ _ (by omega)]
   exact g3 i (by simp;omega)
theorem wNo {μ:Mu} {args:List AV} {vs:List Value} (h:RvL μ args vs):EnvR μ (wKg args .H .e) (wMx vs):=by
 have h0:EnvR μ .e (fun _=>undef):=by intro p;rw [wIZ,Tr.get_e];exact wKs μ
 refine wJA h (p:=.H) h0 (fun i hi=>by simp [Pos.nat] at hi) (fun j v hv=>?_) (fun i hi=>?_)
 ·simp [wMx,Pos.nat,hv]
 ·simp only [Pos.nat] at hi
  simp [wMx,nu (by omega:vs.length <= i)]
mutual
def okc:AV->Value->Bool
 | .int k n,.int k' n'=>keq k k' && zeq n n'
 | .bool b,.bool b'=>b == b'
 | .pnil,.pointer none=>true
 | .snil,.slice none 0 0=>true
 | .mnil,.map none=>true
 | .fnil,.nilFunc=>true
 | .agg l,.agg vs=>wMa l vs.toList
 | .tup l,.tuple vs=>wMa l vs.toList
 | _,_=>false
def wMa:List AV->List Value->Bool
 | [],[]=>true
 | a :: l,v :: vs=>okc a v && wMa l vs
 | _,_=>false
end
theorem wJB:∀ {a b:Int},zeq a b=true ↔ a=b
 | .ofNat a,.ofNat b=>by simp [zeq];omega
 | .negSucc a,.negSucc b=>by simp [zeq]
 | .ofNat a,.negSucc b=>by simp [zeq]
 | .negSucc a,.ofNat b=>by simp [zeq]
theorem wDS (a b:Int):zeq a b=decide (a=b):=by
 by_cases h:a=b
 ·rw [wJB.2 h];simp [h]
 ·have:zeq a b ≠ true:=fun e=>h (wJB.1 e)
  simp [h,kC.2 this]
theorem wFp:∀ (a b:Int),zlt a b=decide (a < b)
 | .ofNat a,.ofNat b=>by
  simp only [zlt,nY,Int.ofNat_lt]
  by_cases h:a < b
  ·simp [h,nE]
  ·simp [h,kC,nE]
 | .negSucc a,.negSucc b=>by
  simp only [zlt,nw]
  by_cases h:b < a
  ·have h2:-((a:Int) + 1) < -((b:Int) + 1):=by omega
   simp [h2,nE];exact h
  ·have h2:¬ -((a:Int) + 1) < -((b:Int) + 1):=by omega
   simp [h2,kC,nE];omega
 | .ofNat a,.negSucc b=>by
  simp only [zlt,nw,nY]
  have h2:¬ (a:Int) < -((b:Int) + 1):=by omega
  simp [h2]
 | .negSucc a,.ofNat b=>by
  simp only [zlt,nw,nY]
  have h2:-((a:Int) + 1) < (b:Int):=by omega
  simp [h2]
theorem wKt (a b:Int):zle a b=decide (a <= b):=by
 rw [zle,wFp]
 by_cases h:a <= b
 ·simp [h,Int.not_lt.2 h]
 ·simp [h,Int.not_le.1 h]
theorem wBL {a b:IntKind} (h:keq a b=true):a=b:=by cases a <;> cases b <;> first | rfl | cases h
mutual
theorem wKu (μ:Mu):∀ {a:AV} {v:Value},okc a v=true->Rv μ a v
 | .int k n,v,h=>by
  cases v <;> simp only [okc,hH,nS] at h
  rw [wBL h.1,wJB.1 h.2];rfl
 | .bool b,v,h=>by
  cases v <;> simp only [okc,beq_iff_eq,nS] at h
  subst h;rfl
 | .pnil,v,h=>by
  unfold okc at h
  split at h <;> first | rfl | (exfalso;simp_all;done) | simp_all [Rv]
 | .snil,v,h=>by
  unfold okc at h
  split at h <;> first | rfl | (exfalso;simp_all;done) | simp_all [Rv]
 | .mnil,v,h=>by
  unfold okc at h
  split at h <;> first | rfl | (exfalso;simp_all;done) | simp_all [Rv]
 | .fnil,v,h=>by
  cases v <;> simp only [okc,nS] at h
  rfl
 | .agg l,v,h=>by
  cases v <;> simp only [okc,nS] at h
  exact ⟨_,wFA μ h,by simp⟩
 | .tup l,v,h=>by
  cases v <;> simp only [okc,nS] at h
  exact ⟨_,wFA μ h,by simp⟩
 | .ptr _ _,v,h=>by simp [okc] at h
 | .sl _ _ _ _,v,h=>by simp [okc] at h
 | .rw _ _ _ _,v,h=>by simp [okc] at h
 | .rz _ _,v,h=>by simp [okc] at h
 | .map _,v,h=>by simp [okc] at h
 | .fn _ _ _,v,h=>by simp [okc] at h
 | .yld _,v,h=>by simp [okc] at h
theorem wFA (μ:Mu):∀ {l:List AV} {vs:List Value},wMa l vs=true->RvL μ l vs
 | [],[],_=>rfl
 | a :: l,v :: vs,h=>by
  simp only [wMa,hH] at h
  exact wBF (wKu μ h.1) (wFA μ h.2)
 | [],_ :: _,h=>by simp [wMa] at h
 | _ :: _,[],h=>by simp [wMa] at h
end
def wBd:AOd->Operand->Bool
 | .t p,.tmp t=>nB p.nat (t + 1)
 | .c a,.const v=>okc a v
 | .c (.fn f [] []),.func g=>nB f.nat (g + 1)
 | _,_=>false
def wHn:List AOd->List Operand->Bool
 | [],[]=>true
 | x :: l,y :: k=>wBd x y && wHn l k
 | _,_=>false
theorem wAH {μ:Mu} {σA:Tr AV} {σ:Env} {x:AOd} {y:Operand} (h:wBd x y=true) (hE:EnvR μ σA σ):Rv μ (evA σA x) (ev σ y):=by
 unfold wBd at h
 split at h
 ·rename_i p t
  have:=nA h
  have h2:=hE p
  rw [this] at h2
  exact h2
 ·exact wKu μ h
 ·rename_i f g
  have:=nA h
  exact ⟨[],[],rfl,rfl,by show Value.func (.func g) #[] #[]=_;rw [this];rfl⟩
 ·cases h
theorem wFQ {μ:Mu} {σA:Tr AV} {σ:Env}:∀ {l:List AOd} {k:List Operand},wHn l k=true->EnvR μ σA σ->RvL μ (evs σA l) (k.map (ev σ))
 | [],[],_,_=>rfl
 | x :: l,y :: k,h,hE=>by
  simp only [wHn,hH] at h
  exact wBF (wAH h.1 hE) (wFQ h.2 hE)
 | [],_ :: _,h,_=>by simp [wHn] at h
 | _ :: _,[],h,_=>by simp [wHn] at h
def MR {K:Type} (μ:Mu) (l:List (K × AV)) (t:List (K × Value)):Prop:=l.map (·.1)=t.map (·.1)/\RvL μ (l.map (·.2)) (t.map (·.2))
def mk2 (k:IntKind) (x:Int × Int):Value:=.agg #[.int k x.1,.int k x.2]
def exC:Ex->Exit
 | .nrm=>.normal
 | .exit i=>.exit i
 | .ret=>.ret
def lsC:LS->LoopState × Option Code
 | .ready=>(.ready,none)
 | .busy=>(.busy,none)
 | .done .ret=>(.done,some .ret)
 | .done (.exit i)=>(.done,some (.exit i))
 | .done .nrm=>(.ready,none)
abbrev Chk:=AC->Code->Nat->Prop
structure wJg (C:Chk) (μ:Mu) (w:World) (c:Cl) (σA:Tr AV) (t:List Pos) (asg body:AC) (s:LS):Prop where
 at_:LoopAt w c.1 c.g.N c.g.σ c.g.t c.g.ac c.g.bc c.g.rb c.g.fn (lsC s).1 (lsC s).2
 env:EnvR μ σA c.g.σ
 ht:t.map Pos.nat=c.g.t.map (· + 1)
 tN:∀ x ∈ c.g.t,x < c.g.N
 asg:C asg c.g.ac c.g.N
 body:C body c.g.bc c.g.N
def AbR (C:Chk) (P:Program) (μ:Mu) (w:World) (c:Cl):AB->Prop
 | .cells T l=>∃ vs,RvL μ l vs/\Blk w c.1 T vs
 | .row T sz l=>∃ vs,RvL μ l vs/\RowAt w (some ⟨c.1,0,none⟩) c.2 T sz vs
 | .map0=>∃ ck,w.heap[c.1]?=some (.map #[] ck)
 | .mapI k l=>∃ es ck t,w.heap[c.1]?=some (.map es ck)/\MpR es (fun n:Int=>nz k n) id t/\MR μ l t
 | .map2 k l=>∃ es ck t,w.heap[c.1]?=some (.map es ck)/\MpR es (mk2 k) id t/\MR μ l t
 | .loop σA t asg body s=>wJg C μ w c σA t asg body s
 | .dead=>True
def wJh:AB->Prop
 | .dead=>False
 | _=>True
variable {C:Chk} {P:Program} {μ μ' μ'':Mu} {w w' w'':World} {h h' h'':AH}
theorem MR.mono {K:Type} {l:List (K × AV)} {t:List (K × Value)} (h:MR μ l t) (hm:μ.Le μ'):MR μ' l t:=⟨h.1,h.2.mono hm⟩
theorem AbR.mono {c:Cl} {B:AB} (h:AbR C P μ w c B) (hm:μ.Le μ'):AbR C P μ' w c B:=by
 cases B with
 | cells T l=>obtain ⟨vs,h1,h2⟩:=h;exact ⟨vs,h1.mono hm,h2⟩
 | row T sz l=>obtain ⟨vs,h1,h2⟩:=h;exact ⟨vs,h1.mono hm,h2⟩
 | map0=>exact h
 | mapI k l=>obtain ⟨es,ck,t,h1,h2,h3⟩:=h;exact ⟨es,ck,t,h1,h2,h3.mono hm⟩
 | map2 k l=>obtain ⟨es,ck,t,h1,h2,h3⟩:=h;exact ⟨es,ck,t,h1,h2,h3.mono hm⟩
 | loop σA t asg body s=>exact ⟨h.at_,h.env.mono hm,h.ht,h.tN,h.asg,h.body⟩
 | dead=>trivial
theorem AbR.keep {c:Cl} {B:AB} {X:Nat->Prop} (h:AbR C P μ w c B) (k:Keep w w' X) (hx:¬ X c.1):AbR C P μ w' c B:=by
 cases B with
 | cells T l=>obtain ⟨vs,h1,h2⟩:=h;exact ⟨vs,h1,h2.keep k hx⟩
 | row T sz l =>
  obtain ⟨vs,h1,h2⟩:=h
  refine ⟨vs,h1,?_⟩
  obtain ⟨cur,h3,h4⟩:=RowAt.cells h2
  exact .inr ⟨c.1,cur,rfl,(k.block _ (wAM h3) hx).trans h3,h4⟩
 | map0=>obtain ⟨ck,h1⟩:=h;exact ⟨ck,(k.block _ (wAM h1) hx).trans h1⟩
 | mapI _ l=>obtain ⟨es,ck,t,h1,h2⟩:=h;exact ⟨es,ck,t,(k.block _ (wAM h1) hx).trans h1,h2⟩
 | map2 _ l=>obtain ⟨es,ck,t,h1,h2⟩:=h;exact ⟨es,ck,t,(k.block _ (wAM h1) hx).trans h1,h2⟩
 | loop σA t asg body s=>exact ⟨h.at_.keep k hx,h.env,h.ht,h.tN,h.asg,h.body⟩
 | dead=>trivial
def img (μ:Mu) (fl:Nat) (c:Nat):Prop:=∃ p d,μ p=some d/\d.1=c/\fl <= p.nat
structure Ext (μ:Mu) (fl:Nat) (w:World) (μ':Mu) (w':World):Prop where
 mono:μ.Le μ'
 new:∀ p c,μ' p=some c->μ p=some c \/ img μ fl c.1 \/ w.heap.size <= c.1
 keep:Keep w w' (img μ fl)
theorem Ext.refl (μ:Mu) (fl:Nat) (w:World):Ext μ fl w μ w:=⟨Mu.Le.refl μ,fun _ _ h=>.inl h,Keep.refl w _⟩
theorem Ext.img {fl:Nat} {c:Nat} (E:Ext μ fl w μ' w') (hi:img μ' fl c):KX.img μ fl c \/ w.heap.size <= c:=by
 obtain ⟨p,d,h1,rfl,h2⟩:=hi
 rcases E.new p _ h1 with h3 | h3 | h3
 ·exact .inl ⟨p,d,h3,rfl,h2⟩
 ·exact .inl h3
 ·exact .inr h3
theorem Ext.trans {fl:Nat} (E:Ext μ fl w μ' w') (E':Ext μ' fl w' μ'' w''):Ext μ fl w μ'' w'':=by
 refine ⟨E.mono.trans E'.mono,fun p c hp=>?_,E.keep.step E'.keep fun i hi hm=>?_⟩
 ·rcases E'.new p c hp with h1 | h1 | h1
  ·exact E.new p c h1
  ·exact .inr (E.img h1)
  ·exact .inr (.inr (nW E.keep.size h1))
 ·rcases E.img hm with h1 | h1
  ·exact h1
  ·omega
structure Sim (C:Chk) (P:Program) (μ:Mu) (h:AH) (w:World):Prop where
 nx:∀ p,h.nx.nat <= p.nat->μ p=none
 lt:∀ p c,μ p=some c->c.1 < w.heap.size
 inj:∀ p q a b c d,h.m.get p=some a->h.m.get q=some b->wJh a->wJh b->μ p=some c->μ q=some d->c.1=d.1->p=q
 at_:∀ p b,h.m.get p=some b->∃ c,μ p=some c/\AbR C P μ w c b
theorem Sim.keep (S:Sim C P μ h w) (k:Keep w w' Non):Sim C P μ h w' :=
 ⟨S.nx,fun p c hp=>nc (S.lt p c hp) k.size,S.inj,fun p b hb=>let ⟨c,h1,h2⟩:=S.at_ p b hb;⟨c,h1,h2.keep k id⟩⟩
theorem Sim.floor (S:Sim C P μ h w) (f:Pos):Sim C P μ ⟨h.m,h.nx,f⟩ w:=⟨S.nx,S.lt,S.inj,S.at_⟩
theorem Sim.non (S:Sim C P μ h w) (E:Ext μ h.nx.nat w μ' w') (fl:Nat):Keep w w' Non/\Ext μ fl w μ' w':=by
 have hn:∀ c,¬ img μ h.nx.nat c:=fun c ⟨p,k,h1,_,h2⟩=>by rw [S.nx p h2] at h1;cases h1
 refine ⟨E.keep.weak fun i _ hi=>hn i hi,E.mono,fun p c hp=>?_,E.keep.weak fun i _ hi=>(hn i hi).elim⟩
 rcases E.new p c hp with h1 | h1 | h1
 ·exact .inl h1
 ·exact (hn _ h1).elim
 ·exact .inr (.inr h1)
theorem wHC {h h':AH} {p:Pos} {B:AB} (hp:h.put p B=some h'):h.fl.nat <= p.nat/\h'=⟨h.m.set p B,h.nx,h.fl⟩:=by
 unfold AH.put at hp
 split at hp
 ·cases hp
 ·rename_i hf
  cases hp
  refine ⟨?_,rfl⟩
  rcases kG p.nat h.fl.nat with hlt | hge
  ·rw [(Pos.ltb_iff p h.fl false).2 (.inl hlt)] at hf;cases hf
  ·exact hge
theorem Sim.put {p:Pos} {B B':AB} {c:Cl} (S:Sim C P μ h w) (hp:h.put p B'=some h') (hB:h.m.get p=some B) (hl:wJh B) (hc:μ p=some c) (K:Keep w w' (·=c.1)) (hB':AbR C P μ w' c B') :
  Sim C P μ h' w'/\Ext μ h.fl.nat w μ w'/\h'.fl=h.fl:=by
 obtain ⟨hf,rfl⟩:=wHC hp
 refine ⟨⟨S.nx,fun p c hp=>nc (S.lt p c hp) K.size,?_,?_⟩,⟨Mu.Le.refl μ,fun _ _ h=>.inl h,K.weak fun i _ e=>⟨p,c,hc,e.symm,hf⟩⟩,rfl⟩
 ·intro q r a b d e hq hr la lb hd he hde
  simp only [Tr.get_set] at hq hr
  split at hq <;> split at hr
  ·rename_i h1 h2;rw [h1,h2]
  ·rename_i h1 h2;exact (S.inj q r B b d e (h1 ▸ hB) hr hl lb hd he hde)
  ·rename_i h1 h2;exact (S.inj q r a B d e hq (h2 ▸ hB) la hl hd he hde)
  ·exact S.inj q r a b d e hq hr la lb hd he hde
 ·intro q b hq
  simp only [Tr.get_set] at hq
  split at hq
  ·rename_i h1;subst h1;cases hq;exact ⟨c,hc,hB'⟩
  ·rename_i h1
   obtain ⟨d,h2,h3⟩:=S.at_ q b hq
   refine ⟨d,h2,?_⟩
   by_cases lb:wJh b
   ·exact h3.keep K fun e=>h1 (S.inj q p b B d c hq hB lb hl h2 hc e)
   ·cases b <;> first | trivial | exact (lb trivial).elim
def Mu.add (μ:Mu) (p:Pos) (c:Cl):Mu:=fun q=>if q=p then some c else μ q
theorem Mu.add_le {p:Pos} {c:Cl} (hn:μ p=none):μ.Le (μ.add p c):=by
 intro q d hq
 unfold Mu.add
 by_cases e:q=p
 ·subst e;rw [hn] at hq;cases hq
 ·rw [if_neg e];exact hq
theorem Mu.add_same (μ:Mu) (p:Pos) (c:Cl):μ.add p c p=some c:=by simp [Mu.add]
theorem Sim.push {c:Cl} {B:AB} (S:Sim C P μ h w) (K:Keep w w' Non) (hc:w.heap.size <= c.1) (hlt:c.1 < w'.heap.size) (hB:AbR C P (μ.add h.nx c) w' c B) :
  Sim C P (μ.add h.nx c) (h.push B) w'/\Ext μ h.fl.nat w (μ.add h.nx c) w'/\(h.push B).fl=h.fl/\(μ.add h.nx c) h.nx=some c:=by
 have hn:=S.nx h.nx (nG _)
 have hle:=Mu.add_le (c:=c) hn
 refine ⟨⟨?_,?_,?_,?_⟩,⟨hle,?_,K.weak fun _ _ h=>h.elim⟩,rfl,Mu.add_same _ _ _⟩
 ·intro p hp
  have hp:h.nx.succ.nat <= p.nat:=hp
  rw [Pos.nat_succ] at hp
  unfold Mu.add
  rw [if_neg (fun e=>by subst e;omega)]
  exact S.nx p (by omega)
 ·intro p d hd
  unfold Mu.add at hd
  split at hd
  ·cases hd;exact hlt
  ·exact nc (S.lt p d hd) K.size
 ·intro p q a b d e hp hq la lb hd he hde
  simp only [AH.push,Tr.get_set] at hp hq
  unfold Mu.add at hd he
  split at hd <;> split at he
  ·rename_i h1 h2;rw [h1,h2]
  ·cases hd;have:=S.lt _ _ he;omega
  ·cases he;have:=S.lt _ _ hd;omega
  ·rename_i h1 h2
   rw [if_neg h1] at hp
   rw [if_neg h2] at hq
   exact S.inj p q a b d e hp hq la lb hd he hde
 ·intro p b hb
  simp only [AH.push,Tr.get_set] at hb
  split at hb
  ·rename_i h1;subst h1;cases hb;exact ⟨c,Mu.add_same _ _ _,hB⟩
  ·obtain ⟨d,h2,h3⟩:=S.at_ p b hb
   exact ⟨d,hle _ _ h2,(h3.mono hle).keep K id⟩
 ·intro p d hd
  unfold Mu.add at hd
  split at hd
  ·cases hd;exact .inr (.inr hc)
  ·exact .inl hd
theorem Sim.move {p:Pos} {B B':AB} {c d:Cl} (S:Sim C P μ h w) (hp:h.put p .dead=some h') (hB:h.m.get p=some B) (hl:wJh B) (hc:μ p=some c) (K:Keep w w' (·=c.1)) (hd:d.1=c.1 \/ w.heap.size <= d.1) (hlt:d.1 < w'.heap.size)
  (hB':AbR C P (μ.add h.nx d) w' d B'):Sim C P (μ.add h.nx d) (h'.push B') w'/\Ext μ h.fl.nat w (μ.add h.nx d) w'/\(h'.push B').fl=h.fl/\(μ.add h.nx d) h.nx=some d:=by
 obtain ⟨hf,rfl⟩:=wHC hp
 have hn:=S.nx h.nx (nG _)
 have hle:=Mu.add_le (c:=d) hn
 have hpn:p ≠ h.nx:=fun e=>by rw [e,hn] at hc;cases hc
 refine ⟨⟨?_,?_,?_,?_⟩,⟨hle,?_,K.weak fun i _ e=>⟨p,c,hc,e.symm,hf⟩⟩,rfl,Mu.add_same _ _ _⟩
 ·intro q hq
  have hq:h.nx.succ.nat <= q.nat:=hq
  rw [Pos.nat_succ] at hq
  unfold Mu.add
  rw [if_neg (fun e=>by subst e;omega)]
  exact S.nx q (by omega)
 ·intro q e he
  unfold Mu.add at he
  split at he
  ·cases he;exact hlt
  ·exact nc (S.lt q e he) K.size
 ·have key:∀ q b e,q ≠ h.nx->((h.m.set p .dead).set h.nx B').get q=some b->wJh b->(μ.add h.nx d) q=some e->e.1 ≠ d.1:=by
   intro q b e hq hb lb he hed
   simp only [Tr.get_set,if_neg hq] at hb
   unfold Mu.add at he
   rw [if_neg hq] at he
   split at hb
   ·cases hb;exact lb
   ·rename_i hqp
    rcases hd with h1 | h1
    ·exact hqp (S.inj q p b B e c hb hB lb hl he hc (hed.trans h1))
    ·have:=S.lt _ _ he;omega
  intro q r a b e f hq hr la lb he hf hef
  by_cases e1:q=h.nx <;> by_cases e2:r=h.nx
  ·rw [e1,e2]
  ·subst e1;rw [Mu.add_same] at he;cases he;exact absurd hef.symm (key r b f e2 hr lb hf)
  ·subst e2;rw [Mu.add_same] at hf;cases hf;exact absurd hef (key q a e e1 hq la he)
  ·simp only [AH.push,Tr.get_set,if_neg e1,if_neg e2] at hq hr
   unfold Mu.add at he hf
   rw [if_neg e1] at he
   rw [if_neg e2] at hf
   split at hq
   ·cases hq;exact la.elim
   ·split at hr
    ·cases hr;exact lb.elim
    ·exact S.inj q r a b e f hq hr la lb he hf hef
 ·intro q b hb
  simp only [AH.push,Tr.get_set] at hb
  split at hb
  ·rename_i h1;subst h1;cases hb;exact ⟨d,Mu.add_same _ _ _,hB'⟩
  ·split at hb
   ·rename_i h1 h2;subst h2;cases hb;exact ⟨c,hle _ _ hc,trivial⟩
   ·rename_i h1 h2
    obtain ⟨e,h3,h4⟩:=S.at_ q b hb
    refine ⟨e,hle _ _ h3,?_⟩
    by_cases lb:wJh b
    ·exact (h4.mono hle).keep K fun e'=>h2 (S.inj q p b B e c hb hB lb hl h3 hc e')
    ·cases b <;> first | trivial | exact (lb trivial).elim
 ·intro q e he
  unfold Mu.add at he
  split at he
  ·cases he
   rcases hd with h1 | h1
   ·exact .inr (.inl ⟨p,c,hc,h1.symm,hf⟩)
   ·exact .inr (.inr h1)
  ·exact .inl he
end
end Go.KX
namespace Go.KX
noncomputable section
open Go.RowKit Go.KL
def aggD:TypeDesc->Bool
 | .struct _ | .array _ _=>true
 | _=>false
def wDe (P:Program) (t:TypeId) (f:TypeDesc->Bool):Bool:=match P.underlying t with
 | some d=>f d
 | none=>false
def szT (P:Program) (t n:Nat):Bool:=match P.info? t with
 | some i=>nB i.size n
 | none=>false
def byT (P:Program) (t n:Nat):Bool:=match P.info? t with
 | some i=>nB i.bytes n
 | none=>false
def zT (P:Program) (t:TypeId) (z:List AV):Bool:=match P.info? t with
 | some i=>match i.zero with
  | some v=>wMa z v.cells.toList
  | none=>false
 | none=>false
section
variable {C:Chk} {P:Program} {μ μ':Mu} {w w':World} {h h':AH} {σ:Env} {σA:Tr AV} {t e:TypeId} {o:Oper}
theorem wAf {f:TypeDesc->Bool} (hc:wDe P t f=true):∃ d,P.underlying t=some d/\f d=true:=by
 unfold wDe at hc
 split at hc
 ·exact ⟨_,by assumption,hc⟩
 ·cases hc
theorem wAg {d:TypeDesc} (hu:P.underlying t=some d) (w:World):(underlying t).run P w=.ok d w:=run_underlying hu w
theorem wCx {n:Nat} (hc:szT P t n=true) (w:World):(sizeOf t).run P w=.ok n w:=by
 unfold szT at hc
 split at hc
 ·rename_i i hi
  rw [<- nA hc]
  simp [sizeOf,typeInfo,hi]
 ·cases hc
theorem wFR {n:Nat} (hc:szT P t n=true):∃ i,P.info? t=some i/\i.size=n:=by
 unfold szT at hc
 split at hc
 ·rename_i i hi;exact ⟨i,hi,nA hc⟩
 ·cases hc
theorem wFS {n:Nat} (hc:byT P t n=true):∃ i,P.info? t=some i/\i.bytes=n:=by
 unfold byT at hc
 split at hc
 ·rename_i i hi;exact ⟨i,hi,nA hc⟩
 ·cases hc
theorem wEO {z:List AV} (hc:zT P t z=true):∃ i v,P.info? t=some i/\i.zero=some v/\∀ μ,RvL μ z v.cells.toList:=by
 unfold zT at hc
 split at hc
 ·rename_i i hi
  split at hc
  ·rename_i v hv;exact ⟨i,v,hi,hv,fun μ=>wFA μ hc⟩
  ·cases hc
 ·cases hc
theorem wCy {i:TypeInfo} {z:Value} (hi:P.info? t=some i) (hz:i.zero=some z) (w:World):(zeroValue t).run P w=.ok z w:=by
 simp [zeroValue,typeInfo,hi,hz]
theorem wFq {d:TypeDesc} (hu:P.underlying t=some d) (w:World):(isAgg t).run P w=.ok (aggD d) w:=by
 simp only [isAgg,Sem.run_bind,wAg hu,Result.andThen_ok]
 cases d <;> rfl
def wMb (P:Program) (t:TypeId) (b:Bool):Bool:=wDe P t fun d=>aggD d == b
theorem wDm {b:Bool} (hc:wMb P t b=true) (w:World):(isAgg t).run P w=.ok b w:=by
 obtain ⟨d,h1,h2⟩:=wAf hc
 rw [wFq h1,eq_of_beq h2]
def OkP (P:Program) (op:Op) (f:Tr AV->AH->Option (AV × AH)):Prop :=
 ∀ σA h v h',f σA h=some (v,h')->h'=h/\∀ μ σ,EnvR μ σA σ->∃ cv,Rv μ v cv/\∀ (o:Oper) (w:World),o.op=op->Runs P σ w o cv w
def c_mv (x:AOd):Op->Bool
 | .move y | .assign y=>wBd x y
 | _=>false
theorem p_mv {x:AOd} {op:Op} (hc:c_mv x op=true):OkP P op (wOs x):=by
 intro σA h v h' hr
 cases hr
 refine ⟨rfl,fun μ σ hE=>?_⟩
 unfold c_mv at hc
 split at hc
 ·exact ⟨_,wAH hc hE,fun o w ho=>Runs.mv ho rfl⟩
 ·exact ⟨_,wAH hc hE,fun o w ho=>Runs.as ho rfl⟩
 ·cases hc
def wKv (c x y:AOd):Op->Bool
 | .pick c' x' y'=>wBd c c' && (wBd x x' && wBd y y')
 | _=>false
theorem wPQ {c x y:AOd} {op:Op} (hc:wKv c x y op=true):OkP P op (wFh c x y):=by
 intro σA h v h' hr
 unfold wKv at hc
 split at hc
 ·rename_i c' x' y'
  simp only [hH] at hc
  unfold wFh at hr
  split at hr
  ·rename_i hb;cases hr
   exact ⟨rfl,fun μ σ hE=>⟨_,wAH hc.2.1 hE,fun o w ho=>Runs.pickT ho (by have:=wAH hc.1 hE;rw [hb] at this;exact this) rfl⟩⟩
  ·rename_i hb;cases hr
   exact ⟨rfl,fun μ σ hE=>⟨_,wAH hc.2.2 hE,fun o w ho=>Runs.pickF ho (by have:=wAH hc.1 hE;rw [hb] at this;exact this) rfl⟩⟩
  ·cases hr
 ·cases hc
def wKw (x:AOd):Op->Bool
 | .nilCheck y=>wBd x y
 | _=>false
theorem wPR {x:AOd} {op:Op} (hc:wKw x op=true):OkP P op (wFi x):=by
 intro σA h v h' hr
 unfold wKw at hc
 split at hc
 ·unfold wFi at hr
  split at hr
  ·rename_i hb;cases hr
   refine ⟨rfl,fun μ σ hE=>?_⟩
   have:=wAH hc hE;rw [hb] at this
   refine ⟨_,this,fun o w ho=>?_⟩
   obtain ⟨c,h1,h2⟩:=this
   rw [h2];exact Runs.nilp ho h2
  ·rename_i hb;cases hr
   refine ⟨rfl,fun μ σ hE=>?_⟩
   have:=wAH hc hE;rw [hb] at this
   refine ⟨_,this,fun o w ho=>?_⟩
   obtain ⟨fv,cv,_,_,h2⟩:=this
   rw [h2];exact Runs.nilf ho h2
  ·rename_i hb;cases hr
   refine ⟨rfl,fun μ σ hE=>?_⟩
   have:=wAH hc hE;rw [hb] at this
   refine ⟨_,this,fun o w ho=>?_⟩
   obtain ⟨c,h1,h2⟩:=this
   rw [h2];exact Runs.nily ho h2
  ·cases hr
 ·cases hc
theorem wHD {k:IntKind} {n:Int} (hk:inK k n=true):k.wrap n=n:=by
 unfold inK at hk
 split at hk <;> (try simp only [nE] at hk) <;> (try simp only [IntKind.wrap_i64,IntKind.wrap_u8,IntKind.wrap_u32,Go.IntKind.wrap_u64,nw,nY]) <;> first | omega | cases hk
theorem wBN {x:Option AV} {v:AV} (hr:okV h x=some (v,h')):x=some v/\h'=h:=by
 cases x <;> cases hr;exact ⟨rfl,rfl⟩
theorem wBG {α:Type} {b:Bool} {x:Option α} {v:α} (hr:ifO b x=some v):b=true/\x=some v:=by
 cases b
 ·cases hr
 ·exact ⟨rfl,hr⟩
theorem wGc {f:Int->Int->Int} {x y v:AV} (hr:wII f x y=some v):∃ k a b,x=.int k a/\y=.int k b/\v=.int k (f a b)/\k.wrap (f a b)=f a b:=by
 unfold wII at hr
 split at hr
 ·rename_i k a k' b
  split at hr
  ·rename_i hk
   split at hr
   ·rename_i hi;cases hr;exact ⟨k,a,b,rfl,by rw [wBL hk],rfl,wHD hi⟩
   ·cases hr
  ·cases hr
 ·cases hr
theorem wMc {f:Int->Int->Int} {x y v:AV} (hr:div f x y=some v):∃ k a b,x=.int k a/\y=.int k b/\v=.int k (f a b)/\k.wrap (f a b)=f a b/\b ≠ 0:=by
 unfold div at hr
 split at hr
 ·rename_i k a k' b
  split at hr
  ·rename_i hk
   split at hr
   ·cases hr
   ·rename_i hz
    split at hr
    ·rename_i hi;cases hr
     exact ⟨k,a,b,rfl,by rw [wBL hk],rfl,wHD hi,fun e=>by rw [wJB.2 e] at hz;cases hz⟩
    ·cases hr
  ·cases hr
 ·cases hr
theorem wKx {f:Int->Int->Bool} {x y v:AV} (hr:wMV f x y=some v):∃ k a b,x=.int k a/\y=.int k b/\v=.bool (f a b):=by
 unfold wMV at hr
 split at hr
 ·rename_i k a k' b
  split at hr
  ·rename_i hk;cases hr;exact ⟨k,a,b,rfl,by rw [wBL hk],rfl⟩
  ·cases hr
 ·cases hr
def wCH (b:BinOp) (x y:AOd):Op->Bool
 | .binOp b' _ x' y' _=>(b' == b) && (wBd x x' && wBd y y')
 | _=>false
theorem wEg {b:BinOp} {x y:AOd} {op:Op} (hc:wCH b x y op=true):∃ t x' y' t',op=.binOp b t x' y' t'/\wBd x x'=true/\wBd y y'=true:=by
 unfold wCH at hc
 split at hc
 ·rename_i b' t x' y' t'
  simp only [hH,beq_iff_eq] at hc
  obtain ⟨rfl,h1,h2⟩:=hc
  exact ⟨t,x',y',t',rfl,h1,h2⟩
 ·cases hc
theorem wIa {b:BinOp} {f:Int->Int->Int} {x y:AOd} {op:Op} (hc:wCH b x y op=true)
  (hrun:∀ (o:Oper) (σ:Env) (w:World) t x' y' t' k m n,o.op=.binOp b t x' y' t'->ev σ x'=.int k m->ev σ y'=.int k n->Runs P σ w o (.int k (k.wrap (f m n))) w) :
  OkP P op (fun σ h=>okV h (wII f (evA σ x) (evA σ y))):=by
 intro σA h v h' hr
 obtain ⟨t,x',y',t',rfl,h1,h2⟩:=wEg hc
 obtain ⟨hr2,rfl⟩:=wBN hr
 obtain ⟨k,m,n,e1,e2,rfl,e3⟩:=wGc hr2
 refine ⟨rfl,fun μ σ hE=>⟨_,rfl,fun o w ho=>?_⟩⟩
 have g1:=wAH h1 hE;rw [e1] at g1
 have g2:=wAH h2 hE;rw [e2] at g2
 have:=hrun o σ w t x' y' t' k m n ho g1 g2
 rwa [e3] at this
theorem p_add {x y:AOd} {op:Op} (hc:wCH .add x y op=true):OkP P op (wKR x y) :=
 wIa hc fun o σ w t x' y' t' k m n ho h1 h2=>⟨by rw [ho];rfl,by simp [execOp,ho,h1,h2,binOp,eqGuard,Op.intArith]⟩
theorem p_sub {x y:AOd} {op:Op} (hc:wCH .sub x y op=true):OkP P op (wKS x y) :=
 wIa hc fun o σ w t x' y' t' k m n ho h1 h2=>⟨by rw [ho];rfl,by simp [execOp,ho,h1,h2,binOp,eqGuard,Op.intArith];rfl⟩
theorem p_mul {x y:AOd} {op:Op} (hc:wCH .mul x y op=true):OkP P op (wKT x y) :=
 wIa hc fun o σ w t x' y' t' k m n ho h1 h2=>⟨by rw [ho];rfl,by simp [execOp,ho,h1,h2,binOp,eqGuard,Op.intArith]⟩
theorem wPS {b:BinOp} {f:Int->Int->Int} {x y:AOd} {op:Op} (hc:wCH b x y op=true)
  (hrun:∀ (o:Oper) (σ:Env) (w:World) t x' y' t' k m n,o.op=.binOp b t x' y' t'->ev σ x'=.int k m->ev σ y'=.int k n->n ≠ 0->k.wrap (f m n)=f m n->Runs P σ w o (.int k (f m n)) w) :
  OkP P op (fun σ h=>okV h (div f (evA σ x) (evA σ y))):=by
 intro σA h v h' hr
 obtain ⟨t,x',y',t',rfl,h1,h2⟩:=wEg hc
 obtain ⟨hr2,rfl⟩:=wBN hr
 obtain ⟨k,m,n,e1,e2,rfl,e3,e4⟩:=wMc hr2
 refine ⟨rfl,fun μ σ hE=>⟨_,rfl,fun o w ho=>?_⟩⟩
 have g1:=wAH h1 hE;rw [e1] at g1
 have g2:=wAH h2 hE;rw [e2] at g2
 exact hrun o σ w t x' y' t' k m n ho g1 g2 e4 e3
theorem p_quo {x y:AOd} {op:Op} (hc:wCH .quo x y op=true):OkP P op (wKU x y) :=
 wPS hc fun o σ w t x' y' t' k m n ho h1 h2 h3 h4=>⟨by rw [ho];rfl,by simp [execOp,ho,h1,h2,binOp,eqGuard,Op.intDiv,h3,h4]⟩
theorem p_rem {x y:AOd} {op:Op} (hc:wCH .rem x y op=true):OkP P op (wKV x y) :=
 wPS hc fun o σ w t x' y' t' k m n ho h1 h2 h3 h4=>⟨by rw [ho];rfl,by simp [execOp,ho,h1,h2,binOp,eqGuard,Op.intDiv,h3]⟩
theorem wJi {b:BinOp} {f:Int->Int->Bool} {x y:AOd} {op:Op} (hc:wCH b x y op=true)
  (hrun:∀ (o:Oper) (σ:Env) (w:World) t x' y' t' k m n,o.op=.binOp b t x' y' t'->ev σ x'=.int k m->ev σ y'=.int k n->Runs P σ w o (.bool (f m n)) w) :
  OkP P op (fun σ h=>okV h (wMV f (evA σ x) (evA σ y))):=by
 intro σA h v h' hr
 obtain ⟨t,x',y',t',rfl,h1,h2⟩:=wEg hc
 obtain ⟨hr2,rfl⟩:=wBN hr
 obtain ⟨k,m,n,e1,e2,rfl⟩:=wKx hr2
 refine ⟨rfl,fun μ σ hE=>⟨_,rfl,fun o w ho=>?_⟩⟩
 have g1:=wAH h1 hE;rw [e1] at g1
 have g2:=wAH h2 hE;rw [e2] at g2
 exact hrun o σ w t x' y' t' k m n ho g1 g2
theorem p_lss {x y:AOd} {op:Op} (hc:wCH .lss x y op=true):OkP P op (wKW x y) :=
 wJi hc fun o σ w t x' y' t' k m n ho h1 h2=>(Runs.lss ho h1 h2).to (by rw [wFp])
theorem p_leq {x y:AOd} {op:Op} (hc:wCH .leq x y op=true):OkP P op (wKX x y) :=
 wJi hc fun o σ w t x' y' t' k m n ho h1 h2=>(Runs.leq ho h1 h2).to (by rw [wKt])
theorem p_gtr {x y:AOd} {op:Op} (hc:wCH .gtr x y op=true):OkP P op (wKY x y) :=
 wJi hc fun o σ w t x' y' t' k m n ho h1 h2=>(Runs.gtr ho h1 h2).to (by rw [wFp])
theorem p_geq {x y:AOd} {op:Op} (hc:wCH .geq x y op=true):OkP P op (wKZ x y) :=
 wJi hc fun o σ w t x' y' t' k m n ho h1 h2=>(Runs.geq ho h1 h2).to (by rw [wKt])
theorem p_eql {x y:AOd} {op:Op} (hc:wCH .eql x y op=true):OkP P op (wKa x y) :=
 wJi hc fun o σ w t x' y' t' k m n ho h1 h2=>(Runs.eql ho h1 h2).to (by rw [wDS])
theorem p_neq {x y:AOd} {op:Op} (hc:wCH .neq x y op=true):OkP P op (wKb x y) :=
 wJi hc fun o σ w t x' y' t' k m n ho h1 h2=>(Runs.neq ho h1 h2).to (by rw [wDS];simp)
def wNp (x:AOd):Op->Bool
 | .unOp .neg _ y=>wBd x y
 | _=>false
theorem p_neg {x:AOd} {op:Op} (hc:wNp x op=true):OkP P op (wKc x):=by
 intro σA h v h' hr
 unfold wNp at hc
 split at hc
 ·obtain ⟨hr2,rfl⟩:=wBN hr
  obtain ⟨k,m,n,e1,e2,rfl,e3⟩:=wGc hr2
  rw [e2] at e1
  simp only at e1
  cases e1
  refine ⟨rfl,fun μ σ hE=>⟨_,rfl,fun o w ho=>?_⟩⟩
  have g2:=wAH hc hE;rw [e2] at g2
  refine ⟨by rw [ho];rfl,?_⟩
  have:ev σ _=.int k n:=g2
  simp only [execOp,ho,this,Op.unary,Op.intArith,Sem.run_bind,Sem.run_pure,Result.andThen_ok]
  rw [show (0:Int) - n=Int.sub 0 n from rfl,e3]
 ·cases hc
def wNq (x:AOd):Op->Bool
 | .unOp .not _ y=>wBd x y
 | _=>false
theorem p_not {x:AOd} {op:Op} (hc:wNq x op=true):OkP P op (wIM x):=by
 intro σA h v h' hr
 unfold wNq at hc
 split at hc
 ·unfold wIM at hr
  split at hr
  ·rename_i hb;cases hr
   refine ⟨rfl,fun μ σ hE=>⟨_,rfl,fun o w ho=>?_⟩⟩
   have g:=wAH hc hE;rw [hb] at g
   exact Runs.not ho g
  ·cases hr
 ·cases hc
def wKy:TypeDesc->Option IntKind
 | .int k=>some k
 | _=>none
def wNr (k:IntKind) (x:AOd):Op->Bool
 | .convert s t y=>wDe P s (fun d=>(wKy d).isSome) && (wDe P t (fun d=>match wKy d with | some k'=>keq k k' | none=>false) && wBd x y)
 | _=>false
theorem p_cvt {k:IntKind} {x:AOd} {op:Op} (hc:wNr (P:=P) k x op=true):OkP P op (wIN k x):=by
 intro σA h v h' hr
 unfold wNr at hc
 split at hc
 ·simp only [hH] at hc
  obtain ⟨c1,c2,c3⟩:=hc
  unfold wIN at hr
  split at hr
  ·rename_i k0 n hb
   obtain ⟨hi,hr⟩:=wBG hr
   cases hr
   refine ⟨rfl,fun μ σ hE=>⟨_,rfl,fun o w ho=>?_⟩⟩
   have g:=wAH c3 hE;rw [hb] at g
   obtain ⟨d,d1,d2⟩:=wAf c1
   obtain ⟨e,e1,e2⟩:=wAf c2
   cases d <;> first | (cases d2;done) | skip
   cases e <;> first | (cases e2;done) | skip
   have:=wBL e2
   subst this
   have g':ev σ _=.int k0 n:=g
   exact ⟨by rw [ho];rfl,by simp [execOp,ho,g',convert,wAg d1,wAg e1,Conv.intToInt,wHD hi]⟩
  ·cases hr
 ·cases hc
def wNs (f:Pos) (fi ca:List AOd):Op->Bool
 | .makeFunc (.func g) fi' ca'=>nB f.nat (g + 1) && (wHn fi fi'.toList && wHn ca ca'.toList)
 | _=>false
theorem p_mkf {f:Pos} {fi ca:List AOd} {op:Op} (hc:wNs f fi ca op=true):OkP P op (wJe f fi ca):=by
 intro σA h v h' hr
 cases hr
 unfold wNs at hc
 split at hc
 ·simp only [hH] at hc
  obtain ⟨c1,c2,c3⟩:=hc
  refine ⟨rfl,fun μ σ hE=>⟨_,⟨_,_,wFQ c2 hE,wFQ c3 hE,rfl⟩,fun o w ho=>?_⟩⟩
  have e:=nA c1
  refine ⟨by rw [ho];rfl,?_⟩
  simp [execOp,ho,Instr.makeFunc,e,<- kc]
 ·cases hc
def wNt (i:Nat) (x:AOd):Op->Bool
 | .extract y j=>nB i j && wBd x y
 | _=>false
theorem p_ext {i:Nat} {x:AOd} {op:Op} (hc:wNt i x op=true):OkP P op (wIT i x):=by
 intro σA h v h' hr
 unfold wNt at hc
 split at hc
 ·simp only [hH] at hc
  have e:=nA hc.1
  subst e
  unfold wIT at hr
  split at hr
  ·rename_i l hb
   obtain ⟨hr2,rfl⟩:=wBN hr
   refine ⟨rfl,fun μ σ hE=>?_⟩
   have g:=wAH hc.2 hE;rw [hb] at g
   obtain ⟨vs,g1,g2⟩:=g
   rw [wFH] at hr2
   obtain ⟨cv,g3,g4⟩:=wEM g1 hr2
   exact ⟨cv,g4,fun o w ho=>Runs.ext ho g2 (by simpa using g3)⟩
  ·cases hr
 ·cases hc
end
end
end Go.KX
namespace Go.KX
noncomputable section
open Go.RowKit Go.KL
section
variable {C:Chk} {P:Program} {μ μ':Mu} {w w':World} {h h':AH} {σ:Env} {σA:Tr AV} {t e:TypeId} {o:Oper}
def wNu (P:Program) (ne:Bool) (x y:AOd):Op->Bool
 | .binOp b t x' y' _=>(match ne with | true=>b == .neq | false=>b == .eql) && (wDe P t (fun d=>match d with | .bool=>true | _=>false) && (wBd x x' && wBd y y'))
 | _=>false
theorem wGd (ne b:Bool):(ne != b)=(match ne with | true=>!b | false=>b):=by cases ne <;> cases b <;> rfl
theorem p_eqb {ne:Bool} {x y:AOd} {op:Op} (hc:wNu P ne x y op=true):OkP P op (wIJ ne x y):=by
 intro σA h v h' hr
 unfold wNu at hc
 split at hc
 ·simp only [hH] at hc
  obtain ⟨c0,c1,c2,c3⟩:=hc
  unfold wIJ at hr
  split at hr
  ·rename_i a b e1 e2
   cases hr
   refine ⟨rfl,fun μ σ hE=>⟨_,rfl,fun o w ho=>?_⟩⟩
   have g1:=wAH c2 hE;rw [e1] at g1
   have g2:=wAH c3 hE;rw [e2] at g2
   obtain ⟨d,d1,d2⟩:=wAf c1
   cases d <;> first | (cases d2;done) | skip
   cases ne
   ·have:=eq_of_beq c0;subst this
    exact (Runs.eqB ho g1 g2 (wAg d1)).to (by rw [wGd])
   ·have:=eq_of_beq c0;subst this
    exact (Runs.neB ho g1 g2 (wAg d1)).to (by rw [wGd])
  ·cases hr
 ·cases hc
def nilD (k:Nat) (d:TypeDesc):Bool:=match k,d with
 | 0,.pointer _=>true
 | 1,.slice _=>true
 | 2,.map _ _=>true
 | 3,.func _ _ _=>true
 | _,_=>false
theorem wKz {k:Nat} {d:TypeDesc} {a b:AV} {r:Bool} {x y:Value} (hu:P.underlying t=some d) (hd:nilD k d=true) (hr:wJa k a b=some r) (hx:Rv μ a x) (hy:Rv μ b y) (w:World):(Op.equal t x y).run P w=.ok r w:=by
 unfold Op.equal Op.maxDepth
 rw [show (10000:Nat)=9999 + 1 from rfl,Op.equalIn]
 unfold wJa at hr
 split at hr <;> cases hr <;> simp only [Rv] at hx hy <;> (cases d <;> first | (cases hd;done) | skip) <;>
  (try obtain ⟨_,_,_,_,_,rfl⟩:=hx) <;> (try obtain ⟨_,_,_,_,rfl⟩:=hx) <;> (try obtain ⟨_,_,_,rfl⟩:=hx) <;> (try obtain ⟨_,_,rfl⟩:=hx) <;> (try subst hx) <;>
  (try obtain ⟨_,_,_,_,_,rfl⟩:=hy) <;> (try obtain ⟨_,_,_,_,rfl⟩:=hy) <;> (try obtain ⟨_,_,_,rfl⟩:=hy) <;> (try obtain ⟨_,_,rfl⟩:=hy) <;> (try subst hy) <;>
  simp only [Sem.run_bind,wAg hu,Result.andThen_ok,Sem.run_pure] <;> rfl
theorem wIb {k:Nat} {a b:AV} {r:Bool} {x y:Value} (hr:wJa k a b=some r) (hx:Rv μ a x) (hy:Rv μ b y) (op:BinOp) (p q:Operand) (w:World):(eqGuard op t p q x y).run P w=.ok () w:=by
 unfold wJa at hr
 split at hr <;> cases hr <;> simp only [Rv] at hx hy <;>
  (try obtain ⟨_,_,_,_,_,rfl⟩:=hx) <;> (try obtain ⟨_,_,_,_,rfl⟩:=hx) <;> (try obtain ⟨_,_,_,rfl⟩:=hx) <;> (try obtain ⟨_,_,rfl⟩:=hx) <;> (try subst hx) <;>
  (try obtain ⟨_,_,_,_,_,rfl⟩:=hy) <;> (try obtain ⟨_,_,_,_,rfl⟩:=hy) <;> (try obtain ⟨_,_,_,rfl⟩:=hy) <;> (try obtain ⟨_,_,rfl⟩:=hy) <;> (try subst hy) <;>
  simp only [eqGuard] <;> (cases op <;> rfl)
def wNv (P:Program) (k:Nat) (ne:Bool) (x y:AOd):Op->Bool
 | .binOp b t x' y' _=>(match ne with | true=>b == .neq | false=>b == .eql) && (wDe P t (nilD k) && (wBd x x' && wBd y y'))
 | _=>false
theorem p_eqn {k:Nat} {ne:Bool} {x y:AOd} {op:Op} (hc:wNv P k ne x y op=true):OkP P op (wIK k ne x y):=by
 intro σA h v h' hr
 unfold wNv at hc
 split at hc
 ·rename_i b t x' y' t'
  simp only [hH] at hc
  obtain ⟨c0,c1,c2,c3⟩:=hc
  unfold wIK at hr
  split at hr
  ·rename_i r e1
   cases hr
   refine ⟨rfl,fun μ σ hE=>⟨_,rfl,fun o w ho=>?_⟩⟩
   have g1:=wAH c2 hE
   have g2:=wAH c3 hE
   obtain ⟨d,d1,d2⟩:=wAf c1
   have g3:=wKz d1 d2 e1 g1 g2
   have g4:=fun op=>wIb (P:=P) (t:=t) e1 g1 g2 op x' y'
   refine ⟨by rw [ho];rfl,?_⟩
   generalize hX:ev σ x'=X at g1 g3 g4
   generalize hY:ev σ y'=Y at g2 g3 g4
   have nint:(∀ k n,X ≠ .int k n)/\(∀ k n,X ≠ .float k n)/\(∀ k n m,X ≠ .complex k n m)/\(∀ s,X ≠ .string s):=by
    unfold wJa at e1
    split at e1 <;> cases e1 <;> rename_i e2 e3 <;> rw [e2] at g1 <;> simp only [Rv] at g1 <;>
     (try obtain ⟨_,_,_,_,_,rfl⟩:=g1) <;> (try obtain ⟨_,_,_,_,rfl⟩:=g1) <;> (try obtain ⟨_,_,_,rfl⟩:=g1) <;> (try obtain ⟨_,_,rfl⟩:=g1) <;> (try subst g1) <;>
     exact ⟨by simp,by simp,by simp,by simp⟩
   obtain ⟨n1,n2,n3,n4⟩:=nint
   cases ne
   ·have:=eq_of_beq c0;subst this
    simp only [execOp,ho,Sem.run_bind,hX,hY,g4 .eql w,Result.andThen_ok]
    have:(binOp .eql t X Y).run P w=.ok (.bool r) w:=by
     cases X <;> first | exact absurd rfl (n1 _ _) | exact absurd rfl (n2 _ _) | exact absurd rfl (n3 _ _ _) | exact absurd rfl (n4 _) | (simp only [binOp,Sem.run_bind,g3 w,Result.andThen_ok];rfl)
    rw [this]
    simp [wGd]
   ·have:=eq_of_beq c0;subst this
    simp only [execOp,ho,Sem.run_bind,hX,hY,g4 .neq w,Result.andThen_ok]
    have:(binOp .neq t X Y).run P w=.ok (.bool (!r)) w:=by
     cases X <;> first | exact absurd rfl (n1 _ _) | exact absurd rfl (n2 _ _) | exact absurd rfl (n3 _ _ _) | exact absurd rfl (n4 _) | (simp only [binOp,Sem.run_bind,g3 w,Result.andThen_ok];rfl)
    rw [this]
    simp [wGd]
  ·cases hr
 ·cases hc
mutual
def Sh.depth:Sh->Nat
 | .int=>1
 | .bool=>1
 | .str fs=>wJC fs + 1
def wJC:List (Nat × Nat × Sh)->Nat
 | []=>0
 | (_,_,s) :: fs=>Nat.max s.depth (wJC fs)
end
mutual
def wIc (P:Program):Sh->TypeId->Bool
 | .int,t=>wDe P t fun d=>(wKy d).isSome
 | .bool,t=>wDe P t fun d=>match d with | .bool=>true | _=>false
 | .str fs,t=>(!P.stoodInHeld t) && wDe P t fun d=>match d with | .struct gs=>wJj P fs gs.toList | _=>false
def wJj (P:Program):List (Nat × Nat × Sh)->List Field->Bool
 | [],[]=>true
 | (off, sz, s) :: fs, g :: gs => (g.name != "_") && (nB g.offset off && (szT P g.type sz && (wIc P s g.type && wJj P fs gs)))
 | _,_=>false
end
theorem wLA {s:Sh} (hc:wIc P s t=true) (w:World):(isAgg t).run P w=.ok (match s with | .str _=>true | _=>false) w:=by
 cases s with
 | int =>
  obtain ⟨d,h1,h2⟩:=wAf hc
  rw [wFq h1];cases d <;> first | rfl | cases h2
 | bool =>
  obtain ⟨d,h1,h2⟩:=wAf hc
  rw [wFq h1];cases d <;> first | rfl | cases h2
 | str fs =>
  simp only [wIc,hH] at hc
  obtain ⟨d,h1,h2⟩:=wAf hc.2
  rw [wFq h1];cases d <;> first | rfl | cases h2
theorem wHo {s:Sh} {l:List AV} {vs:List Value} {off sz:Nat} {a:AV} (hc:wIc P s t=true) (hz:szT P t sz=true) (hp:wMW s l off sz=some a) (hl:RvL μ l vs):∃ v,Rv μ a v/\∀ w,(part t vs.toArray off).run P w=.ok v w:=by
 have hag:=wLA hc
 unfold wMW at hp
 split at hp
 ·split at hp
  ·rename_i r hs
   cases hp
   obtain ⟨h1,h2⟩:=wEN hs hl
   exact ⟨_,⟨_,h1,rfl⟩,fun w=>wGs hag (wCx hz) rfl⟩
  ·cases hp
 ·rename_i hne
  rw [wFH] at hp
  obtain ⟨v,h1,h2⟩:=wEM hl hp
  refine ⟨v,h2,fun w=>wEY (fun w=>?_) h1⟩
  rw [hag w]
  cases s <;> first | rfl | exact absurd rfl (hne _)
mutual
theorem wJD:∀ (s:Sh) (t:TypeId) (d:Nat) (a b:AV) (x y:Value) (r:Bool),wIc P s t=true->s.depth <= d->wMX s a b=some r->Rv μ a x->Rv μ b y->∀ w,(Op.equalIn d t x y).run P w=.ok r w
 | .int,t,d,a,b,x,y,r,hc,hd,hr,hx,hy,w=>by
  obtain ⟨d,rfl⟩:∃ e,d=e + 1:=⟨d - 1,by simp only [Sh.depth] at hd;omega⟩
  unfold wMX at hr
  split at hr <;> first | (cases hr;done) | skip
  all_goals (try (rename_i h0;cases h0))
  split at hr <;> cases hr
  rename_i hk
  obtain ⟨dd,d1,d2⟩:=wAf hc
  cases dd <;> first | (cases d2;done) | skip
  simp only [Rv] at hx hy
  subst hx hy
  have:=wBL hk;subst this
  simp [Op.equalIn,wAg d1,wDS,wID]
 | .bool,t,d,a,b,x,y,r,hc,hd,hr,hx,hy,w=>by
  obtain ⟨d,rfl⟩:∃ e,d=e + 1:=⟨d - 1,by simp only [Sh.depth] at hd;omega⟩
  unfold wMX at hr
  split at hr <;> first | (cases hr;done) | skip
  all_goals (try (rename_i h0;cases h0))
  cases hr
  obtain ⟨dd,d1,d2⟩:=wAf hc
  cases dd <;> first | (cases d2;done) | skip
  simp only [Rv] at hx hy
  subst hx hy
  simp [Op.equalIn,wAg d1]
 | .str fs,t,d,a,b,x,y,r,hc,hd,hr,hx,hy,w=>by
  simp only [Sh.depth] at hd
  obtain ⟨d,rfl⟩:∃ e,d=e + 1:=⟨d - 1,by omega⟩
  unfold wMX at hr
  split at hr <;> first | (cases hr;done) | skip
  all_goals (try (rename_i h0;cases h0))
  simp only [wIc,hH,nh] at hc
  obtain ⟨dd,d1,d2⟩:=wAf hc.2
  cases dd <;> first | (cases d2;done) | skip
  rename_i gs
  obtain ⟨xs,h1,rfl⟩:=hx
  obtain ⟨ys,h2,rfl⟩:=hy
  have hf:P.fieldsOf t=gs:=by unfold Program.fieldsOf;rw [d1]
  rw [run_equalIn_agg w d t _ _ (by rw [hf];exact d1) hc.1,hf]
  exact wJE fs gs.toList d _ _ xs ys r d2 (by omega) hr h1 h2 w
theorem wJE:∀ (fs:List (Nat × Nat × Sh)) (gs:List Field) (d:Nat) (l k:List AV) (xs ys:List Value) (r:Bool),wJj P fs gs=true->wJC fs <= d->wPK fs l k=some r->RvL μ l xs->RvL μ k ys ->
  ∀ w,(Op.eqFields d xs.toArray ys.toArray gs).run P w=.ok r w
 | [],[],d,l,k,xs,ys,r,hc,hd,hr,hx,hy,w=>by
  simp only [wPK] at hr;cases hr;rfl
 | (off,sz,s) :: fs,g :: gs,d,l,k,xs,ys,r,hc,hd,hr,hx,hy,w=>by
  simp only [wJj,hH] at hc
  obtain ⟨c1,c2,c3,c4,c5⟩:=hc
  have e:=nA c2
  subst e
  simp only [wPK] at hr
  split at hr
  ·rename_i a b ha hb
   obtain ⟨u,u1,u2⟩:=wHo c4 c3 ha hx
   obtain ⟨v,v1,v2⟩:=wHo c4 c3 hb hy
   have hne : g.name ≠ "_" := by simpa using c1
   have hd1:s.depth <= d:=nW (Nat.le_max_left _ _) hd
   have hd2:wJC fs <= d:=nW (Nat.le_max_right _ _) hd
   cases hq:wMX s a b with
   | none=>rw [hq] at hr;cases hr
   | some q =>
    have hE:=wJD s g.type d a b u v q c4 hd1 hq u1 v1
    rw [hq] at hr
    cases q with
    | true =>
     simp only at hr
     have hF:=wJE fs gs d l k xs ys r c5 hd2 hr hx hy
     simp [Op.eqFields,hne,u2,v2,hE,hF,Result.andThen]
    | false =>
     simp only [nJ] at hr
     subst hr
     simp [Op.eqFields,hne,u2,v2,hE,Result.andThen]
  ·cases hr
 | [],_ :: _,d,l,k,xs,ys,r,hc,hd,hr,hx,hy,w=>by simp [wJj] at hc
 | _ :: _,[],d,l,k,xs,ys,r,hc,hd,hr,hx,hy,w=>by simp [wJj] at hc
end
theorem wMd {fs:List (Nat × Nat × Sh)} {r:Bool}:∀ {a b:AV},wMX (.str fs) a b=some r->∃ l k,a=.agg l/\b=.agg k:=by
 intro a b h
 cases a <;> cases b <;> first | exact ⟨_,_,rfl,rfl⟩ | (simp [wMX] at h;done)
def wNw (P:Program) (ne:Bool) (s:Sh) (x y:AOd):Op->Bool
 | .binOp b t x' y' _=>(match ne with | true=>b == .neq | false=>b == .eql) && (kE s.depth 10000 && (wIc P s t && ((match s with | .str _=>true | _=>false) && ((!P.eqGuardType P.depth t) && (wBd x x' && wBd y y')))))
 | _=>false
theorem p_eqs {ne:Bool} {s:Sh} {x y:AOd} {op:Op} (hc:wNw P ne s x y op=true):OkP P op (wIL ne s x y):=by
 intro σA h v h' hr
 unfold wNw at hc
 split at hc
 ·rename_i b t x' y' t'
  simp only [hH,nh] at hc
  obtain ⟨c0,c1,c2,c3,c4,c5,c6⟩:=hc
  unfold wIL at hr
  split at hr
  ·rename_i r e1
   cases hr
   refine ⟨rfl,fun μ σ hE=>⟨_,rfl,fun o w ho=>?_⟩⟩
   have g1:=wAH c5 hE
   have g2:=wAH c6 hE
   have g3:∀ w,(Op.equal t (ev σ x') (ev σ y')).run P w=.ok r w:=wJD s t 10000 _ _ _ _ r c2 (nK c1) e1 g1 g2
   cases s <;> first | (cases c3;done) | skip
   obtain ⟨l,k,h1,h2⟩:=wMd e1
   rw [h1] at g1;rw [h2] at g2
   obtain ⟨xs,_,g1⟩:=g1
   obtain ⟨ys,_,g2⟩:=g2
   rw [g1,g2] at g3
   refine ⟨by rw [ho];rfl,?_⟩
   cases ne
   ·have:=eq_of_beq c0;subst this
    simp [execOp,ho,g1,g2,binOp,eqGuard,c4,g3,wGd]
   ·have:=eq_of_beq c0;subst this
    simp [execOp,ho,g1,g2,binOp,eqGuard,c4,g3,wGd]
  ·cases hr
 ·cases hc
end
end
end Go.KX
namespace Go.KX
noncomputable section
open Go.RowKit Go.KL
section
variable {C:Chk} {P:Program} {μ μ':Mu} {w w':World} {h h':AH} {σ:Env} {σA:Tr AV} {t e:TypeId} {o:Oper}
def wNx (P:Program) (off:Nat) (x:AOd):Op->Bool
 | .fieldAddr t y i=>wDe P t (fun d=>match d with
   | .struct fs=>match fs[i]? with
    | some f=>nB f.offset off && (match P.info? f.type with | some j=>na 0 j.size | none=>false)
    | none=>false
   | _=>false) && wBd x y
 | _=>false
theorem p_fad {off:Nat} {x:AOd} {op:Op} (hc:wNx P off x op=true):OkP P op (wIP off x):=by
 intro σA h v h' hr
 unfold wNx at hc
 split at hc
 ·rename_i t y i
  simp only [hH] at hc
  obtain ⟨c1,c2⟩:=hc
  unfold wIP at hr
  split at hr
  ·rename_i b oo hb
   cases hr
   refine ⟨rfl,fun μ σ hE=>?_⟩
   have g:=wAH c2 hE;rw [hb] at g
   obtain ⟨c,g1,g2⟩:=g
   refine ⟨_,⟨c,g1,rfl⟩,fun o w ho=>?_⟩
   obtain ⟨d,d1,d2⟩:=wAf c1
   split at d2
   ·rename_i fs
    split at d2
    ·rename_i f hf
     simp only [hH] at d2
     have e:=nA d2.1
     subst e
     have d3:=d2.2
     split at d3
     ·rename_i j hj
      have hpos:0 < j.size:=by simpa [nE] using d3
      obtain ⟨n,hn⟩:∃ n,j.size=n + 1:=⟨j.size - 1,by omega⟩
      exact Runs.fa (n:=n) ho g2 (wAg d1) hf (fun w=>by rw [<- hn];simp [sizeOf,typeInfo,hj])
     ·cases d3
    ·cases d2
   ·cases d2
  ·cases hr
 ·cases hc
def wNy (P:Program) (off:Nat) (x:AOd):Op->Bool
 | .field t y i=>wDe P t (fun d=>match d with
   | .struct fs=>match fs[i]? with
    | some f=>nB f.offset off && wMb P f.type false
    | none=>false
   | _=>false) && wBd x y
 | _=>false
def wLB (P:Program) (off n:Nat) (x:AOd):Op->Bool
 | .field t y i=>wDe P t (fun d=>match d with
   | .struct fs=>match fs[i]? with
    | some f=>nB f.offset off && (wMb P f.type true && szT P f.type n)
    | none=>false
   | _=>false) && wBd x y
 | _=>false
theorem p_fld {off:Nat} {x:AOd} {op:Op} (hc:wNy P off x op=true):OkP P op (wIQ off x):=by
 intro σA h v h' hr
 unfold wNy at hc
 split at hc
 ·rename_i t y i
  simp only [hH] at hc
  obtain ⟨c1,c2⟩:=hc
  unfold wIQ at hr
  split at hr
  ·rename_i l hb
   obtain ⟨hr2,rfl⟩:=wBN hr
   refine ⟨rfl,fun μ σ hE=>?_⟩
   have g:=wAH c2 hE;rw [hb] at g
   obtain ⟨vs,g1,g2⟩:=g
   rw [wFH] at hr2
   obtain ⟨cv,g3,g4⟩:=wEM g1 hr2
   refine ⟨cv,g4,fun o w ho=>?_⟩
   obtain ⟨d,d1,d2⟩:=wAf c1
   split at d2
   ·split at d2
    ·rename_i f hf
     simp only [hH] at d2
     have e:=nA d2.1
     subst e
     exact Runs.fld ho g2 (wAg d1) hf (wEY (wDm d2.2) g3)
    ·cases d2
   ·cases d2
  ·cases hr
 ·cases hc
theorem wCm {x:Option (List AV)} {v:AV} (hr:wGa x=some v):∃ l,x=some l/\v=.agg l:=by
 cases x <;> cases hr;exact ⟨_,rfl,rfl⟩
theorem wPT {off n:Nat} {x:AOd} {op:Op} (hc:wLB P off n x op=true):OkP P op (wFl off n x):=by
 intro σA h v h' hr
 unfold wLB at hc
 split at hc
 ·rename_i t y i
  simp only [hH] at hc
  obtain ⟨c1,c2⟩:=hc
  unfold wFl at hr
  split at hr
  ·rename_i l hb
   obtain ⟨hr2,rfl⟩:=wBN hr
   obtain ⟨r,hr3,rfl⟩:=wCm hr2
   refine ⟨rfl,fun μ σ hE=>?_⟩
   have g:=wAH c2 hE;rw [hb] at g
   obtain ⟨vs,g1,g2⟩:=g
   obtain ⟨g3,g4⟩:=wEN hr3 g1
   refine ⟨_,⟨_,g3,rfl⟩,fun o w ho=>?_⟩
   obtain ⟨d,d1,d2⟩:=wAf c1
   split at d2
   ·split at d2
    ·rename_i f hf
     simp only [hH] at d2
     have e:=nA d2.1
     subst e
     exact Runs.fld ho g2 (wAg d1) hf (wGs (wDm d2.2.1) (wCx d2.2.2) rfl)
    ·cases d2
   ·cases d2
  ·cases hr
 ·cases hc
theorem wBb {a:AV} {n:Nat} (hr:wFf a=some n):a=.int .i64 n:=by
 unfold wFf at hr
 split at hr
 ·cases hr;rfl
 ·cases hr
def wNz (P:Program) (sz:Nat) (x y:AOd):Op->Bool
 | .indexAddr t x' y'=>wDe P t (fun d=>match d with
   | .slice e=>szT P e sz
   | _=>false) && (wBd x x' && wBd y y')
 | _=>false
theorem p_iad {sz:Nat} {x y:AOd} {op:Op} (hc:wNz P sz x y op=true):OkP P op (wIR sz x y):=by
 intro σA h v h' hr
 unfold wNz at hc
 split at hc
 ·rename_i t x' y'
  simp only [hH] at hc
  obtain ⟨c1,c2,c3⟩:=hc
  obtain ⟨d,d1,d2⟩:=wAf c1
  split at d2
  ·rename_i e
   unfold wIR at hr
   split at hr
   ·rename_i b off n c i hb hi
    obtain ⟨hlt,hr⟩:=wBG hr
    cases hr
    have hlt:i < n:=by simpa [nE] using hlt
    have hi:=wBb hi
    refine ⟨rfl,fun μ σ hE=>?_⟩
    have g:=wAH c2 hE;rw [hb] at g
    have k:=wAH c3 hE;rw [hi] at k
    obtain ⟨m,g1,g2,g3⟩:=g
    refine ⟨_,⟨m,g1,rfl⟩,fun o w ho=>?_⟩
    have:=Runs.ia (P:=P) (o:=o) (w:=w) (i:=(i:Int)) ho g3 k (wAg d1) (wCx d2) (by omega) (by omega)
    simpa using this
   ·rename_i b eo co n i hb hi
    obtain ⟨hlt,hr⟩:=wBG hr
    cases hr
    have hlt:i < n:=by simpa [nE] using hlt
    have hi:=wBb hi
    refine ⟨rfl,fun μ σ hE=>?_⟩
    have g:=wAH c2 hE;rw [hb] at g
    have k:=wAH c3 hE;rw [hi] at k
    obtain ⟨m,g1,g2,g3⟩:=g
    refine ⟨_,⟨m,g1,rfl⟩,fun o w ho=>?_⟩
    have:=Runs.ia (P:=P) (o:=o) (w:=w) (i:=(i:Int)) ho g3 k (wAg d1) (wCx d2) (by omega) (by omega)
    simpa using this
   ·cases hr
  ·cases d2
 ·cases hc
def wLC (P:Program) (sz n:Nat) (x y:AOd):Op->Bool
 | .indexAddr t x' y'=>wDe P t (fun d=>match d with
   | .array m e=>nB m n && szT P e sz
   | _=>false) && (wBd x x' && wBd y y')
 | _=>false
theorem wPU {sz n:Nat} {x y:AOd} {op:Op} (hc:wLC P sz n x y op=true):OkP P op (wFm sz n x y):=by
 intro σA h v h' hr
 unfold wLC at hc
 split at hc
 ·rename_i t x' y'
  simp only [hH] at hc
  obtain ⟨c1,c2,c3⟩:=hc
  obtain ⟨d,d1,d2⟩:=wAf c1
  split at d2
  ·rename_i m e
   simp only [hH] at d2
   have em:=nA d2.1
   subst em
   unfold wFm at hr
   split at hr
   ·rename_i b off i hb hi
    obtain ⟨hlt,hr⟩:=wBG hr
    cases hr
    have hlt:i < m:=by simpa [nE] using hlt
    have hi:=wBb hi
    refine ⟨rfl,fun μ σ hE=>?_⟩
    have g:=wAH c2 hE;rw [hb] at g
    have k:=wAH c3 hE;rw [hi] at k
    obtain ⟨q,g1,g3⟩:=g
    refine ⟨_,⟨q,g1,rfl⟩,fun o w ho=>?_⟩
    have:=Runs.iaA (P:=P) (o:=o) (w:=w) (i:=(i:Int)) ho g3 k (wAg d1) (wCx d2.2) (by omega) (by omega)
    simpa using this
   ·cases hr
  ·cases d2
 ·cases hc
def c_ix (P:Program) (n:Nat) (x y:AOd):Op->Bool
 | .index t x' y'=>wDe P t (fun d=>match d with
   | .array m e=>nB m n && (szT P e 1 && wMb P e false)
   | _=>false) && (wBd x x' && wBd y y')
 | _=>false
theorem p_ix {n:Nat} {x y:AOd} {op:Op} (hc:c_ix P n x y op=true):OkP P op (wNk n x y):=by
 intro σA h v h' hr
 unfold c_ix at hc
 split at hc
 ·rename_i t x' y'
  simp only [hH] at hc
  obtain ⟨c1,c2,c3⟩:=hc
  obtain ⟨d,d1,d2⟩:=wAf c1
  split at d2
  ·rename_i m e
   simp only [hH] at d2
   have em:=nA d2.1
   subst em
   unfold wNk at hr
   split at hr
   ·rename_i l i hb hi
    obtain ⟨hlt,hr⟩:=wBG hr
    obtain ⟨hr2,rfl⟩:=wBN hr
    have hlt:i < m:=by simpa [nE] using hlt
    have hi:=wBb hi
    refine ⟨rfl,fun μ σ hE=>?_⟩
    have g:=wAH c2 hE;rw [hb] at g
    have k:=wAH c3 hE;rw [hi] at k
    obtain ⟨vs,g1,g2⟩:=g
    rw [wFH] at hr2
    obtain ⟨cv,g3,g4⟩:=wEM g1 hr2
    refine ⟨cv,g4,fun o w ho=>?_⟩
    exact Runs.ixA (P:=P) (o:=o) (w:=w) (i:=(i:Int)) ho g2 k (wAg d1) (wCx d2.2.1) (by omega) (by omega) (wEY (wDm d2.2.2) (by simpa using g3))
   ·cases hr
  ·cases d2
 ·cases hc
def wOA (P:Program) (sz n:Nat) (x y:AOd):Op->Bool
 | .index t x' y'=>wDe P t (fun d=>match d with
   | .array m e=>nB m n && (szT P e sz && wMb P e true)
   | _=>false) && (wBd x x' && wBd y y')
 | _=>false
theorem p_ixA {sz n:Nat} {x y:AOd} {op:Op} (hc:wOA P sz n x y op=true):OkP P op (wIS sz n x y):=by
 intro σA h v h' hr
 unfold wOA at hc
 split at hc
 ·rename_i t x' y'
  simp only [hH] at hc
  obtain ⟨c1,c2,c3⟩:=hc
  obtain ⟨d,d1,d2⟩:=wAf c1
  split at d2
  ·rename_i m e
   simp only [hH] at d2
   have em:=nA d2.1
   subst em
   unfold wIS at hr
   split at hr
   ·rename_i l i hb hi
    obtain ⟨hlt,hr⟩:=wBG hr
    obtain ⟨hr2,rfl⟩:=wBN hr
    obtain ⟨r,hr3,rfl⟩:=wCm hr2
    have hlt:i < m:=by simpa [nE] using hlt
    have hi:=wBb hi
    refine ⟨rfl,fun μ σ hE=>?_⟩
    have g:=wAH c2 hE;rw [hb] at g
    have k:=wAH c3 hE;rw [hi] at k
    obtain ⟨vs,g1,g2⟩:=g
    obtain ⟨g3,g4⟩:=wEN hr3 g1
    refine ⟨_,⟨_,g3,rfl⟩,fun o w ho=>?_⟩
    exact Runs.ixA (P:=P) (o:=o) (w:=w) (i:=(i:Int)) ho g2 k (wAg d1) (wCx d2.2.1) (by omega) (by omega) (wGs (wDm d2.2.2) (wCx d2.2.1) (by simp))
   ·cases hr
  ·cases d2
 ·cases hc
def wNJ:Option AOd->Option Operand->Bool
 | none,none=>true
 | some x,some y=>wBd x y
 | _,_=>false
theorem wLD {x:Option AOd} {y:Option Operand} {r:Option Nat} (hr:bnd σA x=some r) (hc:wNJ x y=true) (hE:EnvR μ σA σ):(r=none/\y=none) \/ ∃ n z,r=some n/\y=some z/\ev σ z=.int .i64 n:=by
 cases x with
 | none =>
  cases y with
  | none=>cases hr;exact .inl ⟨rfl,rfl⟩
  | some _=>cases hc
 | some x =>
  cases y with
  | none=>cases hc
  | some y =>
   simp only [bnd] at hr
   split at hr
   ·rename_i n hn
    cases hr
    have:=wAH (show wBd x y=true from hc) hE
    rw [wBb hn] at this
    exact .inr ⟨n,y,rfl,rfl,this⟩
   ·cases hr
def vI (n:Nat):Value:=.int .i64 (n:Int)
theorem wFr {P:Program} {n y:Nat} {code:BoundsCode} (hle:n <= y) (w:World):(Instr.sliceBound (vI n) y code).run P w=.ok n w:=by
 have h1:(n:Int) <= y:=by omega
 simp [Instr.sliceBound,vI,asIntOf,h1]
theorem wDw {P:Program} {s:Bool} {len cap:Nat} {lo hi mx:Option Nat} {l hh m:Nat} (hm:m=mx.getD cap) (hh':hh=hi.getD len) (hl:l=lo.getD 0) (h1:l <= hh) (h2:hh <= m) (h3:m <= cap) (hmh:mx.isSome=true->hi.isSome=true) (w:World) :
  (Instr.sliceBounds s len cap (lo.map vI) (hi.map vI) (mx.map vI)).run P w=.ok (l,hh,m) w:=by
 subst hm hh' hl
 unfold Instr.sliceBounds
 cases mx <;> cases hi <;> cases lo <;> simp only [ke,kf] at h1 h2 h3 <;> (try (simp at hmh;done)) <;> simp [wFr h1,wFr h2,wFr h3]
theorem wFs {x:Option AOd} {y:Option Operand} {r:Option Nat} (hr:bnd σA x=some r) (hc:wNJ x y=true) (hE:EnvR μ σA σ):y.map (ev σ)=r.map vI:=by
 rcases wLD hr hc hE with ⟨rfl,rfl⟩ | ⟨n,z,rfl,rfl,h1⟩
 ·rfl
 ·simp [h1,vI]
theorem wEP (b off n:Nat):(Addr.add ⟨b,off,none⟩ n)=⟨b,off + n,none⟩:=wDM b off n
theorem wLE {P:Program} {sz:Nat} {a v:AV} {x:Value} {lo hi mx:Option Nat} (hr0:wPL sz a (orD lo 0) hi mx=some v) (hx:Rv μ a x) (hmh:mx.isSome=true->hi.isSome=true) :
  ∃ A len cap cv l hh m,x=.slice A len cap/\Rv μ v cv/\(∀ s w,(Instr.sliceBounds s len cap (lo.map vI) (hi.map vI) (mx.map vI)).run P w=.ok (l,hh,m) w) /\
   cv=.slice (if m=l then A else A.map (·.add (l * sz))) (hh - l) (m - l):=by
 obtain ⟨l,hl,hr⟩:∃ l,lo.getD 0=l/\wPL sz a l hi mx=some v:=⟨_,rfl,by rw [<- wKQ];exact hr0⟩
 clear hr0
 unfold wPL at hr
 split at hr
 ·obtain ⟨hb,hr⟩:=wBG hr
  cases hr
  simp only [hH] at hb
  obtain ⟨⟨b1,b2⟩,b3⟩:=hb
  have l0:=nA b1
  have hx:x=.slice none 0 0:=hx
  subst hx
  have h2:hi.getD 0=0:=by cases hi with | none=>rfl | some n=>exact nA b2
  have h3:mx.getD 0=0:=by cases mx with | none=>rfl | some n=>exact nA b3
  refine ⟨none,0,0,_,0,0,0,rfl,(rfl:Rv μ .snil _),fun s w=>wDw h3.symm h2.symm (by rw [hl,l0]) (nG _) (nG _) (nG _) hmh w,by simp⟩
 ·rename_i b off n c
  obtain ⟨d,g1,g2,rfl⟩:=hx
  simp only [wKQ] at hr
  obtain ⟨hb,hr⟩:=wBG hr
  cases hr
  simp only [hH,nM] at hb
  obtain ⟨⟨b1,b2⟩,b3⟩:=hb
  refine ⟨_,n,c,_,l,hi.getD n,mx.getD c,rfl,⟨d,g1,by omega,rfl⟩,fun s w=>wDw rfl rfl hl.symm b1 b2 b3 hmh w,?_⟩
  by_cases e:mx.getD c=l
  ·simp [e]
  ·have:nB (mx.getD c) l=false:=by
    cases hq:nB (mx.getD c) l with
    | false=>rfl
    | true=>exact absurd (nA hq) e
   simp [e,this,wEP]
 ·rename_i b eo co n
  obtain ⟨d,g1,g2,rfl⟩:=hx
  simp only [wKQ] at hr
  split at hr
  ·obtain ⟨hb,hr⟩:=wBG hr
   simp only [hH,nM] at hb
   obtain ⟨b1,b2⟩:=hb
   have fin:∀ cv,cv=Value.slice (if d.2 - eo=l then some ⟨d.1,co,none⟩ else (some (⟨d.1,co,none⟩:Addr)).map (·.add (l * sz))) (hi.getD n - l) (d.2 - eo - l)->Rv μ v cv ->
     ∃ A len cap cv l hh m,Value.slice (some ⟨d.1,co,none⟩) n (d.2 - eo)=.slice A len cap/\Rv μ v cv/\(∀ s w,(Instr.sliceBounds s len cap (lo.map vI) (hi.map vI) ((none:Option Nat).map vI)).run P w=.ok (l,hh,m) w) /\
      cv=.slice (if m=l then A else A.map (·.add (l * sz))) (hh - l) (m - l):=fun cv e hv =>
    ⟨_,n,d.2 - eo,cv,l,hi.getD n,d.2 - eo,rfl,hv,fun s w=>wDw rfl rfl hl.symm b1 (by simp only [ke];omega) (nG _) hmh w,e⟩
   split at hr
   ·cases hr
    refine fin _ rfl ⟨d,g1,by omega,?_⟩
    simp [Addr.add]
   ·rename_i l0
    split at hr
    ·rename_i hlt
     cases hr
     have hlt:l < n:=by simpa [nE] using hlt
     refine fin _ rfl ⟨d,g1,by omega,?_⟩
     rw [if_neg (by omega)]
     simp [wEP,Nat.sub_sub]
    ·rename_i hlt
     cases hr
     have hlt:¬ l < n:=by
      intro hq
      have:na l n=true:=by rw [nE];exact hq
      rw [this] at hlt;cases hlt
     have e1:hi.getD n - l=0:=by omega
     refine fin _ rfl ?_
     rw [e1]
     by_cases e2:d.2 - eo=l
     ·rw [if_pos e2];exact ⟨d,g1,co,by congr 1;omega⟩
     ·rw [if_neg e2];exact ⟨d,g1,co + l * sz,by simp only [kg,wEP];congr 1;omega⟩
  ·rename_i m
   obtain ⟨hb,hr⟩:=wBG hr
   cases hr
   simp only [hH,nM] at hb
   obtain ⟨⟨b1,b2⟩,b3⟩:=hb
   refine ⟨_,n,d.2 - eo,_,l,hi.getD n,m,rfl,⟨d,g1,by omega,rfl⟩,fun s w=>wDw (mx:=some m) rfl rfl hl.symm b1 b2 (by simp only [kf];omega) hmh w,?_⟩
   by_cases e:m=l
   ·simp [e]
   ·have:nB m l=false:=by
     cases hq:nB m l with
     | false=>rfl
     | true=>exact absurd (nA hq) e
    simp [e,this,wEP]
 ·cases hr
def wOB (P:Program) (sz:Nat) (x:AOd) (lo hi mx:Option AOd):Op->Bool
 | .slice t y l m n=>wDe P t (fun d=>match d with
   | .slice e=>szT P e sz
   | _=>false) && (wBd x y && (wNJ lo l && (wNJ hi m && (wNJ mx n && (!mx.isSome || hi.isSome)))))
 | _=>false
theorem p_slc {sz:Nat} {x:AOd} {lo hi mx:Option AOd} {op:Op} (hc:wOB P sz x lo hi mx op=true):OkP P op (wIO sz x lo hi mx):=by
 intro σA h v h' hr
 unfold wOB at hc
 split at hc
 ·rename_i t y l m n
  simp only [hH] at hc
  obtain ⟨c1,c2,c3,c4,c5,c6⟩:=hc
  obtain ⟨d,d1,d2⟩:=wAf c1
  split at d2
  ·rename_i e
   unfold wIO at hr
   split at hr
   ·rename_i rl rh rm h1 h2 h3
    obtain ⟨hr2,rfl⟩:=wBN hr
    refine ⟨rfl,fun μ σ hE=>?_⟩
    have hmh:rm.isSome=true->rh.isSome=true:=by
     intro hs
     rcases wLD h3 c5 hE with ⟨rfl,_⟩ | ⟨_,z,rfl,rfl,_⟩
     ·cases hs
     ·cases mx with
      | none=>simp [bnd] at h3
      | some _ =>
       cases hi with
       | none=>simp at c6
       | some _ =>
        rcases wLD h2 c4 hE with ⟨rfl,e0⟩ | ⟨_,_,rfl,_⟩
        ·subst e0;simp [wNJ] at c4
        ·rfl
    obtain ⟨A,len,cap,cv,ll,hh,mm,e1,e2,e3,e4⟩:=wLE (P:=P) hr2 (wAH c2 hE) hmh
    refine ⟨cv,e2,fun o w ho=>⟨by rw [ho];rfl,?_⟩⟩
    have b1:=wFs h1 c3 hE
    have b2:=wFs h2 c4 hE
    have b3:=wFs h3 c5 hE
    simp [execOp,ho,Instr.sliceAt,Instr.slice,wAg d1,e1,b1,b2,b3,e3,wCx d2,e4]
   ·cases hr
  ·cases d2
 ·cases hc
def wLF (P:Program) (sz n:Nat) (x:AOd) (lo hi:Option AOd):Op->Bool
 | .slice t y l m none=>wDe P t (fun d=>match d with
   | .array k e=>nB k n && szT P e sz
   | _=>false) && (wBd x y && (wNJ lo l && wNJ hi m))
 | _=>false
theorem wPV {sz n:Nat} {x:AOd} {lo hi:Option AOd} {op:Op} (hc:wLF P sz n x lo hi op=true):OkP P op (wFk sz n x lo hi):=by
 intro σA h v h' hr
 unfold wLF at hc
 split at hc
 ·rename_i t y l m
  simp only [hH] at hc
  obtain ⟨c1,c2,c3,c4⟩:=hc
  obtain ⟨d,d1,d2⟩:=wAf c1
  split at d2
  ·rename_i k e
   simp only [hH] at d2
   have ek:=nA d2.1
   subst ek
   unfold wFk at hr
   split at hr
   ·rename_i rl rh b off h1 h2 hb
    obtain ⟨hr2,rfl⟩:=wBN hr
    refine ⟨rfl,fun μ σ hE=>?_⟩
    have g:=wAH c2 hE;rw [hb] at g
    obtain ⟨c,g1,g2⟩:=g
    obtain ⟨A,len,cap,cv,ll,hh,mm,e1,e2,e3,e4⟩:=wLE (P:=P) (μ:=μ) (x:=.slice (some ⟨c.1,off,none⟩) k k) hr2 ⟨c,g1,nG _,rfl⟩ (by intro hs;cases hs)
    cases e1
    refine ⟨cv,e2,fun o w ho=>⟨by rw [ho];rfl,?_⟩⟩
    have b1:=wFs h1 c3 hE
    have b2:=wFs h2 c4 hE
    have e3':=e3 false
    simp only [Option.map_none] at e3'
    simp [execOp,ho,Instr.sliceAt,wAg d1,g2,Instr.sureAddr,b1,b2,e3',wCx d2.2,e4]
    split <;> simp
   ·cases hr
  ·cases d2
 ·cases hc
end
end
end Go.KX
namespace Go.KX
noncomputable section
open Go.RowKit Go.KL
section
variable {C:Chk} {P:Program} {μ μ':Mu} {w w':World} {h h':AH} {σ:Env} {σA:Tr AV} {t e:TypeId} {o:Oper}
def wHp (place:Nat->Option (Nat × Nat)):List (Nat × Nat × AOd)->List (Nat × Operand)->Bool
 | [],[]=>true
 | (off,n,x) :: ps,(i,y) :: qs=>(match place i with | some (o,s)=>nB o off && nB s n | none=>false) && (wBd x y && wHp place ps qs)
 | _,_=>false
theorem wFt {place:Nat->Option (Nat × Nat)} (hE:EnvR μ σA σ):∀ {ps:List (Nat × Nat × AOd)} {qs:List (Nat × Operand)} {cs r:List AV} {CS:List Value},wGw σA cs ps=some r->wHp place ps qs=true->RvL μ cs CS ->
  ∃ R,lay place CS (qs.map fun (p:Nat × Operand)=>(p.1,ev σ p.2))=some R/\RvL μ r R/\R.length=CS.length
 | [],[],cs,r,CS,hr,_,hl=>by
  simp only [wGw] at hr;cases hr;exact ⟨CS,rfl,hl,rfl⟩
 | (off,n,x) :: ps,(i,y) :: qs,cs,r,CS,hr,hc,hl=>by
  simp only [wHp,hH] at hc
  obtain ⟨c1,c2,c3⟩:=hc
  split at c1
  ·rename_i o s hp
   simp only [hH] at c1
   have e1:=nA c1.1
   have e2:=nA c1.2
   subst e1 e2
   simp only [wGw] at hr
   split at hr
   ·rename_i hn
    have hn:=nA hn
    split at hr
    ·rename_i cs' ho
     obtain ⟨vs,v1,v2⟩:=wFP (wAH c2 hE)
     obtain ⟨g1,g2⟩:=wHB ho hl v1
     have hlen:vs.length=s:=by rw [wCR v1,<- wDl,hn]
     obtain ⟨R,r1,r2,r3⟩:=wFt hE hr c3 g2
     refine ⟨R,?_,r2,by rw [r3,wCF]⟩
     rw [nH,lay,hp]
     simp only [v2,kY,hlen,beq_self_eq_true,Bool.true_and]
     rw [if_pos (by rw [nM];omega)]
     exact r1
    ·cases hr
   ·cases hr
  ·cases c1
 | [],_ :: _,cs,r,CS,hr,hc,hl=>by simp [wHp] at hc
 | _ :: _,[],cs,r,CS,hr,hc,hl=>by simp [wHp] at hc
def plL (P:Program):List Field->Option (List (Nat × Nat))
 | []=>some []
 | f :: fs=>match P.info? f.type,plL P fs with
  | some i,some l=>some ((f.offset,i.size) :: l)
  | _,_=>none
theorem wPW:∀ {fs:List Field} {pl:List (Nat × Nat)},plL P fs=some pl->wNC P fs.toArray pl:=by
 intro fs pl hp w
 rw [List.mapM_toArray]
 have key:∀ (fs:List Field) (pl:List (Nat × Nat)),plL P fs=some pl->((fs.mapM fun f=>do pure (f.offset,<- sizeOf f.type):Sem (List (Nat × Nat)))).run P w=.ok pl w:=by
  intro fs
  induction fs with
  | nil=>intro pl hp;cases hp;simp
  | cons f fs ih =>
   intro pl hp
   unfold plL at hp
   split at hp
   ·rename_i i l h1 h2
    cases hp
    have hs:(sizeOf f.type).run P w=.ok i.size w:=by simp [sizeOf,typeInfo,h1]
    simp only [List.mapM_cons,Sem.run_bind,hs,Result.andThen_ok,Sem.run_pure,ih l h2]
   ·cases hp
 have:=key fs pl hp
 simp only [Sem.run_map,this,Result.andThen_ok]
def wOC (P:Program) (z:List AV) (ps:List (Nat × Nat × AOd)):Op->Bool
 | .build t qs=>zT P t z && wDe P t (fun d=>match d with
   | .struct fs=>match plL P fs.toList with
    | some pl=>wHp (fun i=>pl[i]?) ps qs.toList
    | none=>false
   | .array _ e=>match P.info? e with
    | some j=>wHp (fun i=>some (i * j.size,j.size)) ps qs.toList
    | none=>false
   | _=>false)
 | _=>false
theorem p_bld {z:List AV} {ps:List (Nat × Nat × AOd)} {op:Op} (hc:wOC P z ps op=true):OkP P op (wKd z ps):=by
 intro σA h v h' hr
 unfold wOC at hc
 split at hc
 ·rename_i t qs
  simp only [hH] at hc
  obtain ⟨c1,c2⟩:=hc
  obtain ⟨hr2,rfl⟩:=wBN hr
  obtain ⟨r,hr3,rfl⟩:=wCm hr2
  obtain ⟨i,zv,z1,z2,z3⟩:=wEO c1
  obtain ⟨d,d1,d2⟩:=wAf c2
  refine ⟨rfl,fun μ σ hE=>?_⟩
  split at d2
  ·rename_i fs
   split at d2
   ·rename_i pl hpl
    obtain ⟨R,r1,r2,_⟩:=wFt hE hr3 d2 (z3 μ)
    refine ⟨_,⟨R,r2,rfl⟩,fun o w ho=>?_⟩
    exact Runs.build (P:=P) (ps:=qs.toList) (z:=zv.cells.toList) ho rfl (wCy z1 z2) ⟨fs,wAg d1,wPW hpl⟩ (by simp) r1
   ·cases d2
  ·rename_i n e
   split at d2
   ·rename_i j hj
    obtain ⟨R,r1,r2,_⟩:=wFt hE hr3 d2 (z3 μ)
    refine ⟨_,⟨R,r2,rfl⟩,fun o w ho=>?_⟩
    exact Runs.buildA (P:=P) (ps:=qs.toList) (z:=zv.cells.toList) ho rfl (wCy z1 z2) (wAg d1) (fun w=>by simp [sizeOf,typeInfo,hj]) (by simp) r1
   ·cases d2
  ·cases d2
 ·cases hc
def wJk (P:Program) (b:Builtin) (x:AOd):Op->Bool
 | .call c=>match c.callee with
  | .builtin b'=>(b' == b) && (match c.args.toList,c.argTypes.toList with
   | [y],[t]=>wDe P t (fun d=>match d with | .slice _=>true | _=>false) && wBd x y
   | _,_=>false)
  | _=>false
 | _=>false
theorem wJF {b:Builtin} {x:AOd} {op:Op} (hc:wJk P b x op=true):∃ y t e,op=.call { callee:=.builtin b,args:=#[y],argTypes:=#[t] }/\P.underlying t=some (.slice e)/\wBd x y=true:=by
 unfold wJk at hc
 split at hc
 ·rename_i c
  obtain ⟨ce,args,tys⟩:=c
  simp only at hc
  split at hc
  ·rename_i b'
   simp only [hH,beq_iff_eq] at hc
   obtain ⟨rfl,h2⟩:=hc
   split at h2
   ·rename_i y t h3 h4
    simp only [hH] at h2
    obtain ⟨d,d1,d2⟩:=wAf h2.1
    cases d <;> first | (cases d2;done) | skip
    refine ⟨y,t,_,?_,d1,h2.2⟩
    congr 2
    ·exact nI (by simpa using h3)
    ·exact nI (by simpa using h4)
   ·cases h2
  ·cases hc
 ·cases hc
theorem p_len {x:AOd} {op:Op} (hc:wJk P .len x op=true):OkP P op (wIU x):=by
 intro σA h v h' hr
 obtain ⟨y,t,e,rfl,d1,c2⟩:=wJF hc
 unfold wIU at hr
 split at hr <;> cases hr <;> rename_i hb
 ·refine ⟨rfl,fun μ σ hE=>⟨_,rfl,fun o w ho=>?_⟩⟩
  have g:=wAH c2 hE;rw [hb] at g
  exact Runs.len ho g (wAg d1)
 ·refine ⟨rfl,fun μ σ hE=>⟨_,rfl,fun o w ho=>?_⟩⟩
  have g:=wAH c2 hE;rw [hb] at g
  obtain ⟨c,_,_,g⟩:=g
  exact Runs.len ho g (wAg d1)
 ·refine ⟨rfl,fun μ σ hE=>⟨_,rfl,fun o w ho=>?_⟩⟩
  have g:=wAH c2 hE;rw [hb] at g
  obtain ⟨c,_,_,g⟩:=g
  exact Runs.len ho g (wAg d1)
 ·refine ⟨rfl,fun μ σ hE=>⟨_,rfl,fun o w ho=>?_⟩⟩
  have g:=wAH c2 hE;rw [hb] at g
  obtain ⟨c,_,q,g⟩:=g
  exact Runs.len ho g (wAg d1)
theorem Runs.cap {t e:TypeId} {x:Operand} {a:Option Addr} {n c:Nat} (ho:o.op=.call { callee:=.builtin .cap,args:=#[x],argTypes:=#[t] }) (hx:ev σ x=.slice a n c)
  (ht:∀ w,(underlying t).run P w=.ok (.slice e) w):Runs P σ w o (.int .i64 c) w :=
 ⟨by rw [ho];rfl,by simp [execOp,ho,resolve,invoke,builtin,Builtin.cap_,hx,ht,goInt]⟩
theorem p_cap {x:AOd} {op:Op} (hc:wJk P .cap x op=true):OkP P op (wIV x):=by
 intro σA h v h' hr
 obtain ⟨y,t,e,rfl,d1,c2⟩:=wJF hc
 unfold wIV at hr
 split at hr <;> cases hr <;> rename_i hb
 ·refine ⟨rfl,fun μ σ hE=>⟨_,rfl,fun o w ho=>?_⟩⟩
  have g:=wAH c2 hE;rw [hb] at g
  exact Runs.cap ho g (wAg d1)
 ·refine ⟨rfl,fun μ σ hE=>⟨_,rfl,fun o w ho=>?_⟩⟩
  have g:=wAH c2 hE;rw [hb] at g
  obtain ⟨c,_,_,g⟩:=g
  exact Runs.cap ho g (wAg d1)
def wOu (b:Builtin) (x y:AOd):Op->Bool
 | .call c=>match c.callee with
  | .builtin b'=>(b' == b) && (match c.args.toList with
   | [x',y']=>wBd x x' && wBd y y'
   | _=>false)
  | _=>false
 | _=>false
theorem wLG {b:Builtin} {x y:AOd} {op:Op} (hc:wOu b x y op=true):∃ x' y' tys,op=.call { callee:=.builtin b,args:=#[x',y'],argTypes:=tys }/\wBd x x'=true/\wBd y y'=true:=by
 unfold wOu at hc
 split at hc
 ·rename_i c
  obtain ⟨ce,args,tys⟩:=c
  simp only at hc
  split at hc
  ·rename_i b'
   simp only [hH,beq_iff_eq] at hc
   obtain ⟨rfl,h2⟩:=hc
   split at h2
   ·rename_i x' y' h3
    simp only [hH] at h2
    refine ⟨x',y',tys,?_,h2.1,h2.2⟩
    congr 2
    exact nI (by simpa using h3)
   ·cases h2
  ·cases hc
 ·cases hc
theorem p_min {x y:AOd} {op:Op} (hc:wOu .min x y op=true):OkP P op (wKe x y):=by
 intro σA h v h' hr
 obtain ⟨x',y',tys,rfl,c1,c2⟩:=wLG hc
 obtain ⟨hr2,rfl⟩:=wBN hr
 split at hr2
 ·rename_i a b e1 e2
  cases hr2
  refine ⟨rfl,fun μ σ hE=>⟨_,rfl,fun o w ho=>?_⟩⟩
  have g1:=wAH c1 hE;rw [e1] at g1
  have g2:=wAH c2 hE;rw [e2] at g2
  refine (Runs.min ho g1 g2).to ?_
  have:(match zlt b a with | true=>b | false=>a)=Min.min a b:=by
   rw [wFp,Int.min_def]
   by_cases hq:b < a
   ·simp [hq,Int.not_le.2 hq]
   ·simp [hq,Int.not_lt.1 hq]
  exact congrArg (nz .i64) this.symm
 ·cases hr2
theorem p_max {x y:AOd} {op:Op} (hc:wOu .max x y op=true):OkP P op (wKf x y):=by
 intro σA h v h' hr
 obtain ⟨x',y',tys,rfl,c1,c2⟩:=wLG hc
 obtain ⟨hr2,rfl⟩:=wBN hr
 split at hr2
 ·rename_i a b e1 e2
  cases hr2
  refine ⟨rfl,fun μ σ hE=>⟨_,rfl,fun o w ho=>?_⟩⟩
  have g1:=wAH c1 hE;rw [e1] at g1
  have g2:=wAH c2 hE;rw [e2] at g2
  refine (Runs.max ho g1 g2).to ?_
  have:(match zlt a b with | true=>b | false=>a)=Max.max a b:=by
   rw [wFp,Int.max_def]
   by_cases hq:a < b
   ·simp [hq,Int.le_of_lt hq]
   ·by_cases hq2:a <= b
    ·have:a=b:=by omega
     simp [this]
    ·simp [hq,hq2]
  exact congrArg (nz .i64) this.symm
 ·cases hr2
def OkL (C:Chk) (P:Program) (op:Op) (f:Tr AV->AH->Option (AV × AH)):Prop :=
 ∀ σA h v h',f σA h=some (v,h')->h'=h/\∀ μ σ w,EnvR μ σA σ->Sim C P μ h w->∃ cv,Rv μ v cv/\∀ (o:Oper),o.op=op->wEZ P σ w o cv
theorem wDx {b:Pos} {l:List AV} (hr:wCl h b=some l) (S:Sim C P μ h w):∃ c vs,μ b=some c/\RvL μ l vs/\∀ w',Keep w w' Non->∀ j v,vs[j]?=some v->w'.cell? ⟨c.1,j,none⟩=some v:=by
 unfold wCl at hr
 split at hr
 ·rename_i B hB
  obtain ⟨c,h1,h2⟩:=S.at_ b B hB
  cases B <;> simp only [wIx] at hr <;> first | (cases hr;done) | cases hr
  ·obtain ⟨vs,h3,h4⟩:=h2
   exact ⟨c,vs,h1,h3,fun w' K j v hv=>(h4.non K).cell hv⟩
  ·obtain ⟨vs,h3,h4⟩:=h2
   refine ⟨c,vs,h1,h3,fun w' K j v hv=>?_⟩
   obtain ⟨cur,g1,g2,g3,g4,g5⟩:=RowAt.cells h4
   have g1':=(K.block _ (wAM g1) id).trans g1
   have:cur.toList[j]?=some v:=by
    rw [<- g5,kW] at hv
    split at hv
    ·exact hv
    ·cases hv
   simp only [World.cell?,g1']
   simpa using this
 ·cases hr
def wPX (P:Program) (x:AOd):Op->Bool
 | .load t y=>wMb P t false && wBd x y
 | _=>false
theorem l_ld {x:AOd} {op:Op} (hc:wPX P x op=true):OkL C P op (wMO x):=by
 intro σA h v h' hr
 unfold wPX at hc
 split at hc
 ·simp only [hH] at hc
  unfold wMO at hr
  split at hr
  ·rename_i b off hb
   split at hr
   ·rename_i l hl
    obtain ⟨hr2,rfl⟩:=wBN hr
    refine ⟨rfl,fun μ σ w hE S=>?_⟩
    obtain ⟨c,vs,h1,h2,h3⟩:=wDx hl S
    have g:=wAH hc.2 hE;rw [hb] at g
    obtain ⟨c',g1,g2⟩:=g
    rw [h1] at g1;cases g1
    rw [wFH] at hr2
    obtain ⟨cv,g3,g4⟩:=wEM h2 hr2
    exact ⟨cv,g4,fun o ho w' K=>Runs.ld ho g2 (wDm hc.1) (h3 w' K _ _ g3)⟩
   ·cases hr
  ·cases hr
 ·cases hc
def wLH (P:Program) (n:Nat) (x:AOd):Op->Bool
 | .load t y=>(wMb P t true && szT P t n) && wBd x y
 | _=>false
theorem l_ldA {n:Nat} {x:AOd} {op:Op} (hc:wLH P n x op=true):OkL C P op (wGQ n x):=by
 intro σA h v h' hr
 unfold wLH at hc
 split at hc
 ·simp only [hH] at hc
  unfold wGQ at hr
  split at hr
  ·rename_i b off hb
   split at hr
   ·rename_i l hl
    obtain ⟨hr2,rfl⟩:=wBN hr
    obtain ⟨r,hr3,rfl⟩:=wCm hr2
    refine ⟨rfl,fun μ σ w hE S=>?_⟩
    obtain ⟨c,vs,h1,h2,h3⟩:=wDx hl S
    have g:=wAH hc.2 hE;rw [hb] at g
    obtain ⟨c',g1,g2⟩:=g
    rw [h1] at g1;cases g1
    obtain ⟨g3,g4⟩:=wEN hr3 h2
    refine ⟨_,⟨_,g3,rfl⟩,fun o ho w' K=>Runs.ldA ho g2 (wDm hc.1.1) (wCx hc.1.2) (by simp;omega) fun j u hu=>?_⟩
    exact h3 w' K _ _ (wDi rfl j u hu)
   ·cases hr
  ·cases hr
 ·cases hc
def OkE (C:Chk) (P:Program) (op:Op) (f:Tr AV->AH->Option (AV × AH)):Prop :=
 ∀ σA h v h',f σA h=some (v,h')->∀ μ σ w,EnvR μ σA σ->Sim C P μ h w->∀ (o:Oper),o.op=op->∃ μ' w' cv,Ext μ h.fl.nat w μ' w'/\Sim C P μ' h' w'/\Rv μ' v cv/\h'.fl=h.fl/\Runs P σ w o cv w'
def OkU (C:Chk) (P:Program) (op:Op) (f:Tr AV->AH->Option (AV × AH)):Prop :=
 ∀ σA h v h',f σA h=some (v,h')->∀ μ σ w,EnvR μ σA σ->Sim C P μ h w->∀ (o:Oper),o.op=op->∃ μ' w',Ext μ h.fl.nat w μ' w'/\Sim C P μ' h' w'/\v=u/\h'.fl=h.fl/\Does P σ w o w'
theorem OkP.toL {op:Op} {f:Tr AV->AH->Option (AV × AH)} (hp:OkP P op f):OkL C P op f:=by
 intro σA h v h' hr
 obtain ⟨h1,h2⟩:=hp σA h v h' hr
 exact ⟨h1,fun μ σ w hE _=>let ⟨cv,g1,g2⟩:=h2 μ σ hE;⟨cv,g1,fun o ho w' _=>g2 o w' ho⟩⟩
theorem OkL.toE {op:Op} {f:Tr AV->AH->Option (AV × AH)} (hp:OkL C P op f):OkE C P op f:=by
 intro σA h v h' hr μ σ w hE S o ho
 obtain ⟨rfl,h2⟩:=hp σA h v h' hr
 obtain ⟨cv,g1,g2⟩:=h2 μ σ w hE S
 exact ⟨μ,w,cv,Ext.refl μ _ w,S,g1,rfl,g2 o ho w (Keep.refl w _)⟩
theorem wEh {T:TypeId} {z:List AV} {cs:List Value} (S:Sim C P μ h w) (hz:RvL μ z cs):∃ μ',Ext μ h.fl.nat w μ' (w.alloc (.cells cs.toArray T))/\Sim C P μ' (h.push (.cells T z)) (w.alloc (.cells cs.toArray T))/\(h.push (.cells T z)).fl=h.fl/\μ' h.nx=some ⟨w.heap.size,0,g0⟩:=by
 have hle:=Mu.add_le (c:=⟨w.heap.size,0,g0⟩) (S.nx h.nx (nG _))
 obtain ⟨h1,h2,h3,h4⟩:=S.push (w':=w.alloc (.cells cs.toArray T)) (c:=⟨w.heap.size,0,g0⟩) (B:=.cells T z) (wAi w _) (nG _) (by rw [wGV];exact Nat.lt_succ_self _) ⟨cs,hz.mono hle,wDG w cs T⟩
 exact ⟨_,h2,h1,h3,h4⟩
def wLI (P:Program) (T:Nat) (z:List AV):Op->Bool
 | .alloc t=>nB T t && zT P t z
 | _=>false
theorem e_new {T:Nat} {z:List AV} {op:Op} (hc:wLI P T z op=true):OkE C P op (wNi T z):=by
 intro σA h v h' hr μ σ w hE S o ho
 cases hr
 unfold wLI at hc
 split at hc
 ·simp only [hH] at hc
  have e:=nA hc.1
  subst e
  obtain ⟨i,zv,z1,z2,z3⟩:=wEO hc.2
  obtain ⟨μ',h1,h2,h3,h4⟩:=wEh (T:=T) S (z3 μ)
  refine ⟨μ',_,_,h1,h2,⟨_,h4,rfl⟩,h3,by rw [ho];rfl,?_⟩
  simp [execOp,ho,Instr.alloc,wCy z1 z2,newVar,newRow,newObj,Sem.run]
 ·cases hc
def wLJ (T:Nat) (x:AOd):Op->Bool
 | .box t y=>nB T t && wBd x y
 | _=>false
theorem e_box {T:Nat} {x:AOd} {op:Op} (hc:wLJ T x op=true):OkE C P op (wJd T x):=by
 intro σA h v h' hr μ σ w hE S o ho
 cases hr
 unfold wLJ at hc
 split at hc
 ·simp only [hH] at hc
  have e:=nA hc.1
  subst e
  obtain ⟨vs,v1,v2⟩:=wFP (wAH hc.2 hE)
  obtain ⟨μ',h1,h2,h3,h4⟩:=wEh (T:=T) S v1
  refine ⟨μ',_,_,h1,h2,⟨_,h4,rfl⟩,h3,by rw [ho];rfl,?_⟩
  simp [execOp,ho,Instr.box,newVar,newRow,newObj,v2,Sem.run]
 ·cases hc
theorem wOD (S:Sim C P μ h w):∃ μ',Ext μ h.fl.nat w μ' (w.alloc (.map #[] 0))/\Sim C P μ' (h.push .map0) (w.alloc (.map #[] 0))/\(h.push .map0).fl=h.fl/\μ' h.nx=some ⟨w.heap.size,0,g0⟩:=by
 obtain ⟨h1,h2,h3,h4⟩:=S.push (w':=w.alloc (.map #[] 0)) (c:=⟨w.heap.size,0,g0⟩) (B:=.map0) (wAi w _) (nG _) (by rw [wGV];exact Nat.lt_succ_self _) ⟨0,heap_alloc_new w _⟩
 exact ⟨_,h2,h1,h3,h4⟩
def wLK:Op->Bool
 | .makeMap _ none=>true
 | _=>false
theorem e_mkm {op:Op} (hc:wLK op=true):OkE C P op wNj:=by
 intro σA h v h' hr μ σ w hE S o ho
 cases hr
 unfold wLK at hc
 split at hc
 ·obtain ⟨μ',h1,h2,h3,h4⟩:=wOD S
  refine ⟨μ',_,_,h1,h2,⟨_,h4,rfl⟩,h3,by rw [ho];rfl,?_⟩
  simp [execOp,ho,Instr.makeMap,newObj,Sem.run,Result.andThen]
 ·cases hc
theorem wEQ {zc:Array Value} {n:Nat}:∀ c,((nZ (c * zc.size)).map (zc[· % zc.size]!)).toList=(nU c zc.toList).flatten \/ False:=by
 intro c
 left
 induction c with
 | zero=>simp
 | succ c ih =>
  rw [kc,Array.toList_range] at ih ⊢
  rw [Nat.succ_mul,List.range_add,List.map_append,ih,List.replicate_succ',List.flatten_append]
  congr 1
  simp only [List.map_map,List.flatten_singleton]
  apply List.ext_getElem
  ·simp
  ·intro i h1 h2
   simp at h1
   simp [Nat.add_mul_mod_self_right,Nat.mod_eq_of_lt h1,Nat.add_comm (c * zc.size) i,h1]
def wLL (P:Program) (T sz by_:Nat) (z:List AV) (x y:AOd):Op->Bool
 | .makeSlice t x' y'=>wDe P t (fun d=>match d with | .slice e=>nB e T | _=>false) && (szT P T sz && (byT P T by_ && (zT P T z && (nB (len z) sz && (wBd x x' && wBd y y')))))
 | _=>false
theorem e_mks {T sz by_:Nat} {z:List AV} {x y:AOd} {op:Op} (hc:wLL P T sz by_ z x y op=true):OkE C P op (wFj T sz by_ z x y):=by
 intro σA h v h' hr μ σ w hE S o ho
 unfold wLL at hc
 split at hc
 ·rename_i t x' y'
  simp only [hH] at hc
  obtain ⟨c1,c2,c3,c4,c5,c6,c7⟩:=hc
  obtain ⟨d,d1,d2⟩:=wAf c1
  split at d2 <;> first | (cases d2;done) | skip
  have e:=nA d2
  subst e
  rename_i e
  obtain ⟨i,i1,i2⟩:=wFR c2
  obtain ⟨i',j1,j2⟩:=wFS c3
  obtain ⟨i'',zv,k1,k2,k3⟩:=wEO c4
  rw [i1] at j1 k1;cases j1;cases k1
  have hz:=nA c5
  unfold wFj at hr
  split at hr
  ·rename_i l c hl hcc
   obtain ⟨hb,hr⟩:=wBG hr
   cases hr
   simp only [hH,nM] at hb
   obtain ⟨⟨⟨b1,b2⟩,b3⟩,b4⟩:=hb
   have hx:=wAH c6 hE;rw [wBb hl] at hx
   have hy:=wAH c7 hE;rw [wBb hcc] at hy
   have hx:ev σ x'=.int .i64 (l:Int):=hx
   have hy:ev σ y'=.int .i64 (c:Int):=hy
   have zlen:zv.cells.size=sz:=by rw [<- hz,wDl,<- wCR (k3 μ)];simp
   have hrun:=run_makeSlice (P:=P) w t e i zv d1 i1 k2 .i64 .i64 (l:Int) (c:Int) (by omega) (by omega) (by rw [i2,nq];exact b2) (by rw [j2];have hb:=Int.ofNat_le.2 b3;rw [Int.natCast_mul] at hb;exact hb) (by omega)
   simp only [nq,i2] at hrun
   have hcells:(madeCells zv.cells (c * sz))=((nU c zv.cells.toList).flatten).toArray:=by
    apply nI
    have:=wEQ (zc:=zv.cells) (n:=0) c
    simp only [or_false] at this
    rw [zlen] at this
    show ((nZ (c * sz)).map (zv.cells[· % zv.cells.size]!)).toList=_
    rw [zlen,this]
   rw [hcells] at hrun
   obtain ⟨μ',h1,h2,h3,h4⟩:=wEh (T:=e) S (wFo (k3 μ) c)
   refine ⟨μ',_,_,h1,h2,⟨_,h4,b1,rfl⟩,h3,by rw [ho];rfl,?_⟩
   simp [execOp,ho,hx,hy,hrun,Result.andThen]
  ·cases hr
 ·cases hc
def wHq (P:Program) (T n:Nat) (z:List AV) (ps:List (Nat × Nat × AOd)):Op->Bool
 | .buildSlice t m qs=>nB m n && (wDe P t (fun d=>match d with | .slice e=>nB e T | _=>false) && (match P.info? T with
   | some i=>kE (n * i.size) 16777216 && (wHp (fun k=>some (k * i.size,i.size)) ps qs.toList && (match i.zero with
    | some v=>wMa z ((kD (n * i.size)).map fun k=>v.cells[k % v.cells.size]!)
    | none=>false))
   | none=>false))
 | _=>false
theorem wPY {T n:Nat} {z:List AV} {ps:List (Nat × Nat × AOd)} {op:Op} (hc:wHq P T n z ps op=true):OkE C P op (wDj T n z ps):=by
 intro σA h v h' hr μ σ w hE S o ho
 unfold wHq at hc
 split at hc
 ·rename_i t m qs
  simp only [hH] at hc
  obtain ⟨c1,c2,c3⟩:=hc
  have e:=nA c1
  subst e
  obtain ⟨d,d1,d2⟩:=wAf c2
  split at d2 <;> first | (cases d2;done) | skip
  have e:=nA d2
  subst e
  rename_i e
  split at c3
  ·rename_i i hi
   simp only [hH,nM] at c3
   obtain ⟨c3,c4,c5⟩:=c3
   split at c5
   ·rename_i zv hz
    unfold wDj at hr
    split at hr
    ·rename_i r hr3
     cases hr
     obtain ⟨R,r1,r2,r3⟩:=wFt hE hr3 c4 (wFA μ c5)
     have hf:=wCk _ _ _ _ r1
     obtain ⟨μ',h1,h2,h3,h4⟩:=wEh (T:=e) S r2
     refine ⟨μ',_,_,h1,h2,⟨_,h4,nG _,rfl⟩,h3,by rw [ho];rfl,?_⟩
     have hs:∀ w,(sizeOf e).run P w=.ok i.size w:=fun w=>by simp [sizeOf,typeInfo,hi]
     have hn':¬ m * i.size > 2 ^ 24:=by omega
     have hq:(qs.map fun (p:Nat × Operand)=>(p.1,ev σ p.2)).toList=qs.toList.map fun (p:Nat × Operand)=>(p.1,ev σ p.2):=by simp
     by_cases h0:m * i.size=0
     ·rw [h0] at hf
      simp only [List.range_zero,kH] at hf
      have hr0:(nZ 0).map (fun x=>(#[]:Array Value)[x % (#[]:Array Value).size]!)=#[]:=by rw [show (nZ 0)=#[] from rfl,Array.map_empty]
      have hn0:¬ (0:Nat) > 2 ^ 24:=by decide
      simp only [execOp,ho,Instr.buildSlice,Sem.run_bind,wAg d1,hs,Result.andThen_ok,h0,if_neg hn0,if_true,Sem.run_pure,hq,hr0,hf]
      simp [newRow,newObj,Sem.run,Result.andThen]
     ·have hzs:(nZ (m * i.size)).map (zv.cells[· % zv.cells.size]!)=((kD (m * i.size)).map fun k=>zv.cells[k % zv.cells.size]!).toArray:=by rw [<- kX,List.map_toArray]
      simp only [execOp,ho,Instr.buildSlice,Sem.run_bind,wAg d1,hs,wCy hi hz,Result.andThen_ok,if_neg hn',if_neg h0,Sem.run_pure,hq,hzs,hf]
      simp [newRow,newObj,Sem.run,Result.andThen]
    ·cases hr
   ·cases c5
  ·cases c3
 ·cases hc
end
end
end Go.KX
namespace Go.KX
noncomputable section
open Go.RowKit Go.KL
section
variable {C:Chk} {P:Program} {μ μ':Mu} {w w':World} {h h':AH} {σ:Env} {σA:Tr AV} {t e:TypeId} {o:Oper}
theorem wEi {b:Pos} {off:Nat} {vs:List AV} {VS:List Value} {c:Cl} (hr:setAt h b off vs=some h') (S:Sim C P μ h w) (hv:RvL μ vs VS) (h1:∀ v ∈ VS,one v=true) (hc:μ b=some c) :
  ∃ w',(storeCells ⟨c.1,off,none⟩ VS).run P w=.ok () w'/\Sim C P μ h' w'/\Ext μ h.fl.nat w μ w'/\h'.fl=h.fl:=by
 unfold setAt at hr
 split at hr
 ·rename_i T l hB
  split at hr
  ·rename_i l' hl
   obtain ⟨c',g1,vs0,g2,g3⟩:=S.at_ b _ hB
   rw [hc] at g1;cases g1
   obtain ⟨k1,k2⟩:=wHB hl g2 hv
   obtain ⟨w',q1,q2,q3,q4⟩:=wBy (P:=P) off VS 0 vs0 w g3 k1 h1
   obtain ⟨s1,s2,s3⟩:=S.put hr hB trivial hc q3 (B':=.cells T l') ⟨_,k2,q2⟩
   exact ⟨w',q1,s1,s2,s3⟩
  ·cases hr
 ·rename_i T sz l hB
  split at hr
  ·rename_i l' hl
   obtain ⟨c',g1,vs0,g2,g3⟩:=S.at_ b _ hB
   rw [hc] at g1;cases g1
   obtain ⟨k1,k2⟩:=wHB hl g2 hv
   obtain ⟨cur,r1,r2,r3,r4,r5⟩:=RowAt.cells g3
   have hB':Blk w c.1 T cur.toList:=by unfold Blk;rw [r1]
   have hcl:vs0.length <= cur.toList.length:=by rw [<- r5];simp;omega
   obtain ⟨w',q1,q2,q3,q4⟩:=wBy (P:=P) off VS 0 cur.toList w hB' (by omega) h1
   obtain ⟨s1,s2,s3⟩:=S.put hr hB trivial hc q3 (B':=.row T sz l') ⟨_,k2,.inr ⟨c.1,(wDL cur.toList (off + 0) VS).toArray,rfl,q2,by rw [wCF];exact r2,r3,by simp [wCF,r4],by
    rw [wCF,Nat.add_zero]
    show (wDL cur.toList off VS).take vs0.length=_
    rw [wHZ _ _ _ _ k1,r5]⟩⟩
   exact ⟨w',q1,s1,s2,s3⟩
  ·cases hr
 ·cases hr
def c_st (P:Program) (n:Nat) (x y:AOd):Op->Bool
 | .store t x' y'=>szT P t n && (wBd x x' && wBd y y')
 | _=>false
theorem u_st {n:Nat} {x y:AOd} {op:Op} (hc:c_st P n x y op=true):OkU C P op (wND n x y):=by
 intro σA h v h' hr μ σ w hE S o ho
 unfold c_st at hc
 split at hc
 ·rename_i t x' y'
  simp only [hH] at hc
  obtain ⟨c1,c2,c3⟩:=hc
  unfold wND at hr
  split at hr
  ·rename_i b off hb
   split at hr
   ·rename_i hk
    simp only [hH] at hk
    split at hr
    ·rename_i h1 hs
     cases hr
     have g:=wAH c2 hE;rw [hb] at g
     obtain ⟨c,g1,g2⟩:=g
     obtain ⟨VS,v1,v2⟩:=wFP (wAH c3 hE)
     obtain ⟨w',q1,q2,q3,q4⟩:=wEi hs S v1 (wDR v1 hk.2) g1
     have hn:=nA hk.1
     have hlen:VS.length=n:=by rw [wCR v1,<- wDl,hn]
     refine ⟨μ,w',q3,q2,rfl,q4,by rw [ho];rfl,?_⟩
     simp [execOp,ho,Instr.storeAt,g2,Instr.sureAddr,storeVar,v2,wCx c1,hlen,q1]
    ·cases hr
   ·cases hr
  ·cases hr
 ·cases hc
theorem wHE {sz m:Nat} {a:AV} {l:List AV} {y:Value} (hr:slice h sz a=some (m,l)) (S:Sim C P μ h w) (hy:Rv μ a y) :
  ∃ A c VS,y=.slice A m c/\RvL μ l VS/\VS.length=m * sz/\(m=0 \/ ∃ ad,A=some ad/\∀ j u,VS[j]?=some u->w.cell? (ad.add j)=some u):=by
 have key:∀ (b:Pos) (off m:Nat) (c:Cl) (l0 r:List AV),μ b=some c->wCl h b=some l0->sub l0 off (m * sz)=some r->∃ VS,RvL μ r VS/\VS.length=m * sz/\∀ j u,VS[j]?=some u->w.cell? ((⟨c.1,off,none⟩:Addr).add j)=some u:=by
  intro b off m c l0 r hc hl hs
  obtain ⟨c',vs,h1,h2,h3⟩:=wDx hl S
  rw [hc] at h1;cases h1
  obtain ⟨g1,g2⟩:=wEN hs h2
  exact ⟨_,g1,by simp;omega,fun j u hu=>by rw [wEP];exact h3 w (Keep.refl w _) _ _ (wDi rfl j u hu)⟩
 unfold slice at hr
 split at hr
 ·cases hr
  have hy:y=.slice none 0 0:=hy
  exact ⟨none,0,[],hy,rfl,by simp,.inl rfl⟩
 ·cases hr
  obtain ⟨d,_,q,rfl⟩:=hy
  exact ⟨_,_,[],rfl,rfl,by simp,.inl rfl⟩
 ·split at hr
  ·rename_i l0 hl
   split at hr
   ·rename_i r hs
    cases hr
    obtain ⟨d,h1,_,rfl⟩:=hy
    obtain ⟨VS,v1,v2,v3⟩:=key _ _ _ _ _ _ h1 hl hs
    exact ⟨_,_,VS,rfl,v1,v2,.inr ⟨_,rfl,v3⟩⟩
   ·cases hr
  ·cases hr
 ·split at hr
  ·rename_i l0 hl
   split at hr
   ·rename_i r hs
    cases hr
    obtain ⟨d,h1,_,rfl⟩:=hy
    obtain ⟨VS,v1,v2,v3⟩:=key _ _ _ _ _ _ h1 hl hs
    exact ⟨_,_,VS,rfl,v1,v2,.inr ⟨_,rfl,v3⟩⟩
   ·cases hr
  ·cases hr
 ·cases hr
theorem wFu {A A2:Option Addr} {n c c2 ty:Nat} {inf:TypeInfo} (ht:P.underlying t=some (.slice e)) (hi:P.info? e=some inf) (hnc:n <= c):(Builtin.append_ #[t,t] ty #[.slice A n c,.slice A2 0 c2]).run P w=.ok (.slice A n c) w:=by
 have hs:∀ w,(sizeOf e).run P w=.ok inf.size w:=fun w=>by simp [sizeOf,typeInfo,hi]
 cases A <;> cases A2 <;> simp [Builtin.append_,wAg ht,hs,Builtin.lenOf,Builtin.firstCells,hnc,storeCells,loadCells,loadCellsFrom]
theorem wLM {T sz c:Nat} {l:List AV} {cs:List Value} {cur:Array Value} (S:Sim C P μ h w) (K:Keep w w' Non) (hl:RvL μ l cs) (hn:w'.heap[w.heap.size]?=some (.cells cur T (0,0))) (h1:cs.length <= c * sz) (h2:c <= maxLen) (h3:cur.size=c * sz) (h4:cur.toList.take cs.length=cs) :
  ∃ μ',Ext μ h.fl.nat w μ' w'/\Sim C P μ' (h.push (.row T sz l)) w'/\(h.push (.row T sz l)).fl=h.fl/\μ' h.nx=some ⟨w.heap.size,c,g0⟩:=by
 have hle:=Mu.add_le (c:=⟨w.heap.size,c,g0⟩) (S.nx h.nx (nG _))
 obtain ⟨q1,q2,q3,q4⟩:=S.push (w':=w') (c:=⟨w.heap.size,c,g0⟩) (B:=.row T sz l) K (nG _) (wAM hn) ⟨cs,hl.mono hle,.inr ⟨_,cur,rfl,hn,h1,h2,h3,h4⟩⟩
 exact ⟨_,q2,q1,q3,q4⟩
def wMe (P:Program) (T sz by_:Nat) (x y:AOd):Op->Bool
 | .call c=>match c.callee with
  | .builtin b=>(b == .append) && (match c.args.toList,c.argTypes.toList with
   | [x',y'],[t,t']=>nB t t' && (wDe P t (fun d=>match d with | .slice e=>nB e T | _=>false) && (wBd x x' && (wBd y y' && (szT P T sz && (byT P T by_ && (match P.info? T with
    | some i=>match i.zero with | some v=>nB v.cells.size sz && (na 0 sz && na 0 by_) | none=>false
    | none=>false))))))
   | _,_=>false)
  | _=>false
 | _=>false
theorem wMf {T sz by_:Nat} {x y:AOd} {op:Op} (hc:wMe P T sz by_ x y op=true) :
  ∃ x' y' t i z,op=.call { callee:=.builtin .append,args:=#[x',y'],argTypes:=#[t,t] }/\P.underlying t=some (.slice T)/\wBd x x'=true/\wBd y y'=true/\P.info? T=some i/\i.zero=some z/\i.size=sz/\i.bytes=by_/\z.cells.size=sz/\0 < sz/\0 < by_:=by
 unfold wMe at hc
 split at hc
 ·rename_i c
  obtain ⟨ce,args,tys⟩:=c
  simp only at hc
  split at hc
  ·rename_i b
   simp only [hH,beq_iff_eq] at hc
   obtain ⟨rfl,h2⟩:=hc
   split at h2
   ·rename_i x' y' t t' h3 h4
    simp only [hH] at h2
    obtain ⟨a1,a2,a3,a4,a5,a6,a7⟩:=h2
    have e:=nA a1
    subst e
    obtain ⟨d,d1,d2⟩:=wAf a2
    split at d2 <;> first | (cases d2;done) | skip
    have e:=nA d2
    subst e
    obtain ⟨i,i1,i2⟩:=wFR a5
    obtain ⟨j,j1,j2⟩:=wFS a6
    rw [i1] at j1;cases j1
    rw [i1] at a7
    simp only at a7
    split at a7
    ·rename_i z hz
     simp only [hH,nE] at a7
     refine ⟨x',y',t,i,z,?_,d1,a3,a4,i1,hz,i2,j2,nA a7.1,a7.2.1,a7.2.2⟩
     congr 2
     ·exact nI (by simpa using h3)
     ·exact nI (by simpa using h4)
    ·cases a7
   ·cases h2
  ·cases hc
 ·cases hc
theorem wPZ (v:Value) (h1:one v=true):v.oneCell'=true:=by cases v <;> first | rfl | cases h1
theorem e_app {T sz by_:Nat} {x y:AOd} {op:Op} (hc:wMe P T sz by_ x y op=true):OkE C P op (wHf T sz by_ x y):=by
 intro σA h v h' hr μ σ w hE S o ho
 obtain ⟨x',y',t,i,z,rfl,ht,c1,c2,hi,hz,i2,j2,hzs,hsz,hby⟩:=wMf hc
 unfold wHf at hr
 split at hr
 ·rename_i m news hs
  obtain ⟨hones,hr'⟩:=wBG hr
  clear hr;have hr:=hr';clear hr'
  obtain ⟨A2,cc2,NS,e2,n1,n2,n3⟩:=wHE hs S (wAH c2 hE)
  have hx:=wAH c1 hE
  have h1:∀ u ∈ NS,u.oneCell'=true:=fun u hu=>wPZ u (wDR n1 hones u hu)
  have fin:∀ {μ':Mu} {w':World} {cv:Value},Ext μ h.fl.nat w μ' w'->Sim C P μ' h' w'->Rv μ' v cv->h'.fl=h.fl->(Builtin.append_ #[t,t] o.type #[ev σ x',ev σ y']).run P w=.ok cv w' ->
    ∃ μ' w' cv,Ext μ h.fl.nat w μ' w'/\Sim C P μ' h' w'/\Rv μ' v cv/\h'.fl=h.fl/\Runs P σ w o cv w':=fun a b c d f =>
   ⟨_,_,_,a,b,c,d,by rw [ho];rfl,by simp [execOp,ho,resolve,invoke,builtin,f]⟩
  unfold app at hr
  split at hr
  ·have zero:∀ {A:Option Addr} {n c:Nat},ev σ x'=.slice A n c->n <= c->Rv μ v (.slice A n c)->h'=h->∃ μ' w' cv,Ext μ h.fl.nat w μ' w'/\Sim C P μ' h' w'/\Rv μ' v cv/\h'.fl=h.fl/\Runs P σ w o cv w':=by
    intro A n c hA hnc hv hh
    subst hh
    exact fin (Ext.refl μ _ w) S hv rfl (by rw [hA,e2];exact wFu ht hi hnc)
   split at hr <;> cases hr <;> rename_i hb <;> rw [hb] at hx
   ·have g:ev σ x'=.slice none 0 0:=hx
    exact zero g (nG _) rfl rfl
   ·obtain ⟨d,g1,g2,g3⟩:=hx
    exact zero g3 g2 ⟨d,g1,g2,rfl⟩ rfl
   ·obtain ⟨d,g1,g2,g3⟩:=hx
    exact zero g3 (by omega) ⟨d,g1,g2,rfl⟩ rfl
  ·rename_i m
   obtain ⟨ad,rfl,hcell⟩:∃ ad,A2=some ad/\∀ j u,NS[j]?=some u->w.cell? (ad.add j)=some u:=by
    rcases n3 with h0 | h0
    ·cases h0
    ·exact h0
   have maxb:(140737488355328:Nat) <= maxLen:=by decide
   have lenb:∀ n:Nat,n * by_ <= 140737488355328->n <= 140737488355328:=fun n hn=>nW (kK _ hby) hn
   split at hr
   ·rename_i hb
    rw [hb] at hx
    have hx:ev σ x'=.slice none 0 0:=hx
    obtain ⟨hble,hr'⟩:=wBG hr
    clear hr;have hr:=hr';clear hr'
    cases hr
    have hble:=nK hble
    obtain ⟨A',c',w',r1,r2,r3,r4⟩:=wCV (P:=P) (w:=w) (A:=none) (c:=0) (n:=0) (cs:=[]) (ty:=o.type) (c2:=cc2) ht hi hz i2 hzs hsz (.inl ⟨rfl,rfl,rfl⟩) (by simp) n2 (.inr ⟨ad,rfl,hcell⟩) h1 (by rw [j2,Nat.zero_add];exact hble) (by omega)
    rcases r2 with ⟨_,_,q⟩ | ⟨b,cur,rfl,q1,q2,q3,q4,q5⟩
    ·exfalso
     have:([] ++ NS).length=0:=by rw [q];rfl
     rw [nf,n2] at this
     have:=Nat.mul_pos (Nat.succ_pos m) hsz
     omega
    ·have hb:w.heap.size <= b:=by
      rcases r4 b rfl with q | q
      ·cases q
      ·exact q
     have K:Keep w w' Non:=r3.weak fun i _ q=>by cases q
     rw [nf] at q2 q5
     have hle:=Mu.add_le (c:=⟨b,c',g0⟩) (S.nx h.nx (nG _))
     obtain ⟨s1,s2,s3,s4⟩:=S.push (w':=w') (c:=⟨b,c',g0⟩) (B:=.row T sz news) K hb (wAM q1) ⟨NS,n1.mono hle,.inr ⟨_,cur,rfl,q1,q2,q3,q4,q5⟩⟩
     refine fin s2 s1 ⟨_,s4,?_,?_⟩ s3 (by rw [hx,e2];exact r1)
     ·rw [n2] at q2
      have:=nl q2 hsz
      simpa using this
     ·simp
   ·rename_i b off n c hb
    rw [hb] at hx
    obtain ⟨d,g1,g2,g3⟩:=hx
    split at hr
    ·rename_i hle
     have hle:=nK hle
     split at hr
     ·rename_i h1' hset
      cases hr
      obtain ⟨w',q1,q2,q3,q4⟩:=wEi hset S n1 (wDR n1 hones) g1
      refine fin q3 q2 ⟨d,g1,hle,rfl⟩ q4 ?_
      rw [g3,e2]
      have hf:=run_firstCells_some (P:=P) w i.size (m + 1) ad (m + 1) cc2 NS (by rw [i2];exact n2) hcell
      rw [i2] at hf
      simp [Builtin.append_,wAg ht,sizeOf,typeInfo,hi,Builtin.lenOf,hle,hf,wEP,i2,q1]
     ·cases hr
    ·rename_i hlt
     obtain ⟨hble,hr'⟩:=wBG hr
     clear hr;have hr:=hr';clear hr'
     have hble:=nK hble
     split at hr
     ·rename_i nn olds hold
      cases hr
      have hgt:c < n + (m + 1):=by
       rcases kG c (n + (m + 1)) with q | q
       ·exact q
       ·have q':kE (n + (m + 1)) c=true:=by rw [nM];exact q
        rw [q'] at hlt;cases hlt
      obtain ⟨A1,cc1,OS,k1,k2,k3,k4⟩:=wHE hold S (show Rv μ (.sl b off n c) _ from ⟨d,g1,g2,rfl⟩)
      cases k1
      have hlen:=lenb _ hble
      have olds':∀ j v,OS[j]?=some v->w.cell? ((⟨d.1,off,none⟩:Addr).add j)=some v:=by
       rcases k4 with q | ⟨ad',q1,q2⟩
       ·intro j v hv
        have hnil:OS=[]:=ng (by rw [k3,q];simp)
        rw [hnil] at hv
        simp at hv
       ·cases q1;exact q2
      have hr:=run_append_grow (P:=P) w t o.type T i z ht hi hz ⟨d.1,off,none⟩ n c OS (by rw [i2];exact k3) olds' ad (m + 1) cc2 NS (by rw [i2];exact n2) hcell hgt (by omega) (growslice_fits hgt (by rw [j2];exact hble))
      have hge:=grownCap_ge w (n + (m + 1)) c T
      have hcm:grownCap w (n + (m + 1)) c T <= maxLen:=grownCap_le_maxLen w (n + (m + 1)) c T (by omega)
      have hlen2:(OS ++ NS).length=(n + (m + 1)) * sz:=by rw [kA,k3,n2,kO]
      obtain ⟨μ',s1,s2,s3,s4⟩:=wLM (T:=T) (sz:=sz) (c:=grownCap w (n + (m + 1)) c T) (w':=w.drew.alloc (.cells (OS.toArray ++ NS.toArray ++ Builtin.zeroCells z.cells (grownCap w (n + (m + 1)) c T - (n + (m + 1)))) T)) (cur:=OS.toArray ++ NS.toArray ++ Builtin.zeroCells z.cells (grownCap w (n + (m + 1)) c T - (n + (m + 1)))) S
       ((Keep.drew w).non (wAi w.drew _)) (wDQ k2 n1) (heap_alloc_new w.drew _) (by rw [hlen2];exact kR _ hge) hcm
       (by
        simp only [kZ,kY,size_zeroCells,hzs,k3,n2,<- kO]
        congr 1
        omega)
       (by simp only [kU,nr];rw [<- nr];exact List.take_left)
      refine fin s1 s2 ⟨_,s4,?_,?_⟩ s3 (by rw [g3,e2];exact hr)
      ·simpa using hge
      ·simp
     ·cases hr
   ·rename_i b eo co n hb
    rw [hb] at hx
    obtain ⟨d,g1,g2,g3⟩:=hx
    split at hr
    ·rename_i T' sz' l hB
     split at hr
     ·rename_i hin
      simp only [hH] at hin
      obtain ⟨p1,p2,p3,p4⟩:=hin
      have p1:=nK p1
      have p2:=nA p2
      have p3:=nA p3
      have p4:=nA p4
      subst p2 p3 p4
      split at hr
      ·rename_i h1' hset
       cases hr
       obtain ⟨d',k1,OS,k2,k3⟩:=S.at_ b _ hB
       rw [g1] at k1;cases k1
       obtain ⟨cur,r1,r2,_⟩:=RowAt.cells k3
       have hle:n + (m + 1) <= d.2:=by
        rw [wDl,<- wCR k2] at p1
        exact nl (nW p1 r2) hsz
       obtain ⟨w',q1,q2,q3,q4⟩:=wEi hset S n1 (wDR n1 hones) g1
       refine fin q3 q2 ⟨d,g1,by omega,rfl⟩ q4 ?_
       rw [g3,e2]
       have hf:=run_firstCells_some (P:=P) w i.size (m + 1) ad (m + 1) cc2 NS (by rw [i2];exact n2) hcell
       rw [i2] at hf
       simp [Builtin.append_,wAg ht,sizeOf,typeInfo,hi,Builtin.lenOf,hle,hf,wEP,i2,q1]
      ·cases hr
     obtain ⟨hcond,hr'⟩:=wBG hr
     clear hr;have hr:=hr';clear hr'
     simp only [hH] at hcond
     obtain ⟨⟨⟨⟨⟨q1,q2⟩,q3⟩,q4⟩,q5⟩,q6⟩:=hcond
     have q1:=nA q1
     have q2:=nA q2
     have q3:=nA q3
     have q4:=nA q4
     have q5:=nA q5
     have hble:=nK q6
     subst q1 q2 q3 q4
     split at hr
     ·rename_i h1' hput
      cases hr
      obtain ⟨d',k1,OS,k2,k3⟩:=S.at_ b _ hB
      rw [g1] at k1;cases k1
      have hol:OS.length=n * sz:=by rw [wCR k2,<- wDl,<- q5]
      obtain ⟨A',c',w',r1,r2,r3,r4⟩:=wCV (P:=P) (w:=w) (A:=some ⟨d.1,0,none⟩) (c:=d.2) (n:=n) (cs:=OS) (ty:=o.type) (c2:=cc2) ht hi hz i2 hzs hsz k3 hol n2 (.inr ⟨ad,rfl,hcell⟩) h1 (by rw [j2];exact hble) (by omega)
      rcases r2 with ⟨_,_,q⟩ | ⟨b',cur,rfl,p1,p2,p3,p4,p5⟩
      ·exfalso
       have:(OS ++ NS).length=0:=by rw [q];rfl
       rw [kA,n2] at this
       have:=Nat.mul_pos (Nat.succ_pos m) hsz
       omega
      ·have hb':b'=d.1 \/ w.heap.size <= b':=by
        rcases r4 b' rfl with q | q
        ·cases q;exact .inl rfl
        ·exact .inr q
       have K:Keep w w' (·=d.1):=r3.weak fun i _ q=>by cases q;rfl
       have hle:=Mu.add_le (c:=⟨b',c',g0⟩) (S.nx h.nx (nG _))
       have hnx:h.nx=h.nx:=rfl
       obtain ⟨s1,s2,s3,s4⟩:=S.move (w':=w') (d:=⟨b',c',g0⟩) (B':=.row T sz (l ++ news)) hput hB trivial g1 K hb' (wAM p1) ⟨OS ++ NS,(wDQ k2 n1).mono hle,.inr ⟨_,cur,rfl,p1,p2,p3,p4,p5⟩⟩
       refine fin s2 s1 ⟨_,s4,?_,?_⟩ s3 (by rw [g3,e2];simpa using r1)
       ·rw [kA,hol,n2,<- kO] at p2
        have:=nl p2 hsz
        simpa using this
       ·simp
     ·cases hr
    ·cases hr
   ·cases hr
 ·cases hr
def wOE (P:Program) (sz:Nat) (x y:AOd):Op->Bool
 | .call c=>match c.callee with
  | .builtin b=>(b == .copy) && (match c.args.toList,c.argTypes.toList with
   | [x',y'],t :: _=>wDe P t (fun d=>match d with | .slice e=>szT P e sz | _=>false) && (wBd x x' && wBd y y')
   | _,_=>false)
  | _=>false
 | _=>false
theorem e_cpy {sz:Nat} {x y:AOd} {op:Op} (hc:wOE P sz x y op=true):OkE C P op (wHg sz x y):=by
 intro σA h v h' hr μ σ w hE S o ho
 unfold wOE at hc
 split at hc
 ·rename_i c
  obtain ⟨ce,args,tys⟩:=c
  simp only at hc
  split at hc
  ·rename_i b
   simp only [hH,beq_iff_eq] at hc
   obtain ⟨rfl,h2⟩:=hc
   split at h2
   ·rename_i x' y' t ts h3 h4
    simp only [hH] at h2
    obtain ⟨a1,a2,a3⟩:=h2
    obtain ⟨d,d1,d2⟩:=wAf a1
    split at d2 <;> first | (cases d2;done) | skip
    rename_i e
    have ea:args=#[x',y']:=nI (by simpa using h3)
    have et:tys[0]?=some t:=by rw [<- kP,h4];rfl
    unfold wHg at hr
    split at hr
    ·rename_i b off n cc m news hx hs
     split at hr
     ·rename_i vs hsub
      obtain ⟨hones,hr'⟩:=wBG hr
      clear hr;have hr:=hr';clear hr'
      split at hr
      ·rename_i h1' hset
       cases hr
       have g:=wAH a2 hE;rw [hx] at g
       obtain ⟨c0,g1,_,g3⟩:=g
       obtain ⟨A2,cc2,NS,e2,n1,n2,n3⟩:=wHE hs S (wAH a3 hE)
       generalize hk:(if kE m n=true then m else n)=k at hsub ⊢
       have hmin:Nat.min m n=k:=by
        rw [<- hk]
        by_cases q:m <= n
        ·rw [if_pos (by rw [nM];exact q)];exact Nat.min_eq_left q
        ·rw [if_neg (by rw [nM];exact q)];exact Nat.min_eq_right (by omega)
       obtain ⟨k1,k2⟩:=wEN hsub n1
       rw [List.drop_zero] at k1
       obtain ⟨w',q1,q2,q3,q4⟩:=wEi hset S k1 (wDR k1 hones) g1
       refine ⟨μ,w',_,q3,q2,rfl,q4,by rw [ho];rfl,?_⟩
       have hf:∀ (w1:World),w1=w->(Builtin.firstCells sz k (.slice A2 m cc2)).run P w1=.ok (NS.take (k * sz)).toArray w1:=by
        intro w1 hw1
        subst hw1
        cases A2 with
        | none =>
         have hm:m=0:=by
          rcases n3 with q | ⟨_,q,_⟩
          ·exact q
          ·cases q
         have hN:NS=[]:=ng (by rw [n2,hm];simp)
         subst hN
         simp [Builtin.firstCells]
        | some ad =>
         have hcell:∀ j u,(NS.take (k * sz))[j]?=some u->w1.cell? (ad.add j)=some u:=by
          intro j u hu
          rw [kW] at hu
          split at hu
          ·rcases n3 with q | ⟨ad',q,q'⟩
           ·have hN:NS=[]:=ng (by rw [n2,q];simp)
            subst hN;simp at hu
           ·cases q;exact q' j u hu
          ·cases hu
         exact run_firstCells_some (P:=P) w1 sz k ad m cc2 (NS.take (k * sz)) (by rw [List.length_take];omega) hcell
       have hs2:=wCx d2
       simp [execOp,ho,ea,et,resolve,invoke,builtin,Builtin.copy_,wAg d1,g3,e2,Builtin.lenOf,hmin,hs2,hf w rfl,q1,goInt,Result.andThen]
      ·cases hr
     ·cases hr
    ·cases hr
   ·cases h2
  ·cases hc
 ·cases hc
def wOF (P:Program) (z:List AV) (x:AOd):Op->Bool
 | .call c=>match c.callee with
  | .builtin b=>(b == .clear) && (match c.args.toList,c.argTypes.toList with
   | [x'],[t]=>wDe P t (fun d=>match d with | .slice e=>zT P e z | _=>false) && wBd x x'
   | _,_=>false)
  | _=>false
 | _=>false
theorem wDD {zc:Array Value} (c:Nat):(Builtin.zeroCells zc c).toList=(nU c zc.toList).flatten:=by
 have:=wEQ (zc:=zc) (n:=0) c
 simp only [or_false] at this
 exact this
def wOG (P:Program) (T sz by_:Nat) (z:List AV) (x y:AOd):Op->Bool
 | .call c=>match c.callee with
  | .builtin b=>(b == .append) && (match c.args.toList,c.argTypes.toList with
   | [x',y'],[t,t']=>wDe P t (fun d=>match d with | .slice e=>nB e T | _=>false) && (wDe P t' (fun d=>match d with | .int _=>true | _=>false) && (wBd x x' && (wBd y y' && (szT P T sz && (byT P T by_ && (zT P T z && (nB (len z) sz && (na 0 sz && na 0 by_))))))))
   | _,_=>false)
  | _=>false
 | _=>false
theorem e_apz {T sz by_:Nat} {z:List AV} {x y:AOd} {op:Op} (hc:wOG P T sz by_ z x y op=true):OkE C P op (wHk T sz by_ z x y):=by
 intro σA h v h' hr μ σ w hE S o ho
 unfold wOG at hc
 split at hc <;> first | (cases hc;done) | skip
 rename_i c
 obtain ⟨ce,args,tys⟩:=c
 simp only at hc
 split at hc <;> first | (cases hc;done) | skip
 rename_i b
 simp only [hH,beq_iff_eq] at hc
 obtain ⟨rfl,h2⟩:=hc
 split at h2 <;> first | (cases h2;done) | skip
 rename_i x' y' t t' h3 h4
 simp only [hH] at h2
 obtain ⟨a1,a2,a3,a4,a5,a6,a7,a8,a9,a10⟩:=h2
 have hargs:args=#[x',y']:=nI (by simpa using h3)
 have htys:tys=#[t,t']:=nI (by simpa using h4)
 subst hargs htys
 obtain ⟨d,d1,d2⟩:=wAf a1
 split at d2 <;> first | (cases d2;done) | skip
 have e:=nA d2
 subst e
 rename_i e
 obtain ⟨dn,n1,n2⟩:=wAf a2
 split at n2 <;> first | (cases n2;done) | skip
 rename_i kn
 obtain ⟨i,i1,i2⟩:=wFR a5
 obtain ⟨i',j1,j2⟩:=wFS a6
 obtain ⟨i'',zv,k1,k2,k3⟩:=wEO a7
 rw [i1] at j1 k1;cases j1;cases k1
 have hz:=nA a8
 have hsz:0 < sz:=by simpa [nE] using a9
 have hx:=wAH a3 hE
 have hy:=wAH a4 hE
 have fin:∀ {μ':Mu} {w':World} {cv:Value},Ext μ h.fl.nat w μ' w'->Sim C P μ' h' w'->Rv μ' v cv->h'.fl=h.fl->(Builtin.append_ #[t,t'] o.type #[ev σ x',ev σ y']).run P w=.ok cv w' ->
   ∃ μ' w' cv,Ext μ h.fl.nat w μ' w'/\Sim C P μ' h' w'/\Rv μ' v cv/\h'.fl=h.fl/\Runs P σ w o cv w':=fun a b c d f =>
  ⟨_,_,_,a,b,c,d,by rw [ho];rfl,by simp [execOp,ho,resolve,invoke,builtin,f]⟩
 have zlen:zv.cells.size=sz:=by rw [<- hz,wDl,<- wCR (k3 μ)];simp
 unfold wHk at hr
 split at hr
 ·rename_i nn hxs hn
  rw [hxs] at hx
  rw [wBb hn] at hy
  have hx:ev σ x'=.slice none 0 0:=hx
  have hy:ev σ y'=.int .i64 (nn:Int):=hy
  cases nn with
  | zero =>
   cases hr
   refine fin (Ext.refl μ _ w) S rfl rfl ?_
   rw [hx,hy]
   simp [Builtin.append_,run_underlying d1,run_underlying n1,sizeOf,typeInfo,i1,asInt,asIntOf,IntKind.wrap_i64]
  | succ m =>
   obtain ⟨hble,hr⟩:=wBG hr
   have hble:=nK hble
   cases hr
   have hby:0 < by_:=by simpa [nE] using a10
   have hnb:m + 1 <= 140737488355328:=nW (kK _ hby) hble
   have hrun:=Go.Lib.run_append_nil_zeros (P:=P) w t t' o.type e i zv .i64 kn d1 n1 i1 k2 (m + 1) (by omega) (by rw [i2];exact hsz) (by omega) (by rw [j2];omega)
   have hge:=grownCap_ge w (m + 1) 0 e
   have maxb:(140737488355328:Nat) <= maxLen:=by decide
   have hcm:grownCap w (m + 1) 0 e <= maxLen:=grownCap_le_maxLen w (m + 1) 0 e (by omega)
   have hcs:((nU (m + 1) zv.cells.toList).flatten).length=(m + 1) * sz:=by rw [<- wDD];simp [size_zeroCells,zlen]
   obtain ⟨μ',s1,s2,s3,s4⟩:=wLM (T:=e) (sz:=sz) (c:=grownCap w (m + 1) 0 e) (w':=w.drew.alloc (.cells (Builtin.zeroCells zv.cells (m + 1) ++ Builtin.zeroCells zv.cells (grownCap w (m + 1) 0 e - (m + 1))) e)) (cur:=Builtin.zeroCells zv.cells (m + 1) ++ Builtin.zeroCells zv.cells (grownCap w (m + 1) 0 e - (m + 1))) S
    ((Keep.drew w).non (wAi w.drew _)) (wFo (k3 μ) (m + 1)) (heap_alloc_new w.drew _) (by rw [hcs];exact kR _ hge) hcm
    (by
     simp only [kZ,size_zeroCells,zlen,<- kO]
     congr 1
     omega)
    (by
     rw [kU,wDD]
     exact List.take_left)
   refine fin s1 s2 ⟨_,s4,?_,?_⟩ s3 (by rw [hx,hy];exact hrun)
   ·simpa using hge
   ·simp
 ·cases hr
theorem e_clr {z:List AV} {x:AOd} {op:Op} (hc:wOF P z x op=true):OkE C P op (wHh z x):=by
 intro σA h v h' hr μ σ w hE S o ho
 unfold wOF at hc
 split at hc
 ·rename_i c
  obtain ⟨ce,args,tys⟩:=c
  simp only at hc
  split at hc
  ·rename_i b
   simp only [hH,beq_iff_eq] at hc
   obtain ⟨rfl,h2⟩:=hc
   split at h2
   ·rename_i x' t h3 h4
    simp only [hH] at h2
    obtain ⟨a1,a2⟩:=h2
    obtain ⟨d,d1,d2⟩:=wAf a1
    split at d2 <;> first | (cases d2;done) | skip
    rename_i e
    have ea:args=#[x']:=nI (by simpa using h3)
    have et:tys=#[t]:=nI (by simpa using h4)
    subst ea et
    have hx:=wAH a2 hE
    obtain ⟨i,zv,z1,z2,z3⟩:=wEO d2
    have zero:∀ {A:Option Addr} {c:Nat},ev σ x'=.slice A 0 c->v=u->h'=h->∃ μ' w' cv,Ext μ h.fl.nat w μ' w'/\Sim C P μ' h' w'/\Rv μ' v cv/\h'.fl=h.fl/\Runs P σ w o cv w':=by
     intro A c hA hv hh
     subst hv hh
     refine ⟨μ,w,undef,Ext.refl μ _ w,S,wKs μ,rfl,by rw [ho];rfl,?_⟩
     cases A <;> simp [execOp,ho,resolve,invoke,builtin,Builtin.clear_,hA,wAg d1,undef]
    have full:∀ {b:Pos} {c:Cl} {off n cap:Nat},μ b=some c->ev σ x'=.slice (some ⟨c.1,off,none⟩) n cap->clr h z b off n=some (v,h')->∃ μ' w' cv,Ext μ h.fl.nat w μ' w'/\Sim C P μ' h' w'/\Rv μ' v cv/\h'.fl=h.fl/\Runs P σ w o cv w':=by
     intro b c off n cap hb hA hr
     unfold clr at hr
     split at hr
     ·cases hr;exact zero hA rfl rfl
     ·rename_i n
      obtain ⟨hones,hr'⟩:=wBG hr
      split at hr'
      ·rename_i h1' hset
       cases hr'
       have k1:=wFo (z3 μ) (n + 1)
       have k2:∀ v ∈ (nU (n + 1) zv.cells.toList).flatten,one v=true:=by
        intro v hv
        simp only [List.mem_flatten,List.mem_replicate] at hv
        obtain ⟨l,⟨_,rfl⟩,hv⟩:=hv
        exact wDR (z3 μ) hones v hv
       obtain ⟨w',q1,q2,q3,q4⟩:=wEi hset S k1 k2 hb
       refine ⟨μ,w',undef,q3,q2,wKs μ,q4,by rw [ho];rfl,?_⟩
       rw [<- wDD] at q1
       simp [execOp,ho,resolve,invoke,builtin,Builtin.clear_,hA,wAg d1,wCy z1 z2,q1,undef,Result.andThen]
      ·cases hr'
    unfold wHh at hr
    split at hr
    ·rename_i hb;rw [hb] at hx;obtain ⟨c,g1,_,g3⟩:=hx;exact full g1 g3 hr
    ·rename_i hb;rw [hb] at hx;obtain ⟨c,g1,_,g3⟩:=hx;exact full g1 g3 hr
    ·rename_i hb;rw [hb] at hx;cases hr;obtain ⟨c,g1,q,g3⟩:=hx;exact zero g3 rfl rfl
    ·rename_i hb;rw [hb] at hx;cases hr;have hx:ev σ x'=.slice none 0 0:=hx;exact zero hx rfl rfl
    ·cases hr
   ·cases h2
  ·cases hc
 ·cases hc
end
end
end Go.KX
namespace Go.KX
noncomputable section
open Go.RowKit Go.KL
section
variable {C:Chk} {P:Program} {μ μ':Mu} {w w':World} {h h':AH} {σ:Env} {σA:Tr AV} {t e:TypeId} {o:Oper} {K:Type} [DecidableEq K]
def wMQ (P:Program) (two:Bool) (k:IntKind) (kt:TypeId):Bool:=match two with
 | false=>wDe P kt fun d=>match wKy d with | some k'=>keq k k' | none=>false
 | true=>(!P.stoodInHeld kt) && wDe P kt fun d=>match d with
  | .struct fs=>match fs.toList with
   | [f, g] => nB f.type g.type && (nB f.offset 0 && (nB g.offset 1 && ((f.name != "_") && ((g.name != "_") && wDe P f.type fun d => match wKy d with | some k' => keq k k' | none => false))))
   | _=>false
  | _=>false
theorem keyI {k:IntKind} {kt:TypeId} (hc:wMQ P false k kt=true):KeyR P kt (fun n:Int=>nz k n):=by
 obtain ⟨d,d1,d2⟩:=wAf hc
 cases d <;> first | (cases d2;done) | skip
 have:=wBL d2
 subst this
 exact KeyR.ofInt d1
theorem wJl {k:IntKind} {kt:TypeId} (hc:wMQ P true k kt=true):KeyR P kt (mk2 k):=by
 simp only [wMQ,hH,nh] at hc
 obtain ⟨c0,c1⟩:=hc
 obtain ⟨d,d1,d2⟩:=wAf c1
 split at d2
 ·rename_i fs
  split at d2
  ·rename_i f g hfs
   simp only [hH] at d2
   obtain ⟨a1,a2,a3,a4,a5,a6⟩:=d2
   obtain ⟨di,i1,i2⟩:=wAf a6
   cases di <;> first | (cases i2;done) | skip
   have ek:=wBL i2
   subst ek
   have efs:fs=#[f,g]:=nI (by simpa using hfs)
   subst efs
   have T:Two P kt f.type f g k:=⟨d1,rfl,nA a2,by simpa using a4,(nA a1).symm,nA a3,by simpa using a5,i1,fun w=>wFq i1 w,c0⟩
   exact T.keyR (mk2 k) (·.1) (·.2) (fun _=>rfl) fun x y h1 h2=>Prod.ext h1 h2
  ·cases d2
 ·cases d2
theorem mrI {l:List (Int × AV)} {tt:List (Int × Value)} (hm:MR μ l tt) (n:Int):(wJc l n=none/\wDu tt n=none) \/ ∃ a v,wJc l n=some a/\wDu tt n=some v/\Rv μ a v:=by
 induction l generalizing tt with
 | nil=>cases tt with
  | nil=>exact .inl ⟨rfl,rfl⟩
  | cons q tt=>have:=hm.1;simp at this
 | cons p l ih =>
  cases tt with
  | nil=>have:=hm.1;simp at this
  | cons q tt =>
   obtain ⟨a,x⟩:=p
   obtain ⟨b,v⟩:=q
   obtain ⟨h1,h2⟩:=hm
   simp only [nH,nD] at h1
   obtain ⟨v',ws,g1,g2,g3⟩:=h2
   simp only [nH,nD] at g3
   obtain ⟨rfl,rfl⟩:=g3
   obtain ⟨rfl,h1⟩:=h1
   simp only [wJc,wDu]
   by_cases e:n=a
   ·right;exact ⟨x,v,by simp [wDS,e],by simp [e],g1⟩
   ·have:=ih (tt:=tt) ⟨h1,g2⟩
    simpa [wDS,e] using this
theorem wOH {l:List (Int × AV)} {tt:List (Int × Value)} (hm:MR μ l tt) (n:Int) {a:AV} {v:Value} (hv:Rv μ a v):MR μ (wKN l n a) (mput tt n v):=by
 induction l generalizing tt with
 | nil=>cases tt with
  | nil=>exact ⟨rfl,wBF hv wFn⟩
  | cons q tt=>have:=hm.1;simp at this
 | cons p l ih =>
  cases tt with
  | nil=>have:=hm.1;simp at this
  | cons q tt =>
   obtain ⟨b,x⟩:=p
   obtain ⟨b',v0⟩:=q
   obtain ⟨h1,h2⟩:=hm
   simp only [nH,nD] at h1
   obtain ⟨v',ws,g1,g2,g3⟩:=h2
   simp only [nH,nD] at g3
   obtain ⟨rfl,rfl⟩:=g3
   obtain ⟨rfl,h1⟩:=h1
   simp only [wKN,mput,wDS]
   by_cases e:n=b
   ·simp only [e,decide_true,if_true]
    exact ⟨by simp [h1],wBF hv g2⟩
   ·have:=ih (tt:=tt) ⟨h1,g2⟩
    simp only [e,decide_false,if_false]
    exact ⟨by simp [this.1],wBF g1 this.2⟩
theorem wOI {l:List (Int × AV)} {tt:List (Int × Value)} (hm:MR μ l tt) (n:Int):MR μ (wKP l n) (mdel tt n):=by
 induction l generalizing tt with
 | nil=>cases tt with
  | nil=>exact ⟨rfl,rfl⟩
  | cons q tt=>have:=hm.1;simp at this
 | cons p l ih =>
  cases tt with
  | nil=>have:=hm.1;simp at this
  | cons q tt =>
   obtain ⟨b,x⟩:=p
   obtain ⟨b',v0⟩:=q
   obtain ⟨h1,h2⟩:=hm
   simp only [nH,nD] at h1
   obtain ⟨v',ws,g1,g2,g3⟩:=h2
   simp only [nH,nD] at g3
   obtain ⟨rfl,rfl⟩:=g3
   obtain ⟨rfl,h1⟩:=h1
   simp only [wKP,mdel,wDS]
   by_cases e:n=b
   ·simp only [e,decide_true,if_true]
    exact ⟨h1,g2⟩
   ·have:=ih (tt:=tt) ⟨h1,g2⟩
    simp only [e,decide_false,if_false]
    exact ⟨by simp [this.1],wBF g1 this.2⟩
theorem z2 (x y a b:Int):(zeq x a && zeq y b)=decide ((x,y)=(a,b)):=by
 rw [wDS,wDS]
 by_cases h1:x=a <;> by_cases h2:y=b <;> simp [h1,h2]
theorem mr2 {l:List ((Int × Int) × AV)} {tt:List ((Int × Int) × Value)} (hm:MR μ l tt) (x y:Int):(wJb l x y=none/\wDu tt (x,y)=none) \/ ∃ a v,wJb l x y=some a/\wDu tt (x,y)=some v/\Rv μ a v:=by
 induction l generalizing tt with
 | nil=>cases tt with
  | nil=>exact .inl ⟨rfl,rfl⟩
  | cons q tt=>have:=hm.1;simp at this
 | cons p l ih =>
  cases tt with
  | nil=>have:=hm.1;simp at this
  | cons q tt =>
   obtain ⟨⟨a,b⟩,x0⟩:=p
   obtain ⟨b',v⟩:=q
   obtain ⟨h1,h2⟩:=hm
   simp only [nH,nD] at h1
   obtain ⟨v',ws,g1,g2,g3⟩:=h2
   simp only [nH,nD] at g3
   obtain ⟨rfl,rfl⟩:=g3
   obtain ⟨rfl,h1⟩:=h1
   simp only [wJb,wDu,z2]
   by_cases e:(x,y)=(a,b)
   ·right;exact ⟨x0,v,by simp only [e,decide_true],by simp only [e,if_true],g1⟩
   ·have:=ih (tt:=tt) ⟨h1,g2⟩
    simp only [e,decide_false,if_false]
    exact this
theorem wOJ {l:List ((Int × Int) × AV)} {tt:List ((Int × Int) × Value)} (hm:MR μ l tt) (x y:Int) {a:AV} {v:Value} (hv:Rv μ a v):MR μ (wKM l x y a) (mput tt (x,y) v):=by
 induction l generalizing tt with
 | nil=>cases tt with
  | nil=>exact ⟨rfl,wBF hv wFn⟩
  | cons q tt=>have:=hm.1;simp at this
 | cons p l ih =>
  cases tt with
  | nil=>have:=hm.1;simp at this
  | cons q tt =>
   obtain ⟨⟨b1,b2⟩,x0⟩:=p
   obtain ⟨b',v0⟩:=q
   obtain ⟨h1,h2⟩:=hm
   simp only [nH,nD] at h1
   obtain ⟨v',ws,g1,g2,g3⟩:=h2
   simp only [nH,nD] at g3
   obtain ⟨rfl,rfl⟩:=g3
   obtain ⟨rfl,h1⟩:=h1
   simp only [wKM,mput,z2]
   by_cases e:(x,y)=(b1,b2)
   ·simp only [e,decide_true,if_true]
    exact ⟨by simp [h1],wBF hv g2⟩
   ·have:=ih (tt:=tt) ⟨h1,g2⟩
    simp only [e,decide_false,if_false]
    exact ⟨by simp [this.1],wBF g1 this.2⟩
theorem wOK {l:List ((Int × Int) × AV)} {tt:List ((Int × Int) × Value)} (hm:MR μ l tt) (x y:Int):MR μ (wKO l x y) (mdel tt (x,y)):=by
 induction l generalizing tt with
 | nil=>cases tt with
  | nil=>exact ⟨rfl,rfl⟩
  | cons q tt=>have:=hm.1;simp at this
 | cons p l ih =>
  cases tt with
  | nil=>have:=hm.1;simp at this
  | cons q tt =>
   obtain ⟨⟨b1,b2⟩,x0⟩:=p
   obtain ⟨b',v0⟩:=q
   obtain ⟨h1,h2⟩:=hm
   simp only [nH,nD] at h1
   obtain ⟨v',ws,g1,g2,g3⟩:=h2
   simp only [nH,nD] at g3
   obtain ⟨rfl,rfl⟩:=g3
   obtain ⟨rfl,h1⟩:=h1
   simp only [wKO,mdel,z2]
   by_cases e:(x,y)=(b1,b2)
   ·simp only [e,decide_true,if_true]
    exact ⟨h1,g2⟩
   ·have:=ih (tt:=tt) ⟨h1,g2⟩
    simp only [e,decide_false,if_false]
    exact ⟨by simp [this.1],wBF g1 this.2⟩
theorem wPa {mt kt et:TypeId} {m ck:Nat} {es:Array MapEntry} {mk:K->Value} {tt:List (K × Value)} {a:K} {z:Value} {ok:Bool} (hm:w.heap[m]?=some (.map es ck)) (hu:P.underlying mt=some (.map kt et)) (R:KeyR P kt mk) (hz:∀ w,(zeroValue et).run P w=.ok z w) (hh:MpR es mk id tt) :
  (Instr.lookup mt (.map (some m)) (mk a) ok).run P w=.ok (if ok then .tuple #[wEI tt a z,.bool (wNe tt a)] else wEI tt a z) w:=by
 have hf:=R.find id es.toList tt a w hh
 have hg:=wFc tt a 0
 unfold wEI wNe
 simp [Instr.lookup,run_underlying hu,MapKept.run_getObj_map hm,R.chk,hf,Result.andThen,<- hg]
 cases e:wCK tt a 0 <;> simp [hz,Result.andThen]
theorem wOL {mt kt et:TypeId} {m ck:Nat} {es:Array MapEntry} {mk:K->Value} {tt:List (K × Value)} {a:K} {v:Value} (hm:w.heap[m]?=some (.map es ck)) (hu:P.underlying mt=some (.map kt et)) (R:KeyR P kt mk) (hh:MpR es mk id tt) :
  ∃ es' ck',MpR es' mk id (mput tt a v)/\(Instr.mapUpdate mt (.map (some m)) (mk a) v).run P w=.ok () (w.putObj m (.map es' ck')):=by
 have hf:=R.find id es.toList tt a w hh
 cases e:wCK tt a 0 with
 | none =>
  obtain ⟨e1,_⟩:=wDN e v
  refine ⟨es.push { key:=mk a,val:=v,born:=ck },ck + 1,?_,?_⟩
  ·unfold MpR at hh ⊢;rw [e1];simp [hh]
  ·simp [Instr.mapUpdate,run_underlying hu,MapKept.run_getObj_map hm,R.chk,hf,e,Result.andThen,MapKept.run_setObj_map _ hm]
   rfl
 | some p =>
  obtain ⟨q,u⟩:=p
  obtain ⟨_,h2,h3,_⟩:=wDO e v
  rw [Nat.sub_zero] at h2 h3
  have hq:q < tt.length:=(List.getElem?_eq_some_iff.1 h2).1
  have hl:es.size=tt.length:=by have:=congrArg ny hh;simpa using this
  have hkq:((es[q]?).map (·.key)).getD (mk a)=mk a:=by
   have h4:(es.toList.map (fun e=>(e.key,e.val)))[q]?=some (mk a,u):=by rw [hh,nt,h2];rfl
   rw [nt] at h4
   cases h5:es.toList[q]? with
   | none=>rw [h5] at h4;cases h4
   | some e =>
    rw [h5] at h4
    simp only [kg,nJ,Prod.mk.injEq] at h4
    have h6:es[q]?=some e:=by simpa using h5
    rw [h6];simp [h4.1]
  refine ⟨es.modify q fun e=>{ e with key:=mk a,val:=v },ck,?_,?_⟩
  ·unfold MpR at hh ⊢
   rw [h3]
   apply List.ext_getElem?
   intro n
   have hn:=congrArg (·[n]?) hh
   simp only [nt] at hn ⊢
   rw [List.getElem?_set]
   simp only [Array.toList_modify,List.getElem?_modify]
   by_cases hqn:q=n
   ·subst hqn
    have h5:es.toList[q]?=some (es.toList[q]'(by simpa [hl] using hq)):=no _
    simp [h5,hq]
   ·simp only [hqn,if_false]
    simpa [hqn] using hn
  ·simp [Instr.mapUpdate,run_underlying hu,MapKept.run_getObj_map hm,R.chk,hf,e,Result.andThen,MapKept.run_setObj_map _ hm,Instr.keyThatStays,hkq,R.same]
   rfl
theorem wOM {mt kt et ty:TypeId} {tys:Array TypeId} {m ck:Nat} {es:Array MapEntry} {mk:K->Value} {tt:List (K × Value)} {a:K} (hty:tys[0]?=some mt) (hm:w.heap[m]?=some (.map es ck)) (hu:P.underlying mt=some (.map kt et)) (R:KeyR P kt mk) (hh:MpR es mk id tt) :
  ∃ es' ck',MpR es' mk id (mdel tt a)/\(Builtin.delete_ tys ty #[.map (some m),mk a]).run P w=.ok (.tuple #[]) (w.putObj m (.map es' ck')):=by
 have hf:=R.find id es.toList tt a w hh
 cases e:wCK tt a 0 with
 | none =>
  obtain ⟨_,e1⟩:=wDN e (.bool true)
  refine ⟨es,ck,by rw [e1];exact hh,?_⟩
  simp [Builtin.delete_,hty,run_underlying hu,MapKept.run_getObj_map hm,R.chk,hf,e,Result.andThen,MapKept.run_setObj_map _ hm]
  rfl
 | some p =>
  obtain ⟨q,u⟩:=p
  obtain ⟨_,h2,_,h3⟩:=wDO e (.bool true)
  rw [Nat.sub_zero] at h2 h3
  refine ⟨es.eraseIdxIfInBounds q,ck,?_,?_⟩
  ·unfold MpR at hh ⊢
   rw [h3,<- wCL,<- hh,wCL]
   simp
  ·simp [Builtin.delete_,hty,run_underlying hu,MapKept.run_getObj_map hm,R.chk,hf,e,Result.andThen,MapKept.run_setObj_map _ hm]
   rfl
def wON (C:Chk) (P:Program) (μ:Mu) (w:World) (c:Cl) (two:Bool) (k:IntKind) (kt:TypeId) (B:AB) (y:AV) (Y:Value):Prop :=
  ∃ (K:Type) (_:DecidableEq K) (mk:K->Value) (a:K) (es:Array MapEntry) (ck:Nat) (tt:List (K × Value)),Y=mk a/\w.heap[c.1]?=some (.map es ck)/\KeyR P kt mk/\MpR es mk id tt /\
   (∀ q,wFg two k B y=some q->(q=none/\wDu tt a=none) \/ ∃ x v,q=some x/\wDu tt a=some v/\Rv μ x v) /\
   (∀ x v B',wMM two k B y x=some B'->Rv μ x v->wJh B'/\∀ w' es' ck',w'.heap[c.1]?=some (.map es' ck')->MpR es' mk id (mput tt a v)->AbR C P μ w' c B') /\
   (∀ B',wMN two k B y=some B'->wJh B'/\∀ w' es' ck',w'.heap[c.1]?=some (.map es' ck')->MpR es' mk id (mdel tt a)->AbR C P μ w' c B')
theorem wLN {two:Bool} {k:IntKind} {kt:TypeId} {B:AB} {y:AV} {Y:Value} {c:Cl} (hk:wMQ P two k kt=true) (hB:AbR C P μ w c B) (hY:Rv μ y Y) (hr:(wFg two k B y).isSome=true \/ (∃ v,(wMM two k B y v).isSome=true) \/ (wMN two k B y).isSome=true) :
  wON C P μ w c two k kt B y Y/\wJh B:=by
 have caseI:two=false->∀ (n:Int) (es:Array MapEntry) (ck:Nat) (tt:List (Int × Value)) (l:List (Int × AV)),y=.int k n->w.heap[c.1]?=some (.map es ck)->MpR es (fun n:Int=>nz k n) id tt->MR μ l tt ->
   (∀ q,wFg two k B y=some q->q=wJc l n)->(∀ x B',wMM two k B y x=some B'->B'=.mapI k (wKN l n x))->(∀ B',wMN two k B y=some B'->B'=.mapI k (wKP l n) \/ (B'=.map0/\l=[]))->wON C P μ w c two k kt B y Y:=by
  intro h2 n es ck tt l hy hm hp hM q1 q2 q3
  subst h2 hy
  have hY:Y=.int k n:=hY
  refine ⟨Int,inferInstance,fun n=>nz k n,n,es,ck,tt,hY,hm,keyI hk,hp,?_,?_,?_⟩
  ·intro q hq
   rw [q1 q hq]
   exact mrI hM n
  ·intro x v B' hB' hv
   have:=q2 x B' hB'
   subst this
   exact ⟨trivial,fun w' es' ck' g1 g2=>⟨es',ck',_,g1,g2,wOH hM n hv⟩⟩
  ·intro B' hB'
   rcases q3 B' hB' with rfl | ⟨rfl,rfl⟩
   ·exact ⟨trivial,fun w' es' ck' g1 g2=>⟨es',ck',_,g1,g2,wOI hM n⟩⟩
   ·refine ⟨trivial,fun w' es' ck' g1 g2=>⟨ck',?_⟩⟩
    cases tt with
    | cons p tt=>have:=hM.1;simp at this
    | nil =>
     have:es'=#[]:=by
      unfold MpR at g2
      simp only [mdel,kH,kV] at g2
      exact nI (by simpa using g2)
     rw [this] at g1;exact g1
 have case2:two=true->∀ (n m:Int) (es:Array MapEntry) (ck:Nat) (tt:List ((Int × Int) × Value)) (l:List ((Int × Int) × AV)),y=.agg [.int k n,.int k m]->w.heap[c.1]?=some (.map es ck)->MpR es (mk2 k) id tt->MR μ l tt ->
   (∀ q,wFg two k B y=some q->q=wJb l n m)->(∀ x B',wMM two k B y x=some B'->B'=.map2 k (wKM l n m x))->(∀ B',wMN two k B y=some B'->B'=.map2 k (wKO l n m) \/ (B'=.map0/\l=[]))->wON C P μ w c two k kt B y Y:=by
  intro h2 n m es ck tt l hy hm hp hM q1 q2 q3
  subst h2 hy
  have hY:Y=mk2 k (n,m):=by
   obtain ⟨vs,g1,rfl⟩:=hY
   obtain ⟨v1,ws,g2,g3,rfl⟩:=g1
   obtain ⟨v2,ws2,g4,g5,rfl⟩:=g3
   cases g5
   have g2:v1=.int k n:=g2
   have g4:v2=.int k m:=g4
   subst g2 g4
   rfl
  refine ⟨Int × Int,inferInstance,mk2 k,(n,m),es,ck,tt,hY,hm,wJl hk,hp,?_,?_,?_⟩
  ·intro q hq
   rw [q1 q hq]
   exact mr2 hM n m
  ·intro x v B' hB' hv
   have:=q2 x B' hB'
   subst this
   exact ⟨trivial,fun w' es' ck' g1 g2=>⟨es',ck',_,g1,g2,wOJ hM n m hv⟩⟩
  ·intro B' hB'
   rcases q3 B' hB' with rfl | ⟨rfl,rfl⟩
   ·exact ⟨trivial,fun w' es' ck' g1 g2=>⟨es',ck',_,g1,g2,wOK hM n m⟩⟩
   ·refine ⟨trivial,fun w' es' ck' g1 g2=>⟨ck',?_⟩⟩
    cases tt with
    | cons p tt=>have:=hM.1;simp at this
    | nil =>
     have:es'=#[]:=by
      unfold MpR at g2
      simp only [mdel,kH,kV] at g2
      exact nI (by simpa using g2)
     rw [this] at g1;exact g1
 have shape:(∃ n,two=false/\y=.int k n/\(B=.map0 \/ ∃ l,B=.mapI k l)) \/ (∃ n m,two=true/\y=.agg [.int k n,.int k m]/\(B=.map0 \/ ∃ l,B=.map2 k l)):=by
  have fI:∀ {k':IntKind} {b:Bool} {α:Type} {x:Option α},(ifO b x).isSome=true->b=true:=fun {k' b α x} hq=>by cases b <;> first | rfl | cases hq
  rcases hr with hr | ⟨v,hr⟩ | hr
  ·unfold wFg at hr
   split at hr <;> first | (cases hr;done) | skip
   ·have:=wBL (fI (k':=k) hr);subst this;exact .inl ⟨_,rfl,rfl,.inl rfl⟩
   ·have:=fI (k':=k) hr;simp only [hH] at this
    have e1:=wBL this.1;have e2:=wBL this.2;subst e1 e2;exact .inr ⟨_,_,rfl,rfl,.inl rfl⟩
   ·have:=fI (k':=k) hr;simp only [hH] at this
    have e1:=wBL this.1;have e2:=wBL this.2;subst e1 e2;exact .inl ⟨_,rfl,rfl,.inr ⟨_,rfl⟩⟩
   ·have:=fI (k':=k) hr;simp only [hH] at this
    have e1:=wBL this.1;have e2:=wBL this.2.1;have e3:=wBL this.2.2;subst e1 e2 e3;exact .inr ⟨_,_,rfl,rfl,.inr ⟨_,rfl⟩⟩
  ·unfold wMM at hr
   split at hr <;> first | (cases hr;done) | skip
   ·have:=wBL (fI (k':=k) hr);subst this;exact .inl ⟨_,rfl,rfl,.inl rfl⟩
   ·have:=fI (k':=k) hr;simp only [hH] at this
    have e1:=wBL this.1;have e2:=wBL this.2;subst e1 e2;exact .inr ⟨_,_,rfl,rfl,.inl rfl⟩
   ·have:=fI (k':=k) hr;simp only [hH] at this
    have e1:=wBL this.1;have e2:=wBL this.2;subst e1 e2;exact .inl ⟨_,rfl,rfl,.inr ⟨_,rfl⟩⟩
   ·have:=fI (k':=k) hr;simp only [hH] at this
    have e1:=wBL this.1;have e2:=wBL this.2.1;have e3:=wBL this.2.2;subst e1 e2 e3;exact .inr ⟨_,_,rfl,rfl,.inr ⟨_,rfl⟩⟩
  ·unfold wMN at hr
   split at hr <;> first | (cases hr;done) | skip
   ·have:=wBL (fI (k':=k) hr);subst this;exact .inl ⟨_,rfl,rfl,.inl rfl⟩
   ·have:=fI (k':=k) hr;simp only [hH] at this
    have e1:=wBL this.1;have e2:=wBL this.2;subst e1 e2;exact .inr ⟨_,_,rfl,rfl,.inl rfl⟩
   ·have:=fI (k':=k) hr;simp only [hH] at this
    have e1:=wBL this.1;have e2:=wBL this.2;subst e1 e2;exact .inl ⟨_,rfl,rfl,.inr ⟨_,rfl⟩⟩
   ·have:=fI (k':=k) hr;simp only [hH] at this
    have e1:=wBL this.1;have e2:=wBL this.2.1;have e3:=wBL this.2.2;subst e1 e2 e3;exact .inr ⟨_,_,rfl,rfl,.inr ⟨_,rfl⟩⟩
 have iS:∀ {b:Bool} {α:Type} {x:Option α} {v:α},ifO b x=some v->x=some v:=fun hq=>(wBG hq).2
 rcases shape with ⟨n,rfl,rfl,rfl | ⟨l,rfl⟩⟩ | ⟨n,m,rfl,rfl,rfl | ⟨l,rfl⟩⟩
 ·obtain ⟨ck,hm⟩:=hB
  refine ⟨?_,trivial⟩
  exact caseI rfl n #[] ck [] [] rfl hm rfl ⟨rfl,rfl⟩ (fun q hq=>by simp only [wFg] at hq;cases iS hq;rfl) (fun x B' hq=>by simp only [wMM] at hq;cases iS hq;rfl) (fun B' hq=>by simp only [wMN] at hq;cases iS hq;exact .inr ⟨rfl,rfl⟩)
 ·obtain ⟨es,ck,tt,hm,hp,hM⟩:=hB
  refine ⟨?_,trivial⟩
  exact caseI rfl n es ck tt l rfl hm hp hM (fun q hq=>by simp only [wFg] at hq;cases iS hq;rfl) (fun x B' hq=>by simp only [wMM] at hq;cases iS hq;rfl) (fun B' hq=>by simp only [wMN] at hq;cases iS hq;exact .inl rfl)
 ·obtain ⟨ck,hm⟩:=hB
  refine ⟨?_,trivial⟩
  exact case2 rfl n m #[] ck [] [] rfl hm rfl ⟨rfl,rfl⟩ (fun q hq=>by simp only [wFg] at hq;cases iS hq;rfl) (fun x B' hq=>by simp only [wMM] at hq;cases iS hq;rfl) (fun B' hq=>by simp only [wMN] at hq;cases iS hq;exact .inr ⟨rfl,rfl⟩)
 ·obtain ⟨es,ck,tt,hm,hp,hM⟩:=hB
  refine ⟨?_,trivial⟩
  exact case2 rfl n m es ck tt l rfl hm hp hM (fun q hq=>by simp only [wFg] at hq;cases iS hq;rfl) (fun x B' hq=>by simp only [wMM] at hq;cases iS hq;rfl) (fun B' hq=>by simp only [wMN] at hq;cases iS hq;exact .inl rfl)
def wPb (P:Program) (two:Bool) (k:IntKind) (ok:Bool) (z:AV) (x y:AOd):Op->Bool
 | .lookup t x' y' ok'=>wDe P t (fun d=>match d with
   | .map kt et=>wMQ P two k kt && (match P.info? et with
    | some i=>match i.zero with | some v=>okc z v | none=>false
    | none=>false)
   | _=>false) && ((ok == ok') && (wBd x x' && wBd y y'))
 | _=>false
def lkV (ok:Bool) (z:AV) (q:Option AV):AV:=match ok with
 | true=>.tup [q.getD z,.bool q.isSome]
 | false=>q.getD z
theorem l_lk {two:Bool} {k:IntKind} {ok:Bool} {z:AV} {x y:AOd} {op:Op} (hc:wPb P two k ok z x y op=true):OkL C P op (wMP two k ok z x y):=by
 intro σA h v h' hr
 unfold wPb at hc
 split at hc
 ·rename_i t x' y' ok'
  simp only [hH,beq_iff_eq] at hc
  obtain ⟨c1,rfl,c2,c3⟩:=hc
  obtain ⟨d,d1,d2⟩:=wAf c1
  split at d2 <;> first | (cases d2;done) | skip
  rename_i kt et
  simp only [hH] at d2
  obtain ⟨k1,k2⟩:=d2
  split at k2 <;> first | (cases k2;done) | skip
  rename_i i hi
  split at k2 <;> first | (cases k2;done) | skip
  rename_i zv hz
  unfold wMP at hr
  split at hr <;> first | (cases hr;done) | skip
  rename_i b hx
  split at hr <;> first | (cases hr;done) | skip
  rename_i B hB
  have key:∀ q,wFg two k B (evA σA y)=some q->h'=h->v=lkV ok z q->h'=h/\∀ μ σ w,EnvR μ σA σ->Sim C P μ h w->∃ cv,Rv μ v cv/\∀ (o:Oper),o.op=.lookup t x' y' ok->wEZ P σ w o cv:=by
   intro q hq hh hv
   subst hh hv
   refine ⟨rfl,fun μ σ w hE S=>?_⟩
   have g:=wAH c2 hE;rw [hx] at g
   obtain ⟨c,g1,g2⟩:=g
   obtain ⟨c',g3,g4⟩:=S.at_ b B hB
   rw [g1] at g3;cases g3
   obtain ⟨⟨K,_,mk,a,es,ck,tt,e1,e2,e3,e4,e5,_,_⟩,hl⟩:=wLN k1 g4 (wAH c3 hE) (.inl (by rw [hq];rfl))
   have hrun:∀ w',Keep w w' Non->∀ (o:Oper),o.op=.lookup t x' y' ok->Runs P σ w' o (if ok then .tuple #[wEI tt a zv,.bool (wNe tt a)] else wEI tt a zv) w':=by
    intro w' K o ho
    have hm:=(K.block _ (wAM e2) id).trans e2
    have:=wPa (P:=P) (ok:=ok) hm d1 e3 (wCy hi hz) e4 (a:=a)
    exact ⟨by rw [ho];rfl,by simp [execOp,ho,g2,e1,this,Result.andThen]⟩
   refine ⟨_,?_,fun o ho w' K=>hrun w' K o ho⟩
   have hval:Rv μ (q.getD z) (wEI tt a zv)/\q.isSome=wNe tt a:=by
    rcases e5 q hq with ⟨rfl,q2⟩ | ⟨x,v,rfl,q2,q3⟩
    ·unfold wEI wNe;rw [q2];exact ⟨wKu μ k2,rfl⟩
    ·unfold wEI wNe;rw [q2];exact ⟨q3,rfl⟩
   cases ok
   ·exact hval.1
   ·exact ⟨_,wBF hval.1 (wBF (v:=.bool (wNe tt a)) (by rw [<- hval.2];rfl) wFn),rfl⟩
  split at hr
  ·rename_i q hq
   cases hr
   exact key _ hq rfl (by cases ok <;> rfl)
  ·rename_i hq
   cases hr
   exact key _ hq rfl (by cases ok <;> rfl)
  ·cases hr
 ·cases hc
def wJG (P:Program) (two:Bool) (k:IntKind) (x y z:AOd):Op->Bool
 | .mapUpdate t x' y' z' | .insert t x' y' z'=>wDe P t (fun d=>match d with
   | .map kt et=>wMQ P two k kt
   | _=>false) && (wBd x x' && (wBd y y' && wBd z z'))
 | _=>false
theorem wLO {two:Bool} {k:IntKind} {x y z:AOd} {op:Op} (hc:wJG P two k x y z op=true):∃ t kt et x' y' z',(op=.mapUpdate t x' y' z' \/ op=.insert t x' y' z')/\P.underlying t=some (.map kt et)/\wMQ P two k kt=true/\wBd x x'=true/\wBd y y'=true/\wBd z z'=true:=by
 have key:∀ {t:TypeId} {x' y' z':Operand},(wDe P t (fun d=>match d with | .map kt et=>wMQ P two k kt | _=>false) && (wBd x x' && (wBd y y' && wBd z z')))=true->∃ kt et,P.underlying t=some (.map kt et)/\wMQ P two k kt=true/\wBd x x'=true/\wBd y y'=true/\wBd z z'=true:=by
  intro t x' y' z' hq
  simp only [hH] at hq
  obtain ⟨d,d1,d2⟩:=wAf hq.1
  split at d2 <;> first | (cases d2;done) | skip
  exact ⟨_,_,d1,d2,hq.2⟩
 unfold wJG at hc
 split at hc
 ·obtain ⟨kt,et,g⟩:=key hc;exact ⟨_,kt,et,_,_,_,.inl rfl,g⟩
 ·obtain ⟨kt,et,g⟩:=key hc;exact ⟨_,kt,et,_,_,_,.inr rfl,g⟩
 ·cases hc
theorem wPc {two:Bool} {k:IntKind} {x y z:AOd} {op:Op} (hc:wJG P two k x y z op=true):OkU C P op (wFE two k x y z):=by
 intro σA h v h' hr μ σ w hE S o ho
 obtain ⟨t,kt,et,x',y',z',hop,d1,k1,c1,c2,c3⟩:=wLO hc
 unfold wFE at hr
 split at hr <;> first | (cases hr;done) | skip
 rename_i b hx
 split at hr <;> first | (cases hr;done) | skip
 rename_i B hB
 split at hr <;> first | (cases hr;done) | skip
 rename_i B' hp
 split at hr <;> first | (cases hr;done) | skip
 rename_i h1' hput
 cases hr
 have g:=wAH c1 hE;rw [hx] at g
 obtain ⟨c,g1,g2⟩:=g
 obtain ⟨c',g3,g4⟩:=S.at_ b B hB
 rw [g1] at g3;cases g3
 obtain ⟨⟨K,_,mk,a,es,ck,tt,e1,e2,e3,e4,_,e6,_⟩,hl⟩:=wLN k1 g4 (wAH c2 hE) (.inr (.inl ⟨_,by rw [hp];rfl⟩))
 obtain ⟨es',ck',r1,r2⟩:=wOL (P:=P) (v:=ev σ z') e2 d1 e3 e4 (a:=a)
 obtain ⟨l1,l2⟩:=e6 _ (ev σ z') B' hp (wAH c3 hE)
 obtain ⟨s1,s2,s3⟩:=S.put hput hB hl g1 (wBQ w c.1 (.map es' ck')) (l2 _ es' ck' (wDP _ (wAM e2)) r1)
 refine ⟨μ,_,s2,s1,rfl,s3,by rw [ho];rcases hop with e | e <;> (rw [e];rfl),?_⟩
 rcases hop with e | e <;> rw [e] at ho <;> simp [execOp,ho,g2,e1,r2,Result.andThen]
def wLP (P:Program) (two:Bool) (k:IntKind) (x y:AOd):Op->Bool
 | .call c=>match c.callee with
  | .builtin b=>(b == .delete) && (match c.args.toList,c.argTypes.toList with
   | [x',y'],t :: _=>wDe P t (fun d=>match d with | .map kt _=>wMQ P two k kt | _=>false) && (wBd x x' && wBd y y')
   | _,_=>false)
  | _=>false
 | _=>false
theorem wPd {two:Bool} {k:IntKind} {x y:AOd} {op:Op} (hc:wLP P two k x y op=true):OkE C P op (wFF two k x y):=by
 intro σA h v h' hr μ σ w hE S o ho
 unfold wLP at hc
 split at hc <;> first | (cases hc;done) | skip
 rename_i c
 obtain ⟨ce,args,tys⟩:=c
 simp only at hc
 split at hc <;> first | (cases hc;done) | skip
 rename_i b
 simp only [hH,beq_iff_eq] at hc
 obtain ⟨rfl,h2⟩:=hc
 split at h2 <;> first | (cases h2;done) | skip
 rename_i x' y' t ts h3 h4
 simp only [hH] at h2
 obtain ⟨a1,a2,a3⟩:=h2
 obtain ⟨d,d1,d2⟩:=wAf a1
 split at d2 <;> first | (cases d2;done) | skip
 rename_i kt et
 have ea:args=#[x',y']:=nI (by simpa using h3)
 have et':tys[0]?=some t:=by rw [<- kP,h4];rfl
 unfold wFF at hr
 split at hr <;> first | (cases hr;done) | skip
 rename_i b hx
 split at hr <;> first | (cases hr;done) | skip
 rename_i B hB
 split at hr <;> first | (cases hr;done) | skip
 rename_i B' hp
 split at hr <;> first | (cases hr;done) | skip
 rename_i h1' hput
 cases hr
 have g:=wAH a2 hE;rw [hx] at g
 obtain ⟨c,g1,g2⟩:=g
 obtain ⟨c',g3,g4⟩:=S.at_ b B hB
 rw [g1] at g3;cases g3
 obtain ⟨⟨K,_,mk,a,es,ck,tt,e1,e2,e3,e4,_,_,e7⟩,hl⟩:=wLN d2 g4 (wAH a3 hE) (.inr (.inr (by rw [hp];rfl)))
 obtain ⟨es',ck',r1,r2⟩:=wOM (P:=P) (ty:=o.type) et' e2 d1 e3 e4 (a:=a)
 obtain ⟨l1,l2⟩:=e7 B' hp
 obtain ⟨s1,s2,s3⟩:=S.put hput hB hl g1 (wBQ w c.1 (.map es' ck')) (l2 _ es' ck' (wDP _ (wAM e2)) r1)
 refine ⟨μ,_,_,s2,s1,wKs μ,s3,by rw [ho];rfl,?_⟩
 simp [execOp,ho,ea,resolve,invoke,builtin,g2,e1,r2,undef,Result.andThen]
def wHr (P:Program) (x:AOd):Op->Bool
 | .call c=>match c.callee with
  | .builtin b=>(b == .len) && (match c.args.toList,c.argTypes.toList with
   | [x'],[t]=>wDe P t (fun d=>match d with | .map _ _=>true | _=>false) && wBd x x'
   | _,_=>false)
  | _=>false
 | _=>false
theorem wPe {x:AOd} {op:Op} (hc:wHr P x op=true):OkL C P op (wEC x):=by
 intro σA h v h' hr
 unfold wHr at hc
 split at hc <;> first | (cases hc;done) | skip
 rename_i c
 obtain ⟨ce,args,tys⟩:=c
 simp only at hc
 split at hc <;> first | (cases hc;done) | skip
 rename_i b
 simp only [hH,beq_iff_eq] at hc
 obtain ⟨rfl,h2⟩:=hc
 split at h2 <;> first | (cases h2;done) | skip
 rename_i x' t h3 h4
 simp only [hH] at h2
 obtain ⟨a1,a2⟩:=h2
 obtain ⟨d,d1,d2⟩:=wAf a1
 split at d2 <;> first | (cases d2;done) | skip
 rename_i kt et
 have ea:args=#[x']:=nI (by simpa using h3)
 have et':tys=#[t]:=nI (by simpa using h4)
 subst ea et'
 unfold wEC at hr
 split at hr
 ·rename_i hx
  cases hr
  refine ⟨rfl,fun μ σ w hE S=>⟨_,rfl,fun o ho w' K=>?_⟩⟩
  have g:=wAH a2 hE;rw [hx] at g
  have g:ev σ x'=.map none:=g
  exact ⟨by rw [ho];rfl,by simp [execOp,ho,resolve,invoke,builtin,Builtin.len_,g,run_underlying d1,goInt,Result.andThen]⟩
 ·rename_i b hx
  split at hr <;> first | (cases hr;done) | skip
  rename_i B hB
  split at hr <;> first | (cases hr;done) | skip
  rename_i n hn
  cases hr
  refine ⟨rfl,fun μ σ w hE S=>⟨_,rfl,fun o ho w' K=>?_⟩⟩
  have g:=wAH a2 hE;rw [hx] at g
  obtain ⟨c,g1,g2⟩:=g
  obtain ⟨c',g3,g4⟩:=S.at_ b B hB
  rw [g1] at g3;cases g3
  have hmap:∃ es ck,w.heap[c.1]?=some (.map es ck)/\es.size=n:=by
   unfold lenB at hn
   split at hn <;> first | (cases hn;done) | skip
   ·cases hn;obtain ⟨ck,q⟩:=g4;exact ⟨_,ck,q,rfl⟩
   ·cases hn
    obtain ⟨es,ck,tt,q1,q2,q3⟩:=g4
    refine ⟨es,ck,q1,?_⟩
    have e1:=congrArg ny q2
    have e2:=congrArg ny q3.1
    simp at e1 e2
    rw [wDl];omega
   ·cases hn
    obtain ⟨es,ck,tt,q1,q2,q3⟩:=g4
    refine ⟨es,ck,q1,?_⟩
    have e1:=congrArg ny q2
    have e2:=congrArg ny q3.1
    simp at e1 e2
    rw [wDl];omega
  obtain ⟨es,ck,q1,q2⟩:=hmap
  have hm:=(K.block _ (wAM q1) id).trans q1
  refine ⟨by rw [ho];rfl,?_⟩
  simp [execOp,ho,resolve,invoke,builtin,Builtin.len_,g2,run_underlying d1,MapKept.run_getObj_map hm,goInt,Result.andThen,q2]
 ·cases hr
end
end
end Go.KX
namespace Go.KX
noncomputable section
open Go.RowKit Go.KL
def kdA:AOp->Nat
 | .mv _ | .pick _ _ _ | .nilc _ | .add _ _ | .sub _ _ | .mul _ _ | .quo _ _ | .rem _ _ | .lss _ _ | .leq _ _ | .gtr _ _ | .geq _ _ | .eql _ _ | .neq _ _ | .eqb _ _ _ | .eqn _ _ _ _ | .eqs _ _ _ _
 | .bad | .and _ _ | .shr _ _ | .ixs _ _ | .neg _ | .not _ | .cvt _ _ | .mkf _ _ _ | .slc _ _ _ _ _ | .slcA _ _ _ _ _ | .fad _ _ | .fld _ _ | .fldA _ _ _ | .iad _ _ _ | .iadA _ _ _ _ | .ix _ _ _ | .ixA _ _ _ _ | .ext _ _ | .bld _ _ | .len _ | .cap _ | .min _ _ | .max _ _=>3
 | .ld _ | .ldA _ _ | .lk _ _ _ _ _ _ | .lenM _=>1
 | .st _ _ _ | .mput _ _ _ _ _=>4
 | .call _ _=>5
 | _=>0
def wLQ (x:AOd) (l:List AOd):Op->Bool
 | .call c=>match c.callee with
  | .value f=>wBd x f && wHn l c.args.toList
  | _=>false
 | _=>false
def wOv:List UInt8->List Nat->Bool
 | [],[]=>true
 | a :: l,b :: k=>nB a.toNat b && wOv l k
 | _,_=>false
theorem wLR:∀ {l:List UInt8} {k:List Nat},wOv l k=true->l.map UInt8.toNat=k
 | [],[],_=>rfl
 | a :: l,b :: k,h=>by
  simp only [wOv,hH] at h
  rw [nH,nA h.1,wLR h.2]
 | [],_ :: _,h=>by simp [wOv] at h
 | _ :: _,[],h=>by simp [wOv] at h
def wOO (P:Program) (l:List Nat) (y:AOd):Op->Bool
 | .index t (.const (.string s)) y'=>wDe P t (fun d=>match d with | .string=>true | _=>false) && (wOv s.data.toList l && wBd y y')
 | _=>false
def wFv (P:Program) (a:AOp) (op:Op):Bool:=match a with
 | .mv x=>c_mv x op
 | .pick c x y=>wKv c x y op
 | .new T z=>wLI P T z op
 | .box T x=>wLJ T x op
 | .ld x=>wPX P x op
 | .ldA n x=>wLH P n x op
 | .st n x y=>c_st P n x y op
 | .nilc x=>wKw x op
 | .add x y=>wCH .add x y op
 | .sub x y=>wCH .sub x y op
 | .mul x y=>wCH .mul x y op
 | .quo x y=>wCH .quo x y op
 | .rem x y=>wCH .rem x y op
 | .lss x y=>wCH .lss x y op
 | .leq x y=>wCH .leq x y op
 | .gtr x y=>wCH .gtr x y op
 | .geq x y=>wCH .geq x y op
 | .eql x y=>wCH .eql x y op
 | .neq x y=>wCH .neq x y op
 | .eqb ne x y=>wNu P ne x y op
 | .eqn k ne x y=>wNv P k ne x y op
 | .eqs ne s x y=>wNw P ne s x y op
 | .neg x=>wNp x op
 | .not x=>wNq x op
 | .cvt k x=>wNr (P:=P) k x op
 | .mkf f fi ca=>wNs f fi ca op
 | .mkm=>wLK op
 | .mks T sz by_ z x y=>wLL P T sz by_ z x y op
 | .slc sz x lo hi mx=>wOB P sz x lo hi mx op
 | .slcA sz n x lo hi=>wLF P sz n x lo hi op
 | .fad off x=>wNx P off x op
 | .fld off x=>wNy P off x op
 | .fldA off n x=>wLB P off n x op
 | .iad sz x y=>wNz P sz x y op
 | .iadA sz n x y=>wLC P sz n x y op
 | .ix n x y=>c_ix P n x y op
 | .ixA sz n x y=>wOA P sz n x y op
 | .lk two k ok z x y=>wPb P two k ok z x y op
 | .mput two k x y z=>wJG P two k x y z op
 | .mdel two k x y=>wLP P two k x y op
 | .ext i x=>wNt i x op
 | .bld z ps=>wOC P z ps op
 | .blds T n z ps=>wHq P T n z ps op
 | .len x=>wJk P .len x op
 | .lenM x=>wHr P x op
 | .cap x=>wJk P .cap x op
 | .app T sz by_ x y=>wMe P T sz by_ x y op
 | .cpy sz x y=>wOE P sz x y op
 | .clr z x=>wOF P z x op
 | .min x y=>wOu .min x y op
 | .max x y=>wOu .max x y op
 | .call x l=>wLQ x l op
 | .bad=>true
 | .and x y=>wCH .and x y op
 | .shr x y=>wCH .shr x y op
 | .ixs l y=>wOO P l y op
 | .apz T sz by_ z x y=>wOG P T sz by_ z x y op
section
variable {C:Chk} {P:Program} {tb:Tr AF} {ex exY:Run}
theorem p_bad {op:Op}:OkP P op (wPM):=by
 intro σA h v h' hr
 cases hr
theorem p_and {x y:AOd} {op:Op} (hc:wCH .and x y op=true):OkP P op (wKh x y):=by
 intro σA h v h' hr
 obtain ⟨t,x',y',t',rfl,h1,h2⟩:=wEg hc
 obtain ⟨hr2,rfl⟩:=wBN hr
 split at hr2
 ·rename_i k a k' b ha hb
  split at hr2
  ·rename_i hk
   cases hr2
   have hk:=wBL hk
   subst hk
   refine ⟨rfl,fun μ σ hE=>⟨_,rfl,fun o w ho=>?_⟩⟩
   have g1:=wAH h1 hE;rw [ha] at g1
   have g2:=wAH h2 hE;rw [hb] at g2
   have g1:ev σ x'=.int k a:=g1
   have g2:ev σ y'=.int k b:=g2
   exact ⟨by rw [ho];rfl,by simp [execOp,ho,g1,g2,binOp,eqGuard,Op.intBits,andI]⟩
  ·cases hr2
 ·cases hr2
theorem p_shr {x y:AOd} {op:Op} (hc:wCH .shr x y op=true):OkP P op (wKi x y):=by
 intro σA h v h' hr
 obtain ⟨t,x',y',t',rfl,h1,h2⟩:=wEg hc
 obtain ⟨hr2,rfl⟩:=wBN hr
 split at hr2
 ·rename_i k a k' b ha hb
  cases hr2
  refine ⟨rfl,fun μ σ hE=>⟨_,rfl,fun o w ho=>?_⟩⟩
  have g1:=wAH h1 hE;rw [ha] at g1
  have g2:=wAH h2 hE;rw [hb] at g2
  have g1:ev σ x'=.int k a:=g1
  have g2:ev σ y'=.int k' (kL b):=g2
  have hn:¬ (kL b) < 0:=by simp
  exact ⟨by rw [ho];rfl,by simp [execOp,ho,g1,g2,binOp,eqGuard,Op.shift];intro hb0;omega⟩
 ·cases hr2
theorem p_ixs {l:List Nat} {y:AOd} {op:Op} (hc:wOO P l y op=true):OkP P op (wIW l y):=by
 intro σA h v h' hr
 unfold wOO at hc
 split at hc <;> first | (cases hc;done) | skip
 rename_i t s y'
 simp only [hH] at hc
 obtain ⟨c1,c2,c3⟩:=hc
 obtain ⟨d,d1,d2⟩:=wAf c1
 split at d2 <;> first | (cases d2;done) | skip
 have hl:=wLR c2
 unfold wIW at hr
 split at hr
 ·rename_i k i hy
  obtain ⟨hr2,rfl⟩:=wBN hr
  split at hr2
  ·rename_i b hb
   cases hr2
   rw [wFH,<- hl,nt] at hb
   have hi:i < s.data.toList.length:=by
    rcases kG i s.data.toList.length with q | q
    ·exact q
    ·rw [nu q] at hb;cases hb
   have hi2:i < s.size:=by simpa using hi
   rw [no hi] at hb
   have hb:(s.data.toList[i]).toNat=b:=by simpa using hb
   refine ⟨rfl,fun μ σ hE=>⟨_,rfl,fun o w ho=>?_⟩⟩
   have g:=wAH c3 hE;rw [hy] at g
   have g:ev σ y'=.int k (kL i):=g
   have hx:ev σ (.const (.string s))=.string s:=rfl
   have hrun:=run_index_string (P:=P) w t s k (kL i) d1
   rw [dif_pos ⟨by simp,by simpa using hi2⟩] at hrun
   have hbb:(s[(kL i).toNat]'(by simpa using hi2)).toNat=b:=by rw [<- hb];rfl
   rw [hbb] at hrun
   simp only [nY] at hrun
   exact ⟨by rw [ho];rfl,by simp only [execOp,ho,hx,g];simp [hrun]⟩
  ·cases hr2
 ·cases hr
theorem wGe {a:AOp} {op:Op} (hk:kdA a=3) (hc:wFv P a op=true):OkP P op (opY a tb ex exY):=by
 cases a <;> first
  | (simp [kdA] at hk;done)
  | exact p_bad | exact p_and hc | exact p_shr hc | exact p_ixs hc | exact p_mv hc | exact wPQ hc | exact wPR hc | exact p_add hc | exact p_sub hc | exact p_mul hc | exact p_quo hc | exact p_rem hc
  | exact p_lss hc | exact p_leq hc | exact p_gtr hc | exact p_geq hc | exact p_eql hc | exact p_neq hc | exact p_eqb hc | exact p_eqn hc | exact p_eqs hc
  | exact p_neg hc | exact p_not hc | exact p_cvt hc | exact p_mkf hc | exact p_slc hc | exact wPV hc | exact p_fad hc | exact p_fld hc | exact wPT hc
  | exact p_iad hc | exact wPU hc | exact p_ix hc | exact p_ixA hc | exact p_ext hc | exact p_bld hc | exact p_len hc | exact p_cap hc | exact p_min hc | exact p_max hc
theorem wGf {a:AOp} {op:Op} (hk:kdA a=1 \/ kdA a=3) (hc:wFv P a op=true):OkL C P op (opY a tb ex exY):=by
 rcases hk with hk | hk
 ·cases a <;> first
   | (simp [kdA] at hk;done)
   | exact l_ld hc | exact l_ldA hc | exact l_lk hc | exact wPe hc
 ·exact (wGe hk hc).toL
theorem wPf {a:AOp} {op:Op} (hk:kdA a=0 \/ kdA a=1 \/ kdA a=3) (hc:wFv P a op=true):OkE C P op (opY a tb ex exY):=by
 rcases hk with hk | hk
 ·cases a <;> first
   | (simp [kdA] at hk;done)
   | exact e_new hc | exact e_box hc | exact e_mkm hc | exact e_mks hc | exact wPd hc | exact wPY hc | exact e_app hc | exact e_apz hc | exact e_cpy hc | exact e_clr hc
 ·exact (wGf hk hc).toE
theorem wPg {a:AOp} {op:Op} (hk:kdA a=4) (hc:wFv P a op=true):OkU C P op (opY a tb ex exY):=by
 cases a <;> first
  | (simp [kdA] at hk;done)
  | exact u_st hc | exact wPc hc
def wFI (C:Chk) (P:Program) (tb:Tr AF) (ex:Run):Prop:=∀ f args h v h',wHi tb ex f args h=some (v,h') ->
 (∀ (a:Array Value) (w:World),(callFunc (f.nat - 1) a).run P w=.ok (.enter (f.nat - 1) a) w) /\
 ∀ μ w vs,Sim C P μ h w->RvL μ args vs->Gv P (f.nat - 1) vs w fun cv w'=>∃ μ',Ext μ h.fl.nat w μ' w'/\Sim C P μ' h' w'/\Rv μ' v cv/\h'.fl=h.fl
def wER (C:Chk) (P:Program) (ex:Run):Prop:=∀ b args h v h',wHj ex b args h=some (v,h') ->
 ∀ μ w x c,Sim C P μ h w->RvL μ args x->μ b=some c->Yd P c.1 x w fun t w'=>∃ μ',Ext μ h.fl.nat w μ' w'/\Sim C P μ' h' w'/\v=.bool t/\h'.fl=h.fl
def wFw (P:Program) (N:Nat) (l:List Oper) (a:AO):Bool:=match l[a.ix]? with
 | none=>false
 | some o=>wFv P a.op o.op && ((match a.dst,o.dst with
   | none,none=>true
   | some p,some d=>nB p.nat (d + 1) && na d N
   | _,_=>false) && ((match a.grd,o.guard with
   | none,none=>true
   | some (p,b),some (j,b')=>(b == b') && (match (l[j]?).bind (·.dst) with | some d=>nB p.nat (d + 1) | none=>false)
   | _,_=>false) && ((match a.kd with
   | 3=>nB (kdA a.op) 3
   | 1=>nB (kdA a.op) 1 || nB (kdA a.op) 3
   | _=>true) && ((!Nat.beq (kdA a.op) 4 || o.dst.isNone) && !Nat.beq a.kd 1005))))
structure AOK (P:Program) (N:Nat) (l:List Oper) (a:AO) (o:Oper):Prop where
 get:l[a.ix]?=some o
 op:wFv P a.op o.op=true
 dst:(a.dst=none/\o.dst=none) \/ ∃ p d,a.dst=some p/\o.dst=some d/\d=p.nat - 1/\d < N
 grd:(a.grd=none/\o.guard=none) \/ ∃ p b j d,a.grd=some (p,b)/\o.guard=some (j,b)/\(l[j]?).bind (·.dst)=some d/\d=p.nat - 1
 k3:a.kd=3->kdA a.op=3
 k1:a.kd=1->kdA a.op=1 \/ kdA a.op=3
 un:kdA a.op=4->o.dst=none
 k5:a.kd ≠ 1005
theorem wCW {N:Nat} {l:List Oper} {a:AO} (hc:wFw P N l a=true):∃ o,AOK P N l a o:=by
 unfold wFw at hc
 split at hc
 ·cases hc
 ·rename_i o ho
  simp only [hH] at hc
  obtain ⟨c1,c2,c3,c4,c5,c6⟩:=hc
  refine ⟨o,ho,c1,?_,?_,?_,?_,?_,?_⟩
  ·split at c2
   ·rename_i h1 h2;exact .inl ⟨h1,h2⟩
   ·rename_i p d h1 h2
    simp only [hH,nE] at c2
    have:=nA c2.1
    exact .inr ⟨p,d,h1,h2,by rw [this];rfl,c2.2⟩
   ·cases c2
  ·split at c3
   ·rename_i h1 h2;exact .inl ⟨h1,h2⟩
   ·rename_i p b j b' h1 h2
    simp only [hH,beq_iff_eq] at c3
    obtain ⟨rfl,c3⟩:=c3
    split at c3
    ·rename_i d hd
     have:=nA c3
     exact .inr ⟨p,b,j,d,h1,h2,hd,by rw [this];rfl⟩
    ·cases c3
   ·cases c3
  ·intro hk;rw [hk] at c4;exact nA c4
  ·intro hk;rw [hk] at c4
   simp only [nQ] at c4
   exact c4.imp nA nA
  ·intro hk;rw [hk] at c5
   simpa using c5
  ·intro hk;rw [hk] at c6
   simp at c6
theorem wHF {N:Nat} {l:List Oper} {a:AO} {o:Oper} {μ:Mu} {σA:Tr AV} {σ:Env} (A:AOK P N l a o) (hE:EnvR μ σA σ):wanted l σ o=wCM σA a.grd:=by
 unfold wanted
 rcases A.grd with ⟨h1,h2⟩ | ⟨p,b,j,d,h1,h2,h3,h4⟩
 ·rw [h1,h2];rfl
 ·rw [h1,h2]
  simp only [h3]
  show _=isB b (evA σA (.t p))
  have g:=hE p
  rw [<- h4] at g
  unfold isB
  cases hv:evA σA (.t p) <;> rw [hv] at g <;> simp only [Rv] at g <;>
   first | (rw [g];done) | (obtain ⟨_,_,_,_,_,g⟩:=g;rw [g];done) | (obtain ⟨_,_,_,_,g⟩:=g;rw [g];done) | (obtain ⟨_,_,_,g⟩:=g;rw [g];done) | (obtain ⟨_,_,g⟩:=g;rw [g];done) | (obtain ⟨_,g⟩:=g;rw [g];done) | rw [g]
theorem wDZ {N:Nat} {l:List Oper} {a:AO} {o:Oper} {μ:Mu} {σA:Tr AV} {σ:Env} {v:AV} {cv:Value} (A:AOK P N l a o) (hE:EnvR μ σA σ) (hv:Rv μ v cv):EnvR μ (wFJ a.dst σA v) (put' σ o cv):=by
 rcases A.dst with ⟨h1,h2⟩ | ⟨p,d,h1,h2,h3,_⟩
 ·rw [h1];unfold put';rw [h2];exact hE
 ·rw [h1];unfold put';rw [h2];subst h3;exact hE.put hv
theorem wGg {N:Nat} {l:List Oper} {a:AO} {o:Oper} (A:AOK P N l a o):∀ d,o.dst=some d->d < N:=by
 intro d hd
 rcases A.dst with ⟨_,h2⟩ | ⟨p,d',_,h2,_,h4⟩
 ·rw [h2] at hd;cases hd
 ·rw [h2] at hd;cases hd;exact h4
theorem wPh (HC:wFI C P tb ex) (HY:wER C P exY) {N:Nat} {l:List Oper} {a:AO} {o:Oper} {μ:Mu} {σA:Tr AV} {σ:Env} {h h':AH} {v:AV} {w:World} (A:AOK P N l a o) (hw:wanted l σ o=true) (hr:opY a.op tb ex exY σA h=some (v,h')) (hE:EnvR μ σA σ) (S:Sim C P μ h w) :
  Step1 P l o σ w fun cv w'=>∃ μ',Ext μ h.fl.nat w μ' w'/\Sim C P μ' h' w'/\EnvR μ' (wFJ a.dst σA v) (put' σ o cv)/\h'.fl=h.fl:=by
 have hop:=A.op
 by_cases k4:kdA a.op=4
 ·obtain ⟨μ',w',h1,h2,rfl,h4,h5⟩:=wPg (C:=C) k4 hop σA h v h' hr μ σ w hE S o rfl
  exact .inl ⟨hw,.inl ⟨A.un k4,w',h5,μ',h1,h2,wDZ A (hE.mono h1.mono) (wKs μ'),h4⟩⟩
 ·by_cases k5:kdA a.op=5
  ·cases hq:a.op <;> rw [hq] at k5 <;> first | (simp [kdA] at k5;done) | skip
   rename_i x args
   rw [hq] at hop hr
   have hop:wLQ x args o.op=true:=hop
   unfold wLQ at hop
   split at hop <;> first | (cases hop;done) | skip
   rename_i c hoc
   obtain ⟨ce,cargs,tys⟩:=c
   simp only at hop
   split at hop <;> first | (cases hop;done) | skip
   rename_i f
   simp only [hH] at hop
   have hx:=wAH hop.1 hE
   have ha:=wFQ hop.2 hE
   have hr:wFG x args tb ex exY σA h=some (v,h'):=hr
   unfold wFG at hr
   split at hr
   ·rename_i g fi ca hg
    rw [hg] at hx
    obtain ⟨fv,cv,g1,g2,g3⟩:=hx
    obtain ⟨hcall,hgv⟩:=HC _ _ _ _ _ hr
    have G:=hgv μ w _ S (wDQ g1 (wDQ ha g2))
    refine .inl ⟨hw,.inr (.inr (.inl ⟨_,_,_,Enters.mk (l:=cargs.toList) hoc g3 hcall rfl (by rw [nr]),G,?_⟩))⟩
    rintro cv' w' ⟨μ',h1,h2,h3,h4⟩
    exact ⟨μ',h1,h2,wDZ A (hE.mono h1.mono) h3,h4⟩
   ·rename_i b hb
    rw [hb] at hx
    obtain ⟨c,g1,g2⟩:=hx
    have hy:=HY _ _ _ _ _ hr
    have Y:=hy μ w _ c S ha g1
    have R:=Yd.rounds (σ:=σ) hoc g2 rfl Y
    refine .inl ⟨hw,.inr (.inr (.inr (R.mono ?_)))⟩
    rintro cv w' ⟨t,rfl,μ',h1,h2,rfl,h4⟩
    exact ⟨μ',h1,h2,wDZ A (hE.mono h1.mono) rfl,h4⟩
   ·cases hr
  ·have hk:kdA a.op=0 \/ kdA a.op=1 \/ kdA a.op=3:=by
    cases hq:a.op <;> rw [hq] at k4 k5 <;> simp [kdA] at k4 k5 ⊢
   obtain ⟨μ',w',cv,h1,h2,h3,h4,h5⟩:=wPf (C:=C) hk hop σA h v h' hr μ σ w hE S o rfl
   exact .inl ⟨hw,.inr (.inl ⟨cv,w',h5,μ',h1,h2,wDZ A (hE.mono h1.mono) h3,h4⟩)⟩
theorem wPi (HC:wFI C P tb ex) (HY:wER C P exY) {N:Nat} {l:List Oper} {a:AO} {o:Oper} {μ:Mu} {σA:Tr AV} {σ:Env} {h h':AH} {v:AV} {w:World} (A:AOK P N l a o) (hw:wanted l σ o=true) (hr:opK a.kd a.op tb ex exY σA h=some (v,h')) (hE:EnvR μ σA σ) (S:Sim C P μ h w) :
  Step1 P l o σ w fun cv w'=>(a.kd=2->Keep w w' Non)/\∃ μ',Ext μ h.fl.nat w μ' w'/\Sim C P μ' h' w'/\EnvR μ' (wFJ a.dst σA v) (put' σ o cv)/\h'.fl=h.fl:=by
 by_cases k2:a.kd=2
 ·have hr:wNE a.op tb ex exY σA h=some (v,h'):=by rw [k2] at hr;exact hr
  unfold wNE at hr
  split at hr
  ·rename_i v0 h0 hq
   cases hr
   refine (wPh HC HY A hw hq hE (S.floor h.nx)).mono ?_
   rintro cv w' ⟨μ',h1,h2,h3,h4⟩
   obtain ⟨g1,g2⟩:=S.non h1 h.fl.nat
   exact ⟨fun _=>g1,μ',g2,h2.floor h.fl,h3,rfl⟩
  ·cases hr
 ·have hr:opY a.op tb ex exY σA h=some (v,h'):=by
   have hb:nB a.kd 2=false:=by
    cases hb:nB a.kd 2 with
    | false=>rfl
    | true=>exact absurd (nA hb) k2
   have:opK a.kd a.op=opY a.op:=by unfold opK;rw [hb]
   rw [this] at hr;exact hr
  exact (wPh HC HY A hw hr hE S).mono fun cv w' hq=>⟨fun e=>absurd e k2,hq⟩
def flK (k:Nat):Bool:=nB k 1 || nB k 3
def wHs:List AO->Sch
 | []=>.nil
 | a :: os=>match flK a.kd with
  | true=>.fl a.ix (wHs os)
  | false=>.fx a.ix (wHs os) .stop
theorem wHt (HC:wFI C P tb ex) (HY:wER C P exY) {N:Nat} {l:List Oper} {ks:List Nat} {Q:wCZ} {D:List Deferred}:∀ (os:List AO) (σA:Tr AV) (h:AH) (σA':Tr AV) (h':AH),wAW tb ex exY os σA h=some (σA',h') ->
  (∀ a ∈ os,wFw P N l a=true/\kOf ks a.ix=a.kd)->∀ (μ:Mu) (σ:Env) (w:World),Sim C P μ h w->EnvR μ σA σ ->
  (∀ μ' w' σ',Ext μ h.fl.nat w μ' w'->Sim C P μ' h' w'->EnvR μ' σA' σ'->h'.fl=h.fl->Q D .normal σ' w')->OKS N P l Q D ks (wHs os) σ w
 | [],σA,h,σA',h',hr,_,μ,σ,w,S,hE,hQ=>by
  rw [wAj] at hr;cases hr
  exact hQ μ w σ (Ext.refl μ _ w) S hE rfl
 | a :: os,σA,h,σA',h',hr,hc,μ,σ,w,S,hE,hQ=>by
  obtain ⟨hc1,hk⟩:=hc a (by simp)
  obtain ⟨o,A⟩:=wCW hc1
  have hc2:∀ b ∈ os,wFw P N l b=true/\kOf ks b.ix=b.kd:=fun b hb=>hc b (by simp [hb])
  rw [wAm] at hr
  have hw:=wHF A hE
  cases hwa:wCM σA a.grd with
  | false =>
   rw [hwa] at hr hw
   simp only at hr
   have IH:=wHt HC HY os _ h σA' h' hr hc2 μ (put' σ o undef) w S (wDZ A hE (wKs μ)) hQ
   unfold wHs
   split
   ·exact ⟨o,A.get,wGg A,.inr ⟨hw,IH⟩⟩
   ·exact ⟨⟨o,A.get,wGg A,.inr ⟨hw,KeepD.refl l ks _ w,IH⟩⟩,trivial⟩
  | true =>
   rw [hwa] at hr hw
   simp only at hr
   split at hr
   ·rename_i r hop
    obtain ⟨v,h1⟩:=r
    simp only at hr
    unfold wHs
    split
    ·rename_i hfl
     have hk13:a.kd=1 \/ a.kd=3:=by
      unfold flK at hfl
      simp only [nQ] at hfl
      exact hfl.imp nA nA
     have hop:opY a.op tb ex exY σA h=some (v,h1):=by
      rcases hk13 with e | e <;> (rw [e] at hop;exact hop)
     have hL:kdA a.op=1 \/ kdA a.op=3:=by
      rcases hk13 with e | e
      ·exact A.k1 e
      ·exact .inr (A.k3 e)
     obtain ⟨rfl,hh⟩:=wGf (C:=C) hL A.op σA h v h1 hop
     obtain ⟨cv,g1,g2⟩:=hh μ σ w hE S
     refine ⟨o,A.get,wGg A,.inl ⟨hw,?_⟩⟩
     by_cases k3:a.kd=3
     ·obtain ⟨_,hp⟩:=wGe (tb:=tb) (ex:=ex) (exY:=exY) (A.k3 k3) A.op σA h1 v h1 hop
      obtain ⟨cv,g1,g2⟩:=hp μ σ hE
      exact ⟨cv,fun w' _=>g2 o w' rfl,⟨fun _ w'=>g2 o w' rfl,fun _ w' _=>g2 o w' rfl⟩,wHt HC HY os _ h1 σA' h' hr hc2 μ _ w S (wDZ A hE g1) hQ⟩
     ·exact ⟨cv,g2 o rfl,⟨fun e=>absurd (hk ▸ e) k3,fun e=>by rw [hk] at e;rcases hk13 with q | q <;> omega⟩,wHt HC HY os _ h1 σA' h' hr hc2 μ _ w S (wDZ A hE g1) hQ⟩
    ·refine ⟨⟨o,A.get,wGg A,(wPi HC HY A hw hop hE S).mono ?_⟩,trivial⟩
     rintro cv w1 ⟨q0,μ1,q1,q2,q3,q4⟩
     refine ⟨⟨fun e=>q0 (hk ▸ e),fun e=>absurd (hk ▸ e) A.k5⟩,wHt HC HY os _ h1 σA' h' hr hc2 μ1 _ w1 q2 q3 fun μ' w' σ' r1 r2 r3 r4=>?_⟩
     rw [q4] at r1 r4
     exact hQ μ' w' σ' (q1.trans r1) r2 r3 r4
   ·cases hr
end
end
end Go.KX
namespace Go.KX
open Go.RowKit Go.KL
section
variable {C:Chk} {P:Program} {tb:Tr AF} {ex exY:Run}
def OkA (C:Chk) (P:Program) (op:Op) (f:Tr AV->AH->Option (AV × AH)):Prop :=
 ∀ σA h v h',f σA h=some (v,h')->∃ (B:AB) (vf:Pos->AV),h'=h.push B/\v=vf h.nx/\(∀ h2:AH,f σA h2=some (vf h2.nx,h2.push B))/\wJh B/\∀ μ σ,EnvR μ σA σ->∀ o:Oper,o.op=op ->
  ∃ (ob:Obj) (val:Nat->Value),(∀ w:World,Runs P σ w o (val w.heap.size) (w.alloc ob)) /\
   (∀ μ' (w:World) b,μ.Le μ'->w.heap[b]?=some ob->AbR C P μ' w ⟨b,0,g0⟩ B)/\∀ μ' p b,μ' p=some ⟨b,0,g0⟩->Rv μ' (vf p) (val b)
theorem wJm {α:Type} {b:Bool} {x:Option α} (h:b=true):ifO b x=x:=by subst h;rfl
theorem a_new {T:Nat} {z:List AV} {op:Op} (hc:wLI P T z op=true):OkA C P op (wNi T z):=by
 intro σA h v h' hr
 cases hr
 unfold wLI at hc
 split at hc
 ·simp only [hH] at hc
  have e:=nA hc.1
  subst e
  obtain ⟨i,zv,z1,z2,z3⟩:=wEO hc.2
  refine ⟨.cells T z,fun p=>.ptr p 0,rfl,rfl,fun h2=>rfl,trivial,fun μ σ hE o ho=>?_⟩
  refine ⟨_,fun b=>.pointer (some ⟨b,0,none⟩),fun w=>⟨by rw [ho];rfl,?_⟩,fun μ' w b hm hb=>⟨_,z3 μ',hb⟩,fun μ' p b hp=>⟨_,hp,rfl⟩⟩
  simp [execOp,ho,Instr.alloc,wCy z1 z2,newVar,newRow,newObj,Sem.run]
 ·cases hc
theorem a_box {T:Nat} {x:AOd} {op:Op} (hc:wLJ T x op=true):OkA C P op (wJd T x):=by
 intro σA h v h' hr
 cases hr
 unfold wLJ at hc
 split at hc
 ·simp only [hH] at hc
  have e:=nA hc.1
  subst e
  refine ⟨.cells T _,fun p=>.ptr p 0,rfl,rfl,fun h2=>rfl,trivial,fun μ σ hE o ho=>?_⟩
  obtain ⟨vs,v1,v2⟩:=wFP (wAH hc.2 hE)
  refine ⟨.cells vs.toArray T,fun b=>.pointer (some ⟨b,0,none⟩),fun w=>⟨by rw [ho];rfl,?_⟩,fun μ' w b hm hb=>⟨vs,v1.mono hm,hb⟩,fun μ' p b hp=>⟨_,hp,rfl⟩⟩
  simp [execOp,ho,Instr.box,newVar,newRow,newObj,v2,Sem.run]
 ·cases hc
theorem a_mkm {op:Op} (hc:wLK op=true):OkA C P op wNj:=by
 intro σA h v h' hr
 cases hr
 unfold wLK at hc
 split at hc
 ·refine ⟨.map0,fun p=>.map p,rfl,rfl,fun h2=>rfl,trivial,fun μ σ hE o ho=>?_⟩
  refine ⟨.map #[] 0,fun b=>.map (some b),fun w=>⟨by rw [ho];rfl,?_⟩,fun μ' w b hm hb=>⟨0,hb⟩,fun μ' p b hp=>⟨_,hp,rfl⟩⟩
  simp [execOp,ho,Instr.makeMap,newObj,Sem.run,Result.andThen]
 ·cases hc
theorem a_mks {T sz by_:Nat} {z:List AV} {x y:AOd} {op:Op} (hc:wLL P T sz by_ z x y op=true):OkA C P op (wFj T sz by_ z x y):=by
 intro σA h v h' hr
 unfold wLL at hc
 split at hc
 ·rename_i t x' y'
  simp only [hH] at hc
  obtain ⟨c1,c2,c3,c4,c5,c6,c7⟩:=hc
  obtain ⟨d,d1,d2⟩:=wAf c1
  split at d2 <;> first | (cases d2;done) | skip
  have e:=nA d2
  subst e
  rename_i e
  obtain ⟨i,i1,i2⟩:=wFR c2
  obtain ⟨i',j1,j2⟩:=wFS c3
  obtain ⟨i'',zv,k1,k2,k3⟩:=wEO c4
  rw [i1] at j1 k1;cases j1;cases k1
  have hz:=nA c5
  unfold wFj at hr
  split at hr
  ·rename_i l c hl hcc
   obtain ⟨hb,hr⟩:=wBG hr
   cases hr
   simp only [hH,nM] at hb
   obtain ⟨⟨⟨b1,b2⟩,b3⟩,b4⟩:=hb
   refine ⟨.cells e (rep c z),fun p=>.sl p 0 l c,rfl,rfl,fun h2=>(by simp only [wFj,hl,hcc];exact wJm (by simp [b1,b2,b3,b4])),trivial,fun μ σ hE o ho=>?_⟩
   have hx:=wAH c6 hE;rw [wBb hl] at hx
   have hy:=wAH c7 hE;rw [wBb hcc] at hy
   have hx:ev σ x'=.int .i64 (l:Int):=hx
   have hy:ev σ y'=.int .i64 (c:Int):=hy
   have zlen:zv.cells.size=sz:=by rw [<- hz,wDl,<- wCR (k3 μ)];simp
   have hcells:(madeCells zv.cells (c * sz))=((nU c zv.cells.toList).flatten).toArray:=by
    apply nI
    have:=wEQ (zc:=zv.cells) (n:=0) c
    simp only [or_false] at this
    rw [zlen] at this
    show ((nZ (c * sz)).map (zv.cells[· % zv.cells.size]!)).toList=_
    rw [zlen,this]
   refine ⟨.cells ((nU c zv.cells.toList).flatten).toArray e,fun b=>.slice (some ⟨b,0,none⟩) l c,fun w=>⟨by rw [ho];rfl,?_⟩,fun μ' w b hm hb=>⟨_,wFo (k3 μ') c,hb⟩,fun μ' p b hp=>⟨_,hp,b1,rfl⟩⟩
   have hrun:=run_makeSlice (P:=P) w t e i zv d1 i1 k2 .i64 .i64 (l:Int) (c:Int) (by omega) (by omega) (by rw [i2,nq];exact b2) (by rw [j2];have hb:=Int.ofNat_le.2 b3;rw [Int.natCast_mul] at hb;exact hb) (by omega)
   simp only [nq,i2] at hrun
   rw [hcells] at hrun
   simp [execOp,ho,hx,hy,hrun,Result.andThen]
  ·cases hr
 ·cases hc
theorem wPj {T n:Nat} {z:List AV} {ps:List (Nat × Nat × AOd)} {op:Op} (hc:wHq P T n z ps op=true):OkA C P op (wDj T n z ps):=by
 intro σA h v h' hr
 unfold wHq at hc
 split at hc
 ·rename_i t m qs
  simp only [hH] at hc
  obtain ⟨c1,c2,c3⟩:=hc
  have e:=nA c1
  subst e
  obtain ⟨d,d1,d2⟩:=wAf c2
  split at d2 <;> first | (cases d2;done) | skip
  have e:=nA d2
  subst e
  rename_i e
  split at c3
  ·rename_i i hi
   simp only [hH,nM] at c3
   obtain ⟨c3,c4,c5⟩:=c3
   split at c5
   ·rename_i zv hz
    unfold wDj at hr
    split at hr
    ·rename_i r hr3
     cases hr
     refine ⟨.cells e r,fun p=>.sl p 0 m m,rfl,rfl,fun h2=>by simp only [wDj,hr3],trivial,fun μ σ hE o ho=>?_⟩
     obtain ⟨R,r1,r2,r3⟩:=wFt hE hr3 c4 (wFA μ c5)
     have hf:=wCk _ _ _ _ r1
     refine ⟨.cells R.toArray e,fun b=>.slice (some ⟨b,0,none⟩) m m,fun w=>⟨by rw [ho];rfl,?_⟩,fun μ' w b hm hb=>⟨_,r2.mono hm,hb⟩,fun μ' p b hp=>⟨_,hp,nG _,rfl⟩⟩
     have hs:∀ w,(sizeOf e).run P w=.ok i.size w:=fun w=>by simp [sizeOf,typeInfo,hi]
     have hn':¬ m * i.size > 2 ^ 24:=by omega
     have hq:(qs.map fun (p:Nat × Operand)=>(p.1,ev σ p.2)).toList=qs.toList.map fun (p:Nat × Operand)=>(p.1,ev σ p.2):=by simp
     by_cases h0:m * i.size=0
     ·rw [h0] at hf
      simp only [List.range_zero,kH] at hf
      have hr0:(nZ 0).map (fun x=>(#[]:Array Value)[x % (#[]:Array Value).size]!)=#[]:=by rw [show (nZ 0)=#[] from rfl,Array.map_empty]
      have hn0:¬ (0:Nat) > 2 ^ 24:=by decide
      simp only [execOp,ho,Instr.buildSlice,Sem.run_bind,wAg d1,hs,Result.andThen_ok,h0,if_neg hn0,if_true,Sem.run_pure,hq,hr0,hf]
      simp [newRow,newObj,Sem.run,Result.andThen]
     ·have hzs:(nZ (m * i.size)).map (zv.cells[· % zv.cells.size]!)=((kD (m * i.size)).map fun k=>zv.cells[k % zv.cells.size]!).toArray:=by rw [<- kX,List.map_toArray]
      simp only [execOp,ho,Instr.buildSlice,Sem.run_bind,wAg d1,hs,wCy hi hz,Result.andThen_ok,if_neg hn',if_neg h0,Sem.run_pure,hq,hzs,hf]
      simp [newRow,newObj,Sem.run,Result.andThen]
    ·cases hr
   ·cases c5
  ·cases c3
 ·cases hc
def wBK:AOp->List AOd
 | .mv x=>[x]
 | .pick c x y=>[c] ++ [x] ++ [y]
 | .new _ _=>[]
 | .box _ x=>[x]
 | .ld x=>[x]
 | .ldA _ x=>[x]
 | .st _ x y=>[x] ++ [y]
 | .nilc x=>[x]
 | .add x y=>[x] ++ [y]
 | .sub x y=>[x] ++ [y]
 | .mul x y=>[x] ++ [y]
 | .quo x y=>[x] ++ [y]
 | .rem x y=>[x] ++ [y]
 | .lss x y=>[x] ++ [y]
 | .leq x y=>[x] ++ [y]
 | .gtr x y=>[x] ++ [y]
 | .geq x y=>[x] ++ [y]
 | .eql x y=>[x] ++ [y]
 | .neq x y=>[x] ++ [y]
 | .eqb _ x y=>[x] ++ [y]
 | .eqn _ _ x y=>[x] ++ [y]
 | .eqs _ _ x y=>[x] ++ [y]
 | .neg x=>[x]
 | .not x=>[x]
 | .cvt _ x=>[x]
 | .mkf _ fi ca=>fi ++ ca
 | .mkm =>[]
 | .mks _ _ _ _ x y=>[x] ++ [y]
 | .slc _ x lo hi mx=>[x] ++ lo.toList ++ hi.toList ++ mx.toList
 | .slcA _ _ x lo hi=>[x] ++ lo.toList ++ hi.toList
 | .fad _ x=>[x]
 | .fld _ x=>[x]
 | .fldA _ _ x=>[x]
 | .iad _ x y=>[x] ++ [y]
 | .iadA _ _ x y=>[x] ++ [y]
 | .ix _ x y=>[x] ++ [y]
 | .ixA _ _ x y=>[x] ++ [y]
 | .lk _ _ _ _ x y=>[x] ++ [y]
 | .mput _ _ x y z=>[x] ++ [y] ++ [z]
 | .mdel _ _ x y=>[x] ++ [y]
 | .ext _ x=>[x]
 | .bld _ ps=>(ps.map fun q=>q.2.2)
 | .blds _ _ _ ps=>(ps.map fun q=>q.2.2)
 | .len x=>[x]
 | .lenM x=>[x]
 | .cap x=>[x]
 | .app _ _ _ x y=>[x] ++ [y]
 | .cpy _ x y=>[x] ++ [y]
 | .clr _ x=>[x]
 | .min x y=>[x] ++ [y]
 | .max x y=>[x] ++ [y]
 | .and x y=>[x] ++ [y]
 | .shr x y=>[x] ++ [y]
 | .ixs _ y=>[y]
 | .apz _ _ _ _ x y=>[x] ++ [y]
 | .call x l=>[x] ++ l
 | .bad=>[]
theorem wEj {σ1 σ2:Tr AV}:∀ {l:List AOd},(∀ x ∈ l,evA σ1 x=evA σ2 x)->evs σ1 l=evs σ2 l
 | [],_=>rfl
 | x :: l,h=>by
  show evA σ1 x :: evs σ1 l=evA σ2 x :: evs σ2 l
  rw [h x (by simp),wEj fun y hy=>h y (by simp [hy])]
theorem wES {σ1 σ2:Tr AV}:∀ {ps:List (Nat × Nat × AOd)} {cs:List AV},(∀ q ∈ ps,evA σ1 q.2.2=evA σ2 q.2.2)->wGw σ1 cs ps=wGw σ2 cs ps
 | [],cs,_=>rfl
 | (off,n,x) :: ps,cs,h=>by
  have e:evA σ1 x=evA σ2 x:=h (off,n,x) (by simp)
  simp only [wGw,e]
  cases nB (len (evA σ2 x).cells) n with
  | false=>rfl
  | true =>
   cases wNg cs off (evA σ2 x).cells with
   | none=>rfl
   | some cs'=>exact wES fun q hq=>h q (by simp [hq])
theorem wDn {σ1 σ2:Tr AV} {o:Option AOd} (h:∀ x ∈ o.toList,evA σ1 x=evA σ2 x):bnd σ1 o=bnd σ2 o:=by
 cases o with
 | none=>rfl
 | some x =>
  have e:=h x (by simp)
  simp only [bnd,e]
theorem wLS {σ1 σ2:Tr AV} (op:AOp) (h:∀ x ∈ wBK op,evA σ1 x=evA σ2 x) (hh:AH):opY op tb ex exY σ1 hh=opY op tb ex exY σ2 hh:=by
 cases op with
 | bld z ps=>exact (show wKd z ps σ1 hh=wKd z ps σ2 hh by simp only [wKd];rw [wES fun q hq=>h q.2.2 (List.mem_map.2 ⟨q,hq,rfl⟩)])
 | blds T n z ps=>exact (show wDj T n z ps σ1 hh=wDj T n z ps σ2 hh by simp only [wDj];rw [wES fun q hq=>h q.2.2 (List.mem_map.2 ⟨q,hq,rfl⟩)])
 | mkf f fi ca=>exact (show wJe f fi ca σ1 hh=wJe f fi ca σ2 hh by simp only [wJe];rw [wEj fun x hx=>h x (kS _ hx),wEj fun x hx=>h x (kQ _ hx)])
 | call x l=>exact (show wFG x l tb ex exY σ1 hh=wFG x l tb ex exY σ2 hh by simp only [wFG];rw [h x (kS _ (by simp)),wEj fun y hy=>h y (kQ _ hy)])
 | slc sz x lo hi mx=>exact (show wIO sz x lo hi mx σ1 hh=wIO sz x lo hi mx σ2 hh by
   simp only [wIO]
   rw [h x (by simp [wBK]),wDn fun y hy=>h y (by simp only [wBK,nT];exact .inl (.inl (.inr hy))),wDn fun y hy=>h y (by simp only [wBK,nT];exact .inl (.inr hy)),wDn fun y hy=>h y (by simp only [wBK,nT];exact .inr hy)])
 | slcA sz n x lo hi=>exact (show wFk sz n x lo hi σ1 hh=wFk sz n x lo hi σ2 hh by
   simp only [wFk]
   rw [h x (by simp [wBK]),wDn fun y hy=>h y (by simp only [wBK,nT];exact .inl (.inr hy)),wDn fun y hy=>h y (by simp only [wBK,nT];exact .inr hy)])
 | mv a_x=>exact (show wOs a_x σ1 hh=wOs a_x σ2 hh by simp only [wOs,h a_x (by simp [wBK])])
 | pick a_c a_x a_y=>exact (show wFh a_c a_x a_y σ1 hh=wFh a_c a_x a_y σ2 hh by simp only [wFh,h a_c (by simp [wBK]),h a_x (by simp [wBK]),h a_y (by simp [wBK])])
 | new a_T a_z=>rfl
 | box a_T a_x=>exact (show wJd a_T a_x σ1 hh=wJd a_T a_x σ2 hh by simp only [wJd,h a_x (by simp [wBK])])
 | ld a_x=>exact (show wMO a_x σ1 hh=wMO a_x σ2 hh by simp only [wMO,h a_x (by simp [wBK])])
 | ldA a_n a_x=>exact (show wGQ a_n a_x σ1 hh=wGQ a_n a_x σ2 hh by simp only [wGQ,h a_x (by simp [wBK])])
 | st a_n a_x a_y=>exact (show wND a_n a_x a_y σ1 hh=wND a_n a_x a_y σ2 hh by simp only [wND,h a_x (by simp [wBK]),h a_y (by simp [wBK])])
 | nilc a_x=>exact (show wFi a_x σ1 hh=wFi a_x σ2 hh by simp only [wFi,h a_x (by simp [wBK])])
 | add a_x a_y=>exact (show wKR a_x a_y σ1 hh=wKR a_x a_y σ2 hh by simp only [wKR,h a_x (by simp [wBK]),h a_y (by simp [wBK])])
 | sub a_x a_y=>exact (show wKS a_x a_y σ1 hh=wKS a_x a_y σ2 hh by simp only [wKS,h a_x (by simp [wBK]),h a_y (by simp [wBK])])
 | mul a_x a_y=>exact (show wKT a_x a_y σ1 hh=wKT a_x a_y σ2 hh by simp only [wKT,h a_x (by simp [wBK]),h a_y (by simp [wBK])])
 | quo a_x a_y=>exact (show wKU a_x a_y σ1 hh=wKU a_x a_y σ2 hh by simp only [wKU,h a_x (by simp [wBK]),h a_y (by simp [wBK])])
 | rem a_x a_y=>exact (show wKV a_x a_y σ1 hh=wKV a_x a_y σ2 hh by simp only [wKV,h a_x (by simp [wBK]),h a_y (by simp [wBK])])
 | lss a_x a_y=>exact (show wKW a_x a_y σ1 hh=wKW a_x a_y σ2 hh by simp only [wKW,h a_x (by simp [wBK]),h a_y (by simp [wBK])])
 | leq a_x a_y=>exact (show wKX a_x a_y σ1 hh=wKX a_x a_y σ2 hh by simp only [wKX,h a_x (by simp [wBK]),h a_y (by simp [wBK])])
 | gtr a_x a_y=>exact (show wKY a_x a_y σ1 hh=wKY a_x a_y σ2 hh by simp only [wKY,h a_x (by simp [wBK]),h a_y (by simp [wBK])])
 | geq a_x a_y=>exact (show wKZ a_x a_y σ1 hh=wKZ a_x a_y σ2 hh by simp only [wKZ,h a_x (by simp [wBK]),h a_y (by simp [wBK])])
 | eql a_x a_y=>exact (show wKa a_x a_y σ1 hh=wKa a_x a_y σ2 hh by simp only [wKa,h a_x (by simp [wBK]),h a_y (by simp [wBK])])
 | neq a_x a_y=>exact (show wKb a_x a_y σ1 hh=wKb a_x a_y σ2 hh by simp only [wKb,h a_x (by simp [wBK]),h a_y (by simp [wBK])])
 | eqb a_ne a_x a_y=>exact (show wIJ a_ne a_x a_y σ1 hh=wIJ a_ne a_x a_y σ2 hh by simp only [wIJ,h a_x (by simp [wBK]),h a_y (by simp [wBK])])
 | eqn a_k a_ne a_x a_y=>exact (show wIK a_k a_ne a_x a_y σ1 hh=wIK a_k a_ne a_x a_y σ2 hh by simp only [wIK,h a_x (by simp [wBK]),h a_y (by simp [wBK])])
 | eqs a_ne a_s a_x a_y=>exact (show wIL a_ne a_s a_x a_y σ1 hh=wIL a_ne a_s a_x a_y σ2 hh by simp only [wIL,h a_x (by simp [wBK]),h a_y (by simp [wBK])])
 | neg a_x=>exact (show wKc a_x σ1 hh=wKc a_x σ2 hh by simp only [wKc,h a_x (by simp [wBK])])
 | not a_x=>exact (show wIM a_x σ1 hh=wIM a_x σ2 hh by simp only [wIM,h a_x (by simp [wBK])])
 | cvt a_k a_x=>exact (show wIN a_k a_x σ1 hh=wIN a_k a_x σ2 hh by simp only [wIN,h a_x (by simp [wBK])])
 | mkm =>rfl
 | mks a_T a_sz a_bytes a_z a_x a_y=>exact (show wFj a_T a_sz a_bytes a_z a_x a_y σ1 hh=wFj a_T a_sz a_bytes a_z a_x a_y σ2 hh by simp only [wFj,h a_x (by simp [wBK]),h a_y (by simp [wBK])])
 | fad a_off a_x=>exact (show wIP a_off a_x σ1 hh=wIP a_off a_x σ2 hh by simp only [wIP,h a_x (by simp [wBK])])
 | fld a_off a_x=>exact (show wIQ a_off a_x σ1 hh=wIQ a_off a_x σ2 hh by simp only [wIQ,h a_x (by simp [wBK])])
 | fldA a_off a_n a_x=>exact (show wFl a_off a_n a_x σ1 hh=wFl a_off a_n a_x σ2 hh by simp only [wFl,h a_x (by simp [wBK])])
 | iad a_sz a_x a_y=>exact (show wIR a_sz a_x a_y σ1 hh=wIR a_sz a_x a_y σ2 hh by simp only [wIR,h a_x (by simp [wBK]),h a_y (by simp [wBK])])
 | iadA a_sz a_n a_x a_y=>exact (show wFm a_sz a_n a_x a_y σ1 hh=wFm a_sz a_n a_x a_y σ2 hh by simp only [wFm,h a_x (by simp [wBK]),h a_y (by simp [wBK])])
 | ix a_n a_x a_y=>exact (show wNk a_n a_x a_y σ1 hh=wNk a_n a_x a_y σ2 hh by simp only [wNk,h a_x (by simp [wBK]),h a_y (by simp [wBK])])
 | ixA a_sz a_n a_x a_y=>exact (show wIS a_sz a_n a_x a_y σ1 hh=wIS a_sz a_n a_x a_y σ2 hh by simp only [wIS,h a_x (by simp [wBK]),h a_y (by simp [wBK])])
 | lk a_two a_k a_ok a_z a_x a_y=>exact (show wMP a_two a_k a_ok a_z a_x a_y σ1 hh=wMP a_two a_k a_ok a_z a_x a_y σ2 hh by simp only [wMP,h a_x (by simp [wBK]),h a_y (by simp [wBK])])
 | mput a_two a_k a_x a_y a_z=>exact (show wFE a_two a_k a_x a_y a_z σ1 hh=wFE a_two a_k a_x a_y a_z σ2 hh by simp only [wFE,h a_x (by simp [wBK]),h a_y (by simp [wBK]),h a_z (by simp [wBK])])
 | mdel a_two a_k a_x a_y=>exact (show wFF a_two a_k a_x a_y σ1 hh=wFF a_two a_k a_x a_y σ2 hh by simp only [wFF,h a_x (by simp [wBK]),h a_y (by simp [wBK])])
 | ext a_i a_x=>exact (show wIT a_i a_x σ1 hh=wIT a_i a_x σ2 hh by simp only [wIT,h a_x (by simp [wBK])])
 | len a_x=>exact (show wIU a_x σ1 hh=wIU a_x σ2 hh by simp only [wIU,h a_x (by simp [wBK])])
 | lenM a_x=>exact (show wEC a_x σ1 hh=wEC a_x σ2 hh by simp only [wEC,h a_x (by simp [wBK])])
 | cap a_x=>exact (show wIV a_x σ1 hh=wIV a_x σ2 hh by simp only [wIV,h a_x (by simp [wBK])])
 | app a_T a_sz a_bytes a_x a_y=>exact (show wHf a_T a_sz a_bytes a_x a_y σ1 hh=wHf a_T a_sz a_bytes a_x a_y σ2 hh by simp only [wHf,h a_x (by simp [wBK]),h a_y (by simp [wBK])])
 | cpy a_sz a_x a_y=>exact (show wHg a_sz a_x a_y σ1 hh=wHg a_sz a_x a_y σ2 hh by simp only [wHg,h a_x (by simp [wBK]),h a_y (by simp [wBK])])
 | clr a_z a_x=>exact (show wHh a_z a_x σ1 hh=wHh a_z a_x σ2 hh by simp only [wHh,h a_x (by simp [wBK])])
 | min a_x a_y=>exact (show wKe a_x a_y σ1 hh=wKe a_x a_y σ2 hh by simp only [wKe,h a_x (by simp [wBK]),h a_y (by simp [wBK])])
 | max a_x a_y=>exact (show wKf a_x a_y σ1 hh=wKf a_x a_y σ2 hh by simp only [wKf,h a_x (by simp [wBK]),h a_y (by simp [wBK])])
 | bad=>rfl
 | and a_x a_y=>exact (show wKh a_x a_y σ1 hh=wKh a_x a_y σ2 hh by simp only [wKh,h a_x (by simp [wBK]),h a_y (by simp [wBK])])
 | ixs a_l a_y=>exact (show wIW a_l a_y σ1 hh=wIW a_l a_y σ2 hh by simp only [wIW,h a_y (by simp [wBK])])
 | apz a_T a_sz a_b a_z a_x a_y=>exact (show wHk a_T a_sz a_b a_z a_x a_y σ1 hh=wHk a_T a_sz a_b a_z a_x a_y σ2 hh by simp only [wHk,h a_x (by simp [wBK]),h a_y (by simp [wBK])])
 | shr a_x a_y=>exact (show wKi a_x a_y σ1 hh=wKi a_x a_y σ2 hh by simp only [wKi,h a_x (by simp [wBK]),h a_y (by simp [wBK])])
variable {r:Option Nat} {N:Nat} {Q:wCZ} {D:List Deferred} {l:List Oper}
theorem CK.anyRel {id:Nat} {σ:Env} {w:World} (hm:P.follows .mixedOrders=true) (hpr:∀ i,i < l.length->∀ j ∈ prI l i,j < i) (J:(Nat->Bool)->Env->World->Prop)
  (h0:J (fun _=>false) σ { w with drawn:=w.drawn + 1 })
  (step:∀ S i σ w,i < l.length->S i=false->(∀ j ∈ prI l i,S j=true)->(∀ k,k < l.length->S k=true->∀ j ∈ prI l k,S j=true)->(∀ k,S k=true->k < l.length)->J S σ w ->
   ∃ o,l[i]?=some o/\(∀ d,o.dst=some d->d < N)/\Step1 P l o σ w fun v w'=>J (fun k=>k == i || S k) (put' σ o v) w')
  (fin:∀ S σ w,(∀ i,i < l.length->S i=true)->J S σ w->Q D .normal σ w):CK r N P (.region id l.toArray true) Q D σ w:=by
 intro a ha
 refine wpIn_region_any hm ?_
 have prog:∀ (listed:Array Bool),listed.size=l.length->Region.ready .any l.toArray listed=[]->∀ i,i < l.length->listed.getD i false=true:=by
  intro listed hsz hnil i
  induction i using Nat.strongRecOn with
  | _ i ih =>
   intro hi
   cases hb:listed.getD i false with
   | true=>rfl
   | false =>
    have:i ∈ Region.ready .any l.toArray listed:=(wCe hsz).2 ⟨hi,hb,fun j hj=>ih j (hpr i hi j hj) (Nat.lt_trans (hpr i hi j hj) hi)⟩
    rw [hnil] at this;cases this
 have core:∀ (fuel:Nat) (listed:Array Bool) (σ:Env) (a:Act) (w:World),listed.size=l.length->Rep N D a σ->(∀ k,k < l.length->listed.getD k false=true->∀ j ∈ prI l k,listed.getD j false=true) ->
   J (fun i=>listed.getD i false) σ w->(listed.toList.filter (! ·)).length <= fuel->wpAnyIn (WF r) 0 P .any l.toArray (wGN N Q) fuel listed a w:=by
  intro fuel
  induction fuel with
  | zero =>
   intro listed σ a w hsz hr hdc hJ hf
   have hall:∀ i,i < l.length->listed.getD i false=true:=by
    intro i hi
    cases hb:listed.getD i false with
    | true=>rfl
    | false=>have:=wEb listed i (by omega) hb;omega
   refine ⟨?_,σ,D,hr,fin _ σ w hall hJ⟩
   cases hr:Region.ready .any l.toArray listed with
   | nil=>rfl
   | cons x xs =>
    have hx:x ∈ Region.ready .any l.toArray listed:=by rw [hr];simp
    obtain ⟨h1,h2,_⟩:=(wCe hsz).1 hx
    rw [hall x h1] at h2;cases h2
  | succ fuel ih =>
   intro listed σ a w hsz hr hdc hJ hf
   refine ⟨fun hnil=>⟨σ,D,hr,fin _ σ w (prog listed hsz hnil) hJ⟩,fun i hi=>?_⟩
   obtain ⟨hlt,hun,hpi⟩:=(wCe hsz).1 hi
   have hsz':(listed.setIfInBounds i true).size=l.length:=by simpa using hsz
   have hf':((listed.setIfInBounds i true).toList.filter (! ·)).length <= fuel:=by have:=wEb listed i (by omega) hun;omega
   have hS:∀ k,listed.getD k false=true->k < l.length:=by
    intro k hk
    rcases kG k l.length with h | h
    ·exact h
    ·rw [ni,Array.getElem?_eq_none (by omega)] at hk;cases hk
   obtain ⟨o,ho,hN,hst⟩:=step _ i σ w hlt hun hpi hdc hS hJ
   refine wFa ho hr hN hst ?_
   intro v w' a' hr' hJ'
   refine ih _ (KL.put' σ o v) a' w' hsz' hr' ?_ ?_ hf'
   ·intro k hk hkl j hj
    rw [wEa (by omega)] at hkl ⊢
    rcases hkl with rfl | hkl
    ·exact .inr (hpi j hj)
    ·exact .inr (hdc k hk hkl j hj)
   ·have e:(fun k=>(listed.setIfInBounds i true).getD k false)=fun k=>k == i || listed.getD k false:=by
     funext k
     rw [Bool.eq_iff_iff,wEa (by omega),nQ,beq_iff_eq]
    rw [e]
    exact hJ'
 have rep:∀ k,(kM l.toArray.size false).getD k false=false:=by
  intro k
  rw [ni,kJ]
  split <;> rfl
 refine core l.toArray.size (kM l.toArray.size false) σ a _ (by simp) ha ?_ ?_ ?_
 ·intro k hk hkl
  rw [rep k] at hkl
  cases hkl
 ·have e:(fun i=>(kM l.toArray.size false).getD i false)=fun _=>false:=by
   funext i
   rw [ni,kJ]
   split <;> rfl
  rw [e]
  exact h0
 ·exact nW (List.length_filter_le _ _) (by simp)
end
end Go.KX
namespace Go.KX
noncomputable section
open Go.RowKit Go.KL
def wCJ:List AOd->List Pos
 | []=>[]
 | .t p :: l=>p :: wCJ l
 | .c _ :: l=>wCJ l
def wJy:AOp->Bool
 | .new _ _ | .box _ _ | .mkm | .mks _ _ _ _ _ _ | .blds _ _ _ _=>true
 | _=>false
def wBp (a:AO):List Pos:=wCJ (wBK a.op) ++ (match a.grd with | some (p,_)=>[p] | none=>[])
def Sub (a:AOp) (o:Oper):Prop:=∀ t,Operand.tmp t ∈ o.op.operands->∃ p ∈ wCJ (wBK a),p.nat - 1=t
def wJH (l:List Oper) (x i:Nat):Prop:=∀ S:Nat->Bool,(∀ k,k < l.length->S k=true->∀ j ∈ prI l k,S j=true)->(∀ j ∈ prI l i,S j=true)->S x=true
def wFx (acc:List Nat):List Nat->Nat
 | []=>0
 | p :: ps=>wFx acc ps ||| (2 ^ p ||| acc.getD p 0)
def wNK (acc:List Nat):List Oper->List Nat
 | []=>acc
 | o :: r=>wNK (acc ++ [wFx acc (wJX o)]) r
theorem wGh {acc:List Nat} {x:Nat}:∀ {ps:List Nat},(wFx acc ps).testBit x=true->∃ p ∈ ps,x=p \/ (acc.getD p 0).testBit x=true
 | [],h=>by simp [wFx] at h
 | p :: ps,h=>by
  simp only [wFx,Nat.testBit_or,nQ,Nat.testBit_two_pow,decide_eq_true_eq] at h
  rcases h with h | h | h
  ·obtain ⟨q,h1,h2⟩:=wGh h
   exact ⟨q,by simp [h1],h2⟩
  ·exact ⟨p,by simp,.inl h.symm⟩
  ·exact ⟨p,by simp,.inr h⟩
theorem wId {l:List Oper} (hpr:∀ i,i < l.length->∀ j ∈ prI l i,j < i):∀ (rest done:List Oper) (acc:List Nat),l=done ++ rest->acc.length=done.length->(∀ i x,(acc.getD i 0).testBit x=true->wJH l x i) ->
  ∀ i x,((wNK acc rest).getD i 0).testBit x=true->wJH l x i
 | [],done,acc,_,_,h,i,x,hx=>h i x hx
 | o :: r,done,acc,hl,hlen,h,i,x,hx=>by
  refine wId hpr r (done ++ [o]) (acc ++ [wFx acc (wJX o)]) (by rw [hl];simp) (by simp [hlen]) ?_ i x hx
  intro i x hx
  rcases Nat.lt_trichotomy i acc.length with hi | hi | hi
  ·rw [nX,List.getElem?_append_left hi,<- nX] at hx
   exact h i x hx
  ·rw [nX,hi,kB (nG _),Nat.sub_self] at hx
   have hx:(wFx acc (wJX o)).testBit x=true:=hx
   have hlt:done.length < l.length:=by rw [hl];simp
   have hp:prI l done.length=wJX o:=by
    unfold prI
    rw [hl,kB (nG _),Nat.sub_self]
    rfl
   obtain ⟨p,h1,h2⟩:=wGh hx
   intro S hdc hS
   rw [hi,hlen] at hS
   have hSp:S p=true:=hS p (by rw [hp];exact h1)
   rcases h2 with rfl | h2
   ·exact hSp
   ·have:=hpr _ hlt p (by rw [hp];exact h1)
    exact h p x h2 S hdc (hdc p (by omega) hSp)
  ·rw [nX,nu (by simp;omega)] at hx
   simp at hx
def dne (b:AO) (p:Pos):Bool:=match b.dst with
 | none=>true
 | some q=>!Pos.beq q p
def subB (a:AOp) (o:Oper):Bool:=o.op.operands.toList.all fun
 | .tmp t=>(wCJ (wBK a)).any fun p=>nB p.nat (t + 1)
 | _=>true
def kdOK (a:AO):Bool:=wBi a.kd || (a.dst.isSome && (nB a.kd 1 || (nB a.kd 3 || ((nB a.kd 6 && nB (kdA a.op) 3) || ((nB a.kd 4 && wJy a.op) || (kE 8 a.kd && nB (kdA a.op) 1))))))
def zld (m kd:Nat):Nat->List AO->Bool
 | _,[]=>true
 | n,b :: d=>(!Nat.beq b.kd 0 || (m.testBit b.ix || na (n + 8) kd)) && zld m kd (match wBi b.kd with | true=>n + 1 | false=>n) d
def zop (m:Nat) (l:List Oper) (d:List AO) (a:AO) (t:List AO):Bool :=
 (!wBi a.kd || d.all fun b=>m.testBit b.ix) &&
 ((match a.dst with | none=>true | some p=>d.all (fun b=>dne b p) && t.all (fun b=>dne b p)) &&
 ((wBp a).all (fun p=>dne a p && (t.all (fun b=>dne b p) && d.all (fun b=>dne b p || (m.testBit b.ix && (!(nB a.kd 1 || (nB a.kd 3 || kE 8 a.kd)) || !(nB b.kd 4 || nB b.kd 6)))))) &&
 ((!Nat.beq a.kd 1 || d.all fun b=>!Nat.beq b.kd 0 || m.testBit b.ix) && (!Nat.ble 8 a.kd || zld m a.kd 0 d) &&
 (t.all (fun b=>!Nat.beq b.ix a.ix) &&
 (kdOK a && (match l[a.ix]? with | none=>false | some o=>!wBP o && subB a.op o))))))
def zgo (an:List Nat) (l:List Oper) (d:List AO):List AO->Bool
 | []=>true
 | a :: t=>zop (an.getD a.ix 0) l d a t && zgo an l (a :: d) t
def wOP (a:AO):Bool:=nB a.kd 0 && (match a.op with | .mv _=>true | _=>false)
def wOQ:List AO->List AO
 | []=>[]
 | a :: t=>match wOP a with
  | true=>[]
  | false=>a :: wOQ t
def wMg:List AO->List AO
 | []=>[]
 | a :: t=>match wOP a with
  | true=>a :: t
  | false=>wMg t
theorem wNL:∀ os:List AO,os=wOQ os ++ wMg os
 | []=>rfl
 | a :: t=>by
  unfold wOQ wMg
  cases wOP a with
  | true=>rfl
  | false=>exact congrArg (a :: ·) (wNL t)
def ztl (an:List Nat) (l:List Oper) (os:List AO):Bool :=
 ((wMg os).all (fun a=>na a.kd 8) && (wOQ os).all fun a=>na a.kd 8 || ((wBp a).all (fun p=>(wMg os).all fun b=>dne b p) && (match a.dst with | some p=>(wMg os).all fun b=>dne b p | none=>true))) && (zgo an l [] (wOQ os) && (zgo an l [] (wMg os) && (wMg os).all fun b=>(wOQ os).all fun a=>!Nat.beq a.ix b.ix && (an.getD b.ix 0).testBit a.ix))
def chkZ (l:List Oper) (os:List AO):Bool :=
 (kD l.length).all (fun i=>(prI l i).all (na · i)) && ((kD l.length).all (fun i=>os.any fun a=>nB a.ix i) && (zgo (wNK [] l) l [] os || ztl (wNK [] l) l os))
def wMR (l:List AO):Nat:=l.countP fun b=>wBi b.kd
structure ZOK (P:Program) (N:Nat) (l:List Oper) (os:List AO):Prop where
 ao:∀ a ∈ os,wFw P N l a=true
 one:os.Pairwise fun a b=>a.ix ≠ b.ix
 pr:∀ i,i < l.length->∀ j ∈ prI l i,j < i
 anc:∀ s a t,os=s ++ a :: t->wBi a.kd=true->∀ b ∈ s,wJH l b.ix a.ix
 wr:∀ s a t,os=s ++ a :: t->∀ p,a.dst=some p->∀ b ∈ s ++ t,b.dst ≠ some p
 rd:∀ s a t,os=s ++ a :: t->∀ p ∈ wBp a,∀ b ∈ a :: t,b.dst ≠ some p
 rdS:∀ a ∈ os,∀ p ∈ wBp a,∀ b ∈ os,b.dst=some p->wJH l b.ix a.ix
 kd:∀ a ∈ os,wBi a.kd=true \/ (a.dst ≠ none/\(a.kd=1 \/ a.kd=3 \/ (a.kd=6/\kdA a.op=3) \/ (a.kd=4/\wJy a.op=true) \/ (8 <= a.kd/\kdA a.op=1)))
 cl:∀ a ∈ os,a.kd=1 \/ a.kd=3 \/ 8 <= a.kd->∀ p ∈ wBp a,∀ b ∈ os,b.dst=some p->b.kd ≠ 4/\b.kd ≠ 6
 sel:∀ a ∈ os,∀ o,l[a.ix]?=some o->wBP o=false
 sub:∀ a ∈ os,∀ o,l[a.ix]?=some o->Sub a.op o
 ld:∀ s a t,os=s ++ a :: t->a.kd=1->∀ b ∈ s,b.kd=0->wJH l b.ix a.ix
 ld8:∀ s a t,os=s ++ a :: t->8 <= a.kd->∀ s1 b s2,s=s1 ++ b :: s2->b.kd=0->wJH l b.ix a.ix \/ wMR s2 + 8 < a.kd
theorem wNM {m kd:Nat}:∀ (x:List AO) (b:AO) (y:List AO) (n:Nat),zld m kd n (x ++ b :: y)=true->b.kd=0->m.testBit b.ix=true \/ n + wMR x + 8 < kd
 | [],b,y,n,h,h0=>by
  rw [nf,zld,h0] at h
  simp only [hH,nQ,nE] at h
  rcases h.1 with g | g | g
  ·exact absurd g (by decide)
  ·exact .inl g
  ·exact .inr g
 | c :: x,b,y,n,h,h0=>by
  rw [nk,zld] at h
  simp only [hH] at h
  have:=wNM x b y _ h.2 h0
  refine this.imp id fun h=>?_
  unfold wMR at h ⊢
  rw [List.countP_cons]
  cases hf:wBi c.kd <;> rw [hf] at h <;> simp only [if_true,if_false,nS] at h ⊢ <;> omega
theorem Pos.beq_self:∀ p:Pos,p.beq p=true
 | .H=>rfl
 | .O p=>Pos.beq_self p
 | .I p=>Pos.beq_self p
theorem wFy {b:AO} {p:Pos} (h:dne b p=true):b.dst ≠ some p:=by
 intro e
 unfold dne at h
 rw [e] at h
 simp [Pos.beq_self] at h
theorem wNN {an:List Nat} {l:List Oper}:∀ (os d:List AO),zgo an l d os=true->∀ s a t,os=s ++ a :: t->zop (an.getD a.ix 0) l (s.reverse ++ d) a t=true
 | [],d,_,s,a,t,e=>by simp at e
 | b :: os,d,h,[],a,t,e=>by
  simp only [nf,nD] at e
  obtain ⟨rfl,rfl⟩:=e
  simp only [zgo,hH] at h
  exact h.1
 | b :: os,d,h,c :: s,a,t,e=>by
  simp only [nk,nD] at e
  obtain ⟨rfl,rfl⟩:=e
  simp only [zgo,hH] at h
  have:=wNN (s ++ a :: t) (b :: d) h.2 s a t rfl
  simpa using this
theorem pw_of {α:Type} {R:α->α->Prop}:∀ (l:List α),(∀ s a t,l=s ++ a :: t->∀ b ∈ t,R a b)->l.Pairwise R
 | [],_=>List.Pairwise.nil
 | a :: l,h=>List.pairwise_cons.2 ⟨fun b hb=>h [] a l rfl b hb,pw_of l fun s b t e=>h (a :: s) b t (by rw [e];rfl)⟩
theorem wJI {P:Program} {N:Nat} {l:List Oper} {os:List AO} (hao:∀ a ∈ os,wFw P N l a=true) (hpr:∀ i,i < l.length->∀ j ∈ prI l i,j < i) (hz:zgo (wNK [] l) l [] os=true):ZOK P N l os:=by
 have han:∀ i x,((wNK [] l).getD i 0).testBit x=true->wJH l x i:=wId hpr l [] [] rfl rfl fun i x h=>by simp at h
 have key:∀ s a t,os=s ++ a :: t->zop ((wNK [] l).getD a.ix 0) l s.reverse a t=true:=fun s a t e=>by
  have:=wNN os [] hz s a t e
  rwa [List.append_nil] at this
 have wJl:∀ s a t,os=s ++ a :: t ->
   (wBi a.kd=true->∀ b ∈ s,wJH l b.ix a.ix)/\(∀ p,a.dst=some p->∀ b ∈ s ++ t,b.dst ≠ some p) /\
   (∀ p ∈ wBp a,(∀ b ∈ a :: t,b.dst ≠ some p)/\∀ b ∈ s,b.dst=some p->wJH l b.ix a.ix/\(a.kd=1 \/ a.kd=3 \/ 8 <= a.kd->b.kd ≠ 4/\b.kd ≠ 6)) /\
   ((a.kd=1->∀ b ∈ s,b.kd=0->wJH l b.ix a.ix)/\(8 <= a.kd->∀ s1 b s2,s=s1 ++ b :: s2->b.kd=0->wJH l b.ix a.ix \/ wMR s2 + 8 < a.kd))/\(∀ b ∈ t,a.ix ≠ b.ix)/\kdOK a=true/\(∀ o,l[a.ix]?=some o->wBP o=false/\subB a.op o=true):=by
  intro s a t e
  have hk:=key s a t e
  unfold zop at hk
  simp only [hH,nV,List.mem_reverse,nQ,nh] at hk
  obtain ⟨k1,k2,k3,⟨k4,k8⟩,k5,k6,k7⟩:=hk
  refine ⟨fun hf b hb=>?_,fun p hp b hb=>?_,fun p hp=>⟨fun b hb=>?_,fun b hb hd=>?_⟩,⟨fun h1 b hb h0=>?_,fun h8 s1 b s2 es h0=>?_⟩,fun b hb he=>?_,k6,fun o ho=>?_⟩
  ·rcases k1 with k1 | k1
   ·rw [hf] at k1;cases k1
   ·exact han _ _ (k1 b hb)
  ·rw [hp] at k2
   simp only [hH,nV,List.mem_reverse] at k2
   rcases nT.1 hb with hb | hb
   ·exact wFy (k2.1 b hb)
   ·exact wFy (k2.2 b hb)
  ·obtain ⟨g1,g2,g3⟩:=k3 p hp
   rcases nL.1 hb with rfl | hb
   ·exact wFy g1
   ·exact wFy (g2 b hb)
  ·obtain ⟨g1,g2,g3⟩:=k3 p hp
   rcases g3 b hb with g | ⟨g,g'⟩
   ·exact absurd hd (wFy g)
   ·refine ⟨han _ _ g,fun hk=>?_⟩
    rcases g' with g' | g'
    ·rcases hk with hk | hk | hk
     ·rw [hk] at g';exact absurd g' (by decide)
     ·rw [hk] at g';exact absurd g' (by decide)
     ·simp only [Bool.or_eq_false_iff] at g'
      have h8:kE 8 a.kd=true:=by rw [nM];exact hk
      rw [g'.2.2] at h8
      cases h8
    ·constructor <;> intro h4 <;> rw [h4] at g' <;> exact absurd g' (by decide)
  ·rcases k4 with k4 | k4
   ·rw [h1] at k4;exact absurd k4 (by decide)
   ·rcases k4 b hb with g | g
    ·rw [h0] at g;exact absurd g (by decide)
    ·exact han _ _ g
  ·rcases k8 with k8 | k8
   ·rw [<- Bool.not_eq_true,nM] at k8
    exact absurd h8 k8
   ·rw [es,List.reverse_append,List.reverse_cons,nr] at k8
    rcases wNM s2.reverse b (s1.reverse) 0 (by simpa using k8) h0 with g | g
    ·exact .inl (han _ _ g)
    ·refine .inr ?_
     unfold wMR at g ⊢
     rw [List.countP_reverse] at g
     omega
  ·have:=k5 b hb
   rw [he] at this
   simp at this
  ·rw [ho] at k7
   simpa using k7
 have mem:∀ a ∈ os,∃ s t,os=s ++ a :: t:=fun a ha=>List.append_of_mem ha
 refine ⟨hao,pw_of os fun s a t e=>(wJl s a t e).2.2.2.2.1,hpr,fun s a t e=>(wJl s a t e).1,fun s a t e=>(wJl s a t e).2.1,fun s a t e p hp=>((wJl s a t e).2.2.1 p hp).1,fun a ha p hp b hb hd=>?_,fun a ha=>?_,fun a ha hk p hp b hb hd=>?_,fun a ha o ho=>?_,fun a ha o ho=>?_,fun s a t e=>(wJl s a t e).2.2.2.1.1,fun s a t e=>(wJl s a t e).2.2.2.1.2⟩
 ·obtain ⟨s,t,e⟩:=mem a ha
  obtain ⟨g1,g2⟩:=(wJl s a t e).2.2.1 p hp
  rw [e] at hb
  rcases nT.1 hb with hb | hb
  ·exact (g2 b hb hd).1
  ·exact absurd hd (g1 b hb)
 ·obtain ⟨s,t,e⟩:=mem a ha
  have hk:=(wJl s a t e).2.2.2.2.2.1
  unfold kdOK at hk
  simp only [nQ,hH] at hk
  rcases hk with hk | ⟨h1,hk⟩
  ·exact .inl hk
  ·refine .inr ⟨fun e=>(by rw [e] at h1;cases h1),?_⟩
   rcases hk with hk | hk | ⟨hk,h2⟩ | ⟨hk,h2⟩ | ⟨hk,h2⟩
   ·exact .inl (nA hk)
   ·exact .inr (.inl (nA hk))
   ·exact .inr (.inr (.inl ⟨nA hk,nA h2⟩))
   ·exact .inr (.inr (.inr (.inl ⟨nA hk,h2⟩)))
   ·exact .inr (.inr (.inr (.inr ⟨by rwa [nM] at hk,nA h2⟩)))
 ·obtain ⟨s,t,e⟩:=mem a ha
  obtain ⟨g1,g2⟩:=(wJl s a t e).2.2.1 p hp
  rw [e] at hb
  rcases nT.1 hb with hb | hb
  ·exact (g2 b hb hd).2 hk
  ·exact absurd hd (g1 b hb)
 ·obtain ⟨s,t,e⟩:=mem a ha
  exact ((wJl s a t e).2.2.2.2.2.2 o ho).1
 ·obtain ⟨s,t,e⟩:=mem a ha
  have h1:=((wJl s a t e).2.2.2.2.2.2 o ho).2
  unfold subB at h1
  rw [nV] at h1
  intro x hx
  have:=h1 (.tmp x) (by simpa using hx)
  simp only [List.any_eq_true] at this
  obtain ⟨p,g1,g2⟩:=this
  exact ⟨p,g1,by rw [nA g2];rfl⟩
structure ZAll (P:Program) (N:Nat) (l:List Oper) (os A B:List AO):Prop where
 eq:os=A ++ B
 za:ZOK P N l A
 zb:ZOK P N l B
 cross:∀ b ∈ B,∀ a ∈ A,a.ix ≠ b.ix/\wJH l a.ix b.ix
 low:∀ b ∈ B,b.kd < 8
 far:∀ a ∈ A,8 <= a.kd->∀ p,p ∈ wBp a \/ a.dst=some p->∀ b ∈ B,b.dst ≠ some p
 all:∀ i,i < l.length->∃ a ∈ os,a.ix=i
theorem wLT {P:Program} {N:Nat} {l:List Oper} {os:List AO} (hao:∀ a ∈ os,wFw P N l a=true) (h:chkZ l os=true):∃ A B,ZAll P N l os A B:=by
 unfold chkZ at h
 rw [hH,hH,nQ] at h
 obtain ⟨hpr0,hall0,hz⟩:=h
 simp only [nV,List.mem_range,nE,List.any_eq_true] at hpr0 hall0
 have hpr:∀ i,i < l.length->∀ j ∈ prI l i,j < i:=hpr0
 have hall:∀ i,i < l.length->∃ a ∈ os,a.ix=i:=fun i hi=>by
  obtain ⟨a,h1,h2⟩:=hall0 i hi
  exact ⟨a,h1,nA h2⟩
 have han:∀ i x,((wNK [] l).getD i 0).testBit x=true->wJH l x i:=wId hpr l [] [] rfl rfl fun i x h=>by simp at h
 rcases hz with hz | hz
 ·exact ⟨os,[],by simp,wJI hao hpr hz,wJI (fun a ha=>by simp at ha) hpr rfl,fun b hb=>by simp at hb,fun b hb=>by simp at hb,fun a _ _ p _ b hb=>by simp at hb,hall⟩
 ·unfold ztl at hz
  simp only [hH,nV,nE,nh] at hz
  obtain ⟨⟨h1,h5⟩,h2,h3,h4⟩:=hz
  have e:=wNL os
  refine ⟨wOQ os,wMg os,e,wJI (fun a ha=>hao a (by rw [e];simp [ha])) hpr h2,wJI (fun a ha=>hao a (by rw [e];simp [ha])) hpr h3,fun b hb a ha=>⟨fun e=>?_,han _ _ (h4 b hb a ha).2⟩,h1,fun a ha h8 p hp b hb=>?_,hall⟩
  ·have:=(h4 b hb a ha).1
   rw [e] at this
   simp at this
  ·have h6:=h5 a ha
   simp only [nQ,hH,nV,nE] at h6
   rcases h6 with h6 | ⟨h6,h7⟩
   ·omega
   ·rcases hp with hp | hp
    ·exact wFy (h6 p hp b hb)
    ·rw [hp] at h7
     simp only [nV] at h7
     exact wFy (h7 b hb)
theorem wHG {tb:Tr AF} {ex exY:Run} {σf:Tr AV} {h:AH}:∀ (x y:List AO) (n:Nat),wIB tb ex exY σf h n (x ++ y)=true->wIB tb ex exY σf h n x=true
 | [],_,_,_=>rfl
 | a :: x,y,n,hl=>by
  rw [nk,wDk] at hl
  rw [wDk]
  cases hf:wBi a.kd with
  | true =>
   rw [hf] at hl
   exact wHG x y _ hl
  | false =>
   rw [hf] at hl
   simp only [hH] at hl ⊢
   exact ⟨hl.1,wHG x y _ hl.2⟩
theorem wIe {tb:Tr AF} {ex exY:Run} {σf:Tr AV} {h:AH}:∀ (x:List AO) (a:AO) (y:List AO) (n:Nat),wIB tb ex exY σf h n (x ++ a :: y)=true->wBi a.kd=false->n + wMR x + 8 < a.kd->wGb tb ex exY σf h a=true
 | [],a,y,n,hl,hf,hn=>by
  rw [nf,wDk,hf] at hl
  simp only [hH] at hl
  have hb:na (n + 8) a.kd=true:=by rw [nE];exact hn
  rw [hb] at hl
  exact hl.1
 | c :: x,a,y,n,hl,hf,hn=>by
  rw [nk,wDk] at hl
  unfold wMR at hn
  rw [List.countP_cons] at hn
  cases hc:wBi c.kd with
  | true =>
   rw [hc] at hl hn
   exact wIe x a y _ hl hf (by unfold wMR;simp only [if_true] at hn;omega)
  | false =>
   rw [hc] at hl hn
   simp only [hH] at hl
   exact wIe x a y _ hl.2 hf (by unfold wMR;simp only [if_false,nS] at hn;omega)
def LCK (tb:Tr AF) (ex exY:Run) (os:List AO) (σ0:Tr AV) (h0:AH) (σf:Tr AV):Prop :=
 ∀ s b t,os=s ++ b :: t->b.kd=0->∀ σ1 h1,wAW tb ex exY s σ0 h0=some (σ1,h1)->wIB tb ex exY σf h1 0 t=true
theorem wIf {tb:Tr AF} {ex exY:Run}:∀ (os:List AO) (σ:Tr AV) (h:AH) (r:Tr AV × AH),wKj tb ex exY os σ h=some r->wAW tb ex exY os σ h=some r/\LCK tb ex exY os σ h r.1
 | [],σ,h,r,hr=>by
  rw [wMY] at hr
  exact ⟨by rw [wAj];exact hr,fun s b t e=>by simp at e⟩
 | o :: os,σ,h,r,hr=>by
  rw [wKk] at hr
  split at hr
  ·cases hr
  ·rename_i q hq
   split at hr
   ·cases hr
   ·rename_i r' hr'
    have e:r'=r:=by
     split at hr
     ·split at hr
      ·cases hr;rfl
      ·cases hr
     ·cases hr;rfl
    subst e
    obtain ⟨g1,g2⟩:=wIf os _ _ _ hr'
    have g0:∀ s,wAW tb ex exY (o :: s) σ h=wAW tb ex exY s q.1 q.2:=by
     intro s
     rw [wAm]
     unfold wNn at hq
     cases hw:wCM σ o.grd with
     | true =>
      rw [hw] at hq
      simp only at hq ⊢
      split at hq
      ·rename_i y hy
       cases hq
       rfl
      ·cases hq
     | false =>
      rw [hw] at hq
      cases hq
      rfl
    refine ⟨by rw [g0];exact g1,fun s b t e h0 σ1 h1 hs=>?_⟩
    cases s with
    | nil =>
     simp only [nf,nD] at e
     obtain ⟨rfl,rfl⟩:=e
     rw [wAj] at hs
     cases hs
     have hb:nB o.kd 0=true:=by rw [h0];rfl
     rw [hb] at hr
     simp only at hr
     split at hr
     ·assumption
     ·cases hr
    | cons c s =>
     simp only [nk,nD] at e
     obtain ⟨rfl,rfl⟩:=e
     rw [g0] at hs
     exact g2 s b t rfl h0 σ1 h1 hs
theorem wJJ {tb:Tr AF} {ex exY:Run} {os:List AO} {σ:Tr AV} {h:AH} {σf:Tr AV} (hk:∀ a ∈ os,a.kd < 8):LCK tb ex exY os σ h σf:=by
 intro s b t e _ σ1 h1 _
 have:∀ (l:List AO) (n:Nat),(∀ a ∈ l,a.kd < 8)->wIB tb ex exY σf h1 n l=true:=by
  intro l
  induction l with
  | nil=>intro n _;rfl
  | cons a l ih =>
   intro n hl
   rw [wDk]
   have ha:=hl a (by simp)
   have hb:na (n + 8) a.kd=false:=by rw [<- Bool.not_eq_true,nE];omega
   cases wBi a.kd with
   | true=>exact ih _ fun b hb=>hl b (by simp [hb])
   | false =>
    simp only [hb,Bool.true_and]
    exact ih _ fun b hb=>hl b (by simp [hb])
 exact this t 0 fun a ha=>hk a (by rw [e];simp [ha])
end
end Go.KX
