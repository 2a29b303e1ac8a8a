import Derived.Test.YtlkkhhcfemmmdaaGreatA0
set_option linter.all false
open Bool renaming and_eq_true->nA,false_eq_true->nW,eq_false_iff->nj,rec->kW,not_eq_true'->kh,eq_iff_iff->kr
open Nat renaming eq_of_beq_eq_true->nB,beq->nG,blt->nP,blt_eq->nQ,ble->nR,le_refl->nS,zero_add->nX,min_eq_left->nt,lt_of_lt_of_le->nw,rec->kM,lt_or_ge->kP,mul_le_mul_right->kR,mul_one->kY,lt_or_eq_of_le->kc,le_trans->kl,strongRecOn->kq,add_zero->aH,add_comm->aK,add_mul->aM,ble_eq->aS
open List renaming getElem?_eq_some_iff->nD,getElem?_eq_getElem->nE,flatMap->nH,range->nI,flatMap_cons->nJ,append_assoc->nK,set->nL,mem_of_getElem?->nM,contains_iff_mem->nN,replicate->nO,perm_append_comm->nU,all_eq_true->nV,getElem?_append_left->nZ,mem_cons->nb,mem_append->nc,map_append->ng,rec->nh,perm_middle->np,replicate_succ->nr,mem_map->nv,nodup_append->nz,flatten_cons->kA,drop_eq_nil_of_le->kB,take_of_length_le->kC,length_cons->kD,length_take->kE,flatMap_def->kG,length_replicate->kH,getElem?_eq_none->kJ,nil_append->kO,append_nil->kQ,mem_range->kV,getElem?_take->kZ,getElem?_drop->ka,mem_cons_self->kb,getElem?_append_right->ke,map_cons->kf,getD_eq_getElem?_getD->kg,pairwise_iff_getElem->ki,any_eq_true->km,getElem?_cons_zero->ko,length_nil->kv,length_eq_one_iff->kx,mem_append_right->ky,range_eq_range'->kz,mem_cons_of_mem->aA,mem_append_left->aB,getElem?_of_mem->aC,all_cons->aD,map_congr_left->aF,flatMap_append->aG,append_of_mem->aI,length_append->aJ,range'->aL
open Option renaming rec->nT,getD_none->aO,getD_some->aP
open Array renaming replicate->nY,getD_eq_getD_getElem?->nm,getElem?_replicate->kj,toList_map->aN,ext'->aQ
open Int renaming eq_ofNat_of_zero_le->na,toNat_natCast->ni,ofNat_eq_natCast->nq,negSucc_eq->kX
open Go.Value renaming int->nu
open Option.some renaming injEq->ny,inj->ku
open List.Perm renaming append_left->kK,refl->kS,swap->kU,trans->aR
namespace Go.Proofs.YtlkkhhcfemmmdaaGreat
open Go.KL
noncomputable section
structure wAE where
 bytes:List Int
 next:Int
 state:Int
deriving DecidableEq,Inhabited,Repr
structure wAH where
 Bib:Int
 Time:Int
deriving DecidableEq,Inhabited,Repr
structure wAA where
 Number:Int
 Kind:Int
 Minute:Int
 Bib:Int
 Much:Int
 About:Int
deriving DecidableEq,Inhabited,Repr
structure wAI where
 Deadline:Int
 Skiers:List wAH
 Decisions:List wAA
deriving DecidableEq,Inhabited,Repr
structure wAL where
 Record:wAI
 at_:List (Int × wAA)
 about:List (Int × List wAA)
structure wAC where
 Bib:Int
 Place:Int
 Total:Int
deriving DecidableEq,Inhabited,Repr
structure wAU where
 Skiers:Int
 Races:Int
 Best:Int
 Points:List Int
 Done:List (List Int)
deriving DecidableEq,Inhabited,Repr
structure wAQ where
 Cup:wAU
deriving DecidableEq,Inhabited,Repr
structure wCB where
 total:Int
 places:Arr Int 61
deriving DecidableEq
structure wAN where
 Skier:Int
 Rank:Int
 Points:Int
 Wins:Int
deriving DecidableEq,Inhabited,Repr
structure wDH where
 is:((wAQ × Int)->Option Bool)
def wDS (p0:List Int):Option (wAE) :=
 some (⟨p0,0,17⟩:wAE)
def wAM (p0:wAE) (p1:Int):Option (Int × wAE) :=
 if p1 <= 1 then
 some (0,p0)
 else
 if (↑p0.bytes.length:Int)=0 then
 some (0,p0)
 else
 (rem p0.next (↑p0.bytes.length:Int)).bind fun x10 =>
 (idx p0.bytes x10).bind fun x13 =>
 (quo p0.next (↑p0.bytes.length:Int)).bind fun x20 =>
 (rem (wGB ((wGB ((wGB ((wGB (p0.state * 45)) + (wGB x13))) + (wGB (77 * (wGB x20))))) + 1)) 65519).bind fun x32 =>
 if (wGB x20)=0 then
 if p1 <= 256 then
 (rem (w64 (wGB x13)) p1).bind fun x42 =>
 some (x42,(⟨p0.bytes,w64 (p0.next + 1),x32⟩:wAE))
 else
 (rem (w64 (wGB ((wGB (x32 * 256)) + (wGB x13)))) p1).bind fun x46 =>
 some (x46,(⟨p0.bytes,w64 (p0.next + 1),x32⟩:wAE))
 else
 (rem (w64 (wGB ((wGB (x32 * 256)) + (wGB x13)))) p1).bind fun x50 =>
 some (x50,(⟨p0.bytes,w64 (p0.next + 1),x32⟩:wAE))
def wAX (p0:wAE) (p1:Int) (p2:Int):Option (Int × wAE) :=
 (wAM p0 (w64 ((w64 (p2 - p1)) + 1))).bind fun (x2,x3) =>
 some (w64 (p1 + x2),x3)
def wBV (p0:wAE) (p1:Int):Option (Bool × wAE) :=
 (wAM p0 p1).bind fun (x2,x3) =>
 some (decide (x2=0),x3)
def wCT (p0:wAE) (p1:Int) (p2:Int):Option (wAI × wAE) :=
 (wAX p0 1 p1).bind fun (x13,x14) =>
 (wCs 0 x13 (fun k65 (l56,x59,x60,l61) =>
 (wAM (⟨l56,x59,x60⟩:wAE) 20).bind fun (x94,x95) =>
 (wBV x95 12).bind fun (x115,x116) =>
 if x115=true then
 (app 16 l61 [(⟨w64 ((w64 (3 * (↑k65:Int))) + 1),-1⟩:wAH)]).bind fun x140 =>
 some (x116.bytes,x116.next,x116.state,x140)
 else
 (app 16 l61 [(⟨w64 ((w64 (3 * (↑k65:Int))) + 1),w64 (15000 + (w64 (50 * x94)))⟩:wAH)]).bind fun x165 =>
 some (x116.bytes,x116.next,x116.state,x165)) (x14.bytes,x14.next,x14.state,[])).bind fun (y70,y71,y72,y73) =>
 (wAM (⟨y70,y71,y72⟩:wAE) (w64 (p2 + 1))).bind fun (x210,x211) =>
 (wCs 0 x210 (fun k265 (l255,x258,x259,l260,x264) =>
 (wAX (⟨l255,x258,x259⟩:wAE) 1 2).bind fun (x295,x296) =>
 (wAM x296 10).bind fun (x309,x310) =>
 (wAM x310 36).bind fun (x323,x324) =>
 (if 1 < (w64 (x264 + x295)) then
 if x309 < 5 then
 (wBV x324 3).bind fun (x357,x358) =>
 some (x358.bytes,x358.next,x358.state,x357)
 else
 some (x324.bytes,x324.next,x324.state,false)
 else
 some (x324.bytes,x324.next,x324.state,false)).bind fun (l344,x347,x348,b349) =>
 (if b349=true then
 some (7:Int)
 else
 some x309).bind fun x406 =>
 (if (w64 (x264 + x295))=1 then
 (wAM (⟨l344,x347,x348⟩:wAE) 5).bind fun (x442,x443) =>
 some (x443.bytes,x443.next,x443.state,x442)
 else
 some (l344,x347,x348,x406)).bind fun (l430,x433,x434,x435) =>
 (if x435 <= 4 then
 (wAM (⟨l430,x433,x434⟩:wAE) (↑y73.length:Int)).bind fun (x525,x526) =>
 (chk x525 y73.length).bind fun _ =>
 (wAM x526 8).bind fun (x547,x548) =>
 if x435=2 then
 (wAM x548 3).bind fun (x566,x567) =>
 if x435=3 then
 some (x567.bytes,x567.next,x567.state,(gd y73 x525.toNat).Bib,(0:Int),(0:Int))
 else
 some (x567.bytes,x567.next,x567.state,(gd y73 x525.toNat).Bib,x566,(0:Int))
 else
 if x435=3 then
 some (x548.bytes,x548.next,x548.state,(gd y73 x525.toNat).Bib,(0:Int),(0:Int))
 else
 some (x548.bytes,x548.next,x548.state,(gd y73 x525.toNat).Bib,w64 (50 * x547),(0:Int))
 else
 (wAX (⟨l430,x433,x434⟩:wAE) (max 1 (w64 ((w64 (x264 + x295)) - 6))) (w64 ((w64 (x264 + x295)) - 1))).bind fun (x629,x630) =>
 if x435=6 then
 (wAM x630 8).bind fun (x648,x649) =>
 some (x649.bytes,x649.next,x649.state,(0:Int),w64 (50 * x648),x629)
 else
 some (x630.bytes,x630.next,x630.state,(0:Int),(0:Int),x629)).bind fun (l486,x489,x490,x491,x492,x493) =>
 (app 48 l260 [(⟨w64 (x264 + x295),x435,x323,x491,x492,x493⟩:wAA)]).bind fun x700 =>
 some (l486,x489,x490,x700,w64 (x264 + x295))) (x211.bytes,x211.next,x211.state,[],0)).bind fun (y270,y271,y272,y273,y274) =>
 some ((⟨30,y73,y273⟩:wAI),(⟨y270,y271,y272⟩:wAE))
def wBa (p0:List wAH):Option ((List wAH)) :=
 (app 16 ([]:List wAH) p0).bind fun x4 =>
 some x4
def wBI (p0:List wAA):Option ((List wAA)) :=
 (app 48 ([]:List wAA) p0).bind fun x4 =>
 some x4
def wBj (p0:wAI):Option (wAI) :=
 (wBa p0.Skiers).bind fun x11 =>
 (wBI p0.Decisions).bind fun x25 =>
 some (⟨p0.Deadline,x11,x25⟩:wAI)
def wBX (p0:wAE) (p1:Int):Option ((List Int) × wAE) :=
 (wCs 0 (max 0 p1) (fun k19 l15 =>
 (app 8 l15 [(↑k19:Int)]).bind fun x47 =>
 some x47) []).bind fun y24 =>
 iter (fun (l95,x98,x99,l100,x101) =>
 if 0 < x101 then
 (wAM (⟨l95,x98,x99⟩:wAE) (w64 (x101 + 1))).bind fun (x120,x121) =>
 (chk x120 l100.length).bind fun _ =>
 (chk x101 l100.length).bind fun _ =>
 (chk x120 (nL l100 x101.toNat (gd l100 x120.toNat)).length).bind fun _ =>
 some (.inl (x121.bytes,x121.next,x121.state,(nL (nL l100 x101.toNat (gd l100 x120.toNat)) x120.toNat (gd l100 x101.toNat)),w64 (x101 - 1)))
 else
 esc (some (l100,(⟨l95,x98,x99⟩:wAE)))) big (p0.bytes,p0.next,p0.state,y24,w64 ((↑y24.length:Int) - 1))
def wAd (p0:Int) (p1:Int) (p2:Int):Option (Bool) :=
 if p1 <= p0 then
 some (decide (p0 <= p2))
 else
 some false
def wAx (p0:wAH) (p1:(wAH->Option Bool)):Option (Bool) :=
 (p1 p0).bind fun x5 =>
 some (!x5)
def wAc (p0:List wAH) (p1:(wAH->Option Bool)):Option (Int) :=
 jn (wGa 0 (↑p0.length:Int) (fun k2 _ =>
 (idx p0 (↑k2:Int)).bind fun x22 =>
 (p1 x22).bind fun x30 =>
 if x30=true then
 esc (some (↑k2:Int))
 else
 some (.inl ())) ()) fun _ =>
 some (-1)
def wAj (p0:List wAH) (p1:(wAH->Option Bool)):Option (Bool) :=
 (wAc p0 p1).bind fun x1 =>
 some (decide (0 <= x1))
def wBv (p0:List wAH) (p1:(wAH->Option Bool)):Option (Bool) :=
 (wAj p0 (fun x=>wAx x p1)).bind fun x13 =>
 some (!x13)
def wDI (p0:wAH):Option (Bool) :=
 (wAd p0.Bib 1 999).bind fun x5 =>
 if x5=true then
 (wAd p0.Time (-1) 360000).bind fun x17 =>
 some x17
 else
 some false
def wAn (p0:wAA) (p1:(wAA->Option Bool)):Option (Bool) :=
 (p1 p0).bind fun x5 =>
 some (!x5)
def wAW (p0:List wAA) (p1:(wAA->Option Bool)):Option (Int) :=
 jn (wGa 0 (↑p0.length:Int) (fun k2 _ =>
 (idx p0 (↑k2:Int)).bind fun x22 =>
 (p1 x22).bind fun x30 =>
 if x30=true then
 esc (some (↑k2:Int))
 else
 some (.inl ())) ()) fun _ =>
 some (-1)
def wAZ (p0:List wAA) (p1:(wAA->Option Bool)):Option (Bool) :=
 (wAW p0 p1).bind fun x1 =>
 some (decide (0 <= x1))
def wAu (p0:List wAA) (p1:(wAA->Option Bool)):Option (Bool) :=
 (wAZ p0 (fun x=>wAn x p1)).bind fun x13 =>
 some (!x13)
def wAh (p0:Int):Option (Bool) :=
 some (decide (p0 <= 4))
def wBE (p0:wAA):Option (Bool) :=
 (if p0.Kind=3 then
 some true
 else
 (wAh p0.Kind).bind fun x13 =>
 if x13=true then
 some false
 else
 some (decide (¬ (p0.Kind=6)))).bind fun b5 =>
 if b5=true then
 (wAd p0.Number 1 9999).bind fun x38 =>
 if x38=true then
 (wAd p0.Kind 0 9).bind fun x50 =>
 if x50=true then
 (wAd p0.Minute 0 10000).bind fun x62 =>
 if x62=true then
 (wAd p0.Much 0 0).bind fun x74 =>
 some x74
 else
 some false
 else
 some false
 else
 some false
 else
 (wAd p0.Number 1 9999).bind fun x88 =>
 if x88=true then
 (wAd p0.Kind 0 9).bind fun x100 =>
 if x100=true then
 (wAd p0.Minute 0 10000).bind fun x112 =>
 if x112=true then
 (wAd p0.Much 0 36000).bind fun x124 =>
 some x124
 else
 some false
 else
 some false
 else
 some false
def wCC (p0:wAI):Option ((List Int)) :=
 (wCs 0 (↑p0.Skiers.length:Int) (fun k22 l18 =>
 (idx p0.Skiers (↑k22:Int)).bind fun x45 =>
 (app 8 l18 [x45.Bib]).bind fun x65 =>
 some x65) []).bind fun y27 =>
 some y27
def wEC (p0:List Int):Option (Bool) :=
 jn (wGa 0 (↑p0.length:Int) (fun k20 l17 =>
 (idx p0 (↑k20:Int)).bind fun x41 =>
 if (wAk l17 x41 false)=true then
 esc (some true)
 else
 some (.inl (mput l17 x41 true))) ([]:List (Int × Bool))) fun y68 =>
 some false
def wBw (p0:wAI):Option ((List Int)) :=
 (wCs 0 (↑p0.Decisions.length:Int) (fun k22 l18 =>
 (idx p0.Decisions (↑k22:Int)).bind fun x45 =>
 (app 8 l18 [x45.Number]).bind fun x65 =>
 some x65) []).bind fun y27 =>
 some y27
def wCV (p0:List Int) (p1:Int):Option (Int) :=
 jn (wGa 0 (↑p0.length:Int) (fun k2 _ =>
 (idx p0 (↑k2:Int)).bind fun x22 =>
 if p1=x22 then
 esc (some (↑k2:Int))
 else
 some (.inl ())) ()) fun _ =>
 some (-1)
def wAy (p0:List Int) (p1:Int):Option (Bool) :=
 (wCV p0 p1).bind fun x1 =>
 some (decide (0 <= x1))
def wDJ (p0:wAA) (p1:wAI):Option (Bool) :=
 (wAh p0.Kind).bind fun x5 =>
 if x5=true then
 (wCC p1).bind fun x22 =>
 (wAy x22 p0.Bib).bind fun x40 =>
 some x40
 else
 some (decide (p0.Bib=0))
def wDK (p0:wAA):Option (Bool) :=
 (wAh p0.Kind).bind fun x5 =>
 if x5=true then
 some (decide (p0.About=0))
 else
 (wAd p0.About 1 (w64 (p0.Number - 1))).bind fun x18 =>
 some x18
def wEi (p0:wAI):Option (Int) :=
 (wAd (↑p0.Skiers.length:Int) 1 30).bind fun x10 =>
 if x10=true then
 if 40 < (↑p0.Decisions.length:Int) then
 some 2
 else
 (wAd p0.Deadline 0 10000).bind fun x26 =>
 if x26=true then
 (wBv p0.Skiers wDI).bind fun x43 =>
 if x43=true then
 (wAu p0.Decisions wBE).bind fun x61 =>
 if x61=true then
 (wCC p0).bind fun x77 =>
 (wEC x77).bind fun x95 =>
 if x95=true then
 some 5
 else
 (wBw p0).bind fun x117 =>
 (wEC x117).bind fun x135 =>
 if x135=true then
 some 5
 else
 (wAu p0.Decisions (fun x=>wDJ x p0)).bind fun x161 =>
 if x161=true then
 (wAu p0.Decisions wDK).bind fun x176 =>
 if x176=true then
 some 0
 else
 some 4
 else
 some 1
 else
 some 3
 else
 some 3
 else
 some 3
 else
 some 2
noncomputable def wBK (p0:List wAH) (p1:((wAH × wAH)->Option Int)):Option (List wAH):=wLe p1 p0
def wDT (p0:Int):Option (Bool) :=
 some (decide (¬ (p0=p0)))
def wAz (p0:Int) (p1:Int):Option (Int) :=
 (wDT p0).bind fun x1 =>
 (wDT p1).bind fun x11 =>
 if x1=true then
 if x11=true then
 some 0
 else
 some (-1)
 else
 if x11=true then
 some 1
 else
 if p0 < p1 then
 some (-1)
 else
 if p1 < p0 then
 some 1
 else
 some 0
def wCl (p0:wAH) (p1:wAH):Option (Int) :=
 (wAz p0.Bib p1.Bib).bind fun x9 =>
 some x9
noncomputable def wAv (p0:List wAA) (p1:((wAA × wAA)->Option Int)):Option (List wAA):=wLe p1 p0
def wCm (p0:wAA) (p1:wAA):Option (Int) :=
 (wAz p0.Number p1.Number).bind fun x9 =>
 some x9
def wEM (p0:wAI):Option (wAI × Int) :=
 (wEi p0).bind fun x9 =>
 if x9=0 then
 ((mkz 16 (↑p0.Skiers.length:Int) (⟨0,0⟩:wAH)).bind fun x32 =>
 (mkz 48 (↑p0.Decisions.length:Int) (⟨0,0,0,0,0,0⟩:wAA)).bind fun x40 =>
 some (x32,x40)).bind fun (l23,l26) =>
 (wPp l23 0 p0.Skiers).bind fun x283 =>
 (wPp l26 0 p0.Decisions).bind fun x293 =>
 (wBK x283 (fun x=>wCl x.1 x.2)).bind fun x302 =>
 (wAv x293 (fun x=>wCm x.1 x.2)).bind fun x316 =>
 some ((⟨p0.Deadline,x302,x316⟩:wAI),0)
 else
 some ((⟨0,[],[]⟩:wAI),x9)
def wAe {S E:Type} (f:S->(Int × wAA)->Option (S ⊕ E)) (s0:S) (p1:List wAA):Option (S ⊕ E) :=
 iter (fun (x11,s12) =>
  if 0 <= x11 then
   (idx p1 x11).bind fun x31 =>
   (f s12 (x11,x31)).bind fun yr39 =>
   match yr39 with
   | .inl s49 =>
    some (.inl (w64 (x11 - 1),s49))
   | .inr s49 =>
    esc (some (.inr s49))
  else
   esc (some (.inl s12))) big (w64 ((↑p1.length:Int) - 1),s0)
def wAf (p0:List wAA):Option (Unit) :=
 some ()
def wED (p0:wAI):Option ((Option wAL) × Int) :=
 (wEM p0).bind fun (x5,x6) =>
 if x6=0 then
  (wAf x5.Decisions).bind fun _ =>
  (wAe (S:=(List (Int × List wAA)) × (List (Int × wAA))) (E:=Empty) (fun (l769,l770) x787 =>
   if 0 < x787.2.About then
    (app 48 (wAk l769 x787.2.About ([]:List wAA)) [x787.2]).bind fun x875 =>
    some (.inl ((mput l769 x787.2.About x875),(mput l770 x787.2.Number x787.2)))
   else
    some (.inl (l769,(mput l770 x787.2.Number x787.2)))) (([]:List (Int × List wAA)),([]:List (Int × wAA))) x5.Decisions).bind fun rr780 =>
  match rr780 with
  | .inl (y1166,y1167) =>
   some ((some (⟨x5,y1167,y1166⟩:wAL)),0)
  | .inr e1173 =>
   e1173.elim
 else
  some (none,x6)
def wDu (p0:Int):Option (Bool) :=
 if p0=4 then
 some true
 else
 some (decide (p0=7))
def wCI (p0:wAL) (p1:wAA):Option (Bool) :=
 (wDu p1.Kind).bind fun x7 =>
 if x7=true then
 some (decide (p0.Record.Deadline < p1.Minute))
 else
 some false
def wBN (p0:Int):Option (Bool) :=
 if p0=8 then
 some true
 else
 some (decide (p0=9))
def wCL (p0:Int):Option (Bool) :=
 some (decide (p0=6))
def wBT (rec_:(wAA->Unit->Unit->Unit->(wAL × List Int × List (Int × Bool))->Option (Bool × (List (Int × Bool))))) (p0:wAA) (p1:(Int->Option Bool)) (p2:Unit) (p3:(wAL × List Int × List (Int × Bool))):Option (wAA × Bool × (List (Int × Bool))) :=
 jn (wGa 0 (↑((wAk p3.1.about p0.Number ([]:List wAA)).length):Int) (fun k26 l23 =>
 (idx (wAk p3.1.about p0.Number ([]:List wAA)) (↑k26:Int)).bind fun x49 =>
 (p1 x49.Kind).bind fun x64 =>
 if x64=true then
 (rec_ x49 () () () (p3.1,p3.2.1,l23)).bind fun (x101,x102) =>
 if x101=true then
 esc (some (x49,true,x102))
 else
 some (.inl x102)
 else
 some (.inl l23)) p3.2.2) fun y136 =>
 some ((⟨0,0,0,0,0,0⟩:wAA),false,y136)
def wDP (rec_:(wAA->Unit->Unit->Unit->(wAL × List Int × List (Int × Bool))->Option (Bool × (List (Int × Bool))))) (p0:wAA) (p1:(wAL × List Int × List (Int × Bool))):Option (wAA × Bool × (List (Int × Bool))) :=
 (wBT rec_ p0 wBN () (p1.1,p1.2.1,p1.2.2)).bind fun (x11,x12,x13) =>
 some (x11,x12,x13)
def wBf (rec_:(wAA->Unit->Unit->Unit->(wAL × List Int × List (Int × Bool))->Option (Bool × (List (Int × Bool))))) (p0:wAA) (p1:(wAL × List Int × List (Int × Bool))) (p2:Unit):Option (Bool × (List (Int × Bool))) :=
 (wDP rec_ p0 (p1.1,p1.2.1,p1.2.2)).bind fun (x6,x7,x8) =>
 if x7=true then
 some (decide (x6.Kind=8),x8)
 else
 (wAy p1.2.1 p0.Number).bind fun x34 =>
 some (x34,x8)
def wBA (rec_:wAA->Unit->Unit->Unit->(wAL × List Int × List (Int × Bool))->Option (Bool × (List (Int × Bool)))) (p0:wAA) (p1:Unit) (p2:Unit) (p3:Unit) (p4:(wAL × List Int × List (Int × Bool))):Option (Bool × (List (Int × Bool))) :=
 if (wKT p4.2.2 p0.Number)=true then
 some ((wAk p4.2.2 p0.Number false),p4.2.2)
 else
 (wCI p4.1 p0).bind fun x9 =>
 (wCs 0 (↑((wAk p4.1.about p0.Number ([]:List wAA)).length):Int) (fun k42 (l38,b41) =>
 ((idx (wAk p4.1.about p0.Number ([]:List wAA)) (↑k42:Int)).bind fun x75 =>
 (if x75.Kind=5 then
 some true
 else
 if x75.Kind=7 then
 (wBN p0.Kind).bind fun x100 =>
 some (!x100)
 else
 some false).bind fun b90 =>
 if b41=true then
 if b90=true then
 (rec_ x75 () () () (p4.1,p4.2.1,l38)).bind fun (x164,x165) =>
 if x164=true then
 if x75.Kind=5 then
 some (x165,false)
 else
 (wBf rec_ x75 (p4.1,p4.2.1,x165) ()).bind fun (x200,x201) =>
 if x200=true then
 some (x201,false)
 else
 some (x201,b41)
 else
 some (x165,b41)
 else
 some (l38,b41)
 else
 some (l38,b41)).bind fun (l68,b71) =>
 some (l68,b71)) (p4.2.2,!x9)).bind fun (y47,y48) =>
 some (y48,(mput y47 p0.Number y48))
def wAa:Nat->wAA->Unit->Unit->Unit->(wAL × List Int × List (Int × Bool))->Option (Bool × (List (Int × Bool)))
 | 0=>fun _ _ _ _ _=>none
 | n_ + 1=>wBA (wAa n_)
def wBg (p0:wAA) (p1:(wAL × List Int × List (Int × Bool))):Option (wAA × Bool × (List (Int × Bool))) :=
 (wBT (wAa 1000) p0 wCL () (p1.1,p1.2.1,p1.2.2)).bind fun (x11,x12,x13) =>
 some (x11,x12,x13)
def wBB (rec_:wAA->(wAL × List Int × List (Int × Bool))->Option (Int × (List (Int × Bool)))) (p0:wAA) (p1:(wAL × List Int × List (Int × Bool))):Option (Int × (List (Int × Bool))) :=
 (wBg p0 (p1.1,p1.2.1,p1.2.2)).bind fun (x6,x7,x8) =>
 if x7=true then
 (rec_ x6 (p1.1,p1.2.1,x8)).bind fun (x43,x44) =>
 some (x43,x44)
 else
 some (p0.Much,x8)
def wAP:Nat->wAA->(wAL × List Int × List (Int × Bool))->Option (Int × (List (Int × Bool)))
 | 0=>fun _ _=>none
 | n_ + 1=>wBB (wAP n_)
def wDv (p0:wAL) (p1:List Int):Option ((List (Int × Bool))) :=
 some ([]:List (Int × Bool))
def wBh (p0:(wAL × List Int × List (Int × Bool))) (p1:wAA) (p2:Int):Option (Bool × (List (Int × Bool))) :=
 (wAh p1.Kind).bind fun x10 =>
 if x10=true then
 if p1.Bib=p2 then
 (wAa 1000 p1 () () () (p0.1,p0.2.1,p0.2.2)).bind fun (x36,x37) =>
 if x36=true then
 if p1.Kind=4 then
 (wBf (wAa 1000) p1 (p0.1,p0.2.1,x37) ()).bind fun (x67,x68) =>
 some (x67,x68)
 else
 some (true,x37)
 else
 some (false,x37)
 else
 some (false,p0.2.2)
 else
 some (false,p0.2.2)
def wBm (p0:Int) (p1:Int):Option (Int) :=
 some (w64 (p0 + p1))
def wDC (p0:Int) (p1:Int):Option (Int) :=
 some (w64 (p0 - p1))
def wDD (p0:Int) (p1:Int):Option (Int) :=
 some (w64 (p0 + (w64 (1200 * p1))))
def wDE (p0:Int) (p1:Int):Option (Int) :=
 some p0
def wAw :Option (Unit) :=
 some ()
def wDU (p0:Int) (p1:List Int):Option (Int) :=
 (wCs 0 (↑p1.length:Int) (fun k7 x6 =>
 (idx p1 (↑k7:Int)).bind fun x28 =>
 some (max x6 x28)) p0).bind fun y12 =>
 some y12
def wBo (p0:wAL) (p1:wAH) (p2:(wAL × List Int × List (Int × Bool))):Option (Int × Bool × (List (Int × Bool))) :=
 (wCs 0 (↑p0.Record.Decisions.length:Int) (fun k34 (l29,b32,x33) =>
 ((idx p0.Record.Decisions (↑k34:Int)).bind fun x69 =>
 (wBh (p2.1,p2.2.1,l29) x69 p1.Bib).bind fun (x96,x97) =>
 if x96=true then
 (if b32=true then
 some true
 else
 some (decide (x69.Kind=3))).bind fun b113 =>
 if x69.Kind=0 then
 (wAw).bind fun _ =>
 (wAP 1000 x69 (p2.1,p2.2.1,x97)).bind fun (x255,x256) =>
 (wBm x33 x255).bind fun x269 =>
 some (x256,b113,x269)
 else
 if x69.Kind=1 then
 (wAw).bind fun _ =>
 (wAP 1000 x69 (p2.1,p2.2.1,x97)).bind fun (x405,x406) =>
 (wDC x33 x405).bind fun x419 =>
 some (x406,b113,x419)
 else
 if x69.Kind=2 then
 (wAw).bind fun _ =>
 (wAP 1000 x69 (p2.1,p2.2.1,x97)).bind fun (x555,x556) =>
 (wDD x33 x555).bind fun x569 =>
 some (x556,b113,x569)
 else
 if x69.Kind=3 then
 (wAw).bind fun _ =>
 (wAP 1000 x69 (p2.1,p2.2.1,x97)).bind fun (x705,x706) =>
 (wDE x33 x705).bind fun x719 =>
 some (x706,b113,x719)
 else
 if x69.Kind=4 then
 (wAw).bind fun _ =>
 (wAP 1000 x69 (p2.1,p2.2.1,x97)).bind fun (x855,x856) =>
 (wBm x33 x855).bind fun x869 =>
 some (x856,b113,x869)
 else
 none
 else
 some (x97,b32,x33)).bind fun (l61,b64,x65) =>
 some (l61,b64,x65)) (p2.2.2,decide (p1.Time=(-1)),p1.Time)).bind fun (y39,y40,y41) =>
 if y40=true then
 some (0,true,y39)
 else
 (wDU 0 [y41]).bind fun x944 =>
 some (x944,false,y39)
def wAp (p0:List wAC) (p1:Int) (p2:Int) (p3:((wAC × wAC)->Option Int)):Option ((List wAC)) :=
 iter (fun (l8,x9) =>
 if x9 < p2 then
 iter (fun (l34,x35) =>
 if p1 < x35 then
 (chk x35 l34.length).bind fun _ =>
 (chk (w64 (x35 - 1)) l34.length).bind fun _ =>
 (p3 ((gd l34 x35.toNat),(gd l34 (w64 (x35 - 1)).toNat))).bind fun x65 =>
 if x65 < 0 then
 (chk (w64 (x35 - 1)) (nL l34 x35.toNat (gd l34 (w64 (x35 - 1)).toNat)).length).bind fun _ =>
 some (.inl ((nL (nL l34 x35.toNat (gd l34 (w64 (x35 - 1)).toNat)) (w64 (x35 - 1)).toNat (gd l34 x35.toNat)),w64 (x35 - 1)))
 else
 esc (some (.inl (l34,w64 (x9 + 1))))
 else
 esc (some (.inl (l34,w64 (x9 + 1))))) big (l8,x9)
 else
 esc (some l8)) big (p0,w64 (p1 + 1))
def wBn (p0:List wAC) (p1:Int) (p2:((wAC × wAC)->Option Int)):Option ((List wAC)) :=
 (iter (fun (l16,x17,x18) =>
 if x18 <= p1 then
 (wAp l16 x17 x18 p2).bind fun x39 =>
 some (.inl (x39,x18,w64 (x18 + 20)))
 else
 esc (some (l16,x17))) big (p0,(0:Int),(20:Int))).bind fun (l2,x3) =>
 (wAp l2 x3 p1 p2).bind fun x71 =>
 iter (fun _ =>
 if 20 < p1 then
 (iter (fun _ =>
 if 40 <= p1 then
 none
 else
 esc (some ())) big ()).bind fun _ =>
 none
 else
 esc (some x71)) big ()
def wAY (p0:List wAC) (p1:((wAC × wAC)->Option Int)):Option ((List wAC)) :=
 (wBn p0 (↑p0.length:Int) p1).bind fun x2 =>
 some x2
def wBC (p0:wAC) (p1:wAC):Option (Int) :=
 (wAz p0.Total p1.Total).bind fun x9 =>
 some x9
def wBU (p0:wAL) (p1:(wAL × List Int × List (Int × Bool))):Option ((List wAC) × (List (Int × Bool))) :=
 (wCs 0 (↑p0.Record.Skiers.length:Int) (fun k50 (l39,l42,l46) =>
 (idx p0.Record.Skiers (↑k50:Int)).bind fun x81 =>
 (wBo p0 x81 (p1.1,p1.2.1,l39)).bind fun (x112,x113,x114) =>
 if x113=true then
 (app 24 l46 [(⟨x81.Bib,-1,0⟩:wAC)]).bind fun x135 =>
 some (x114,l42,x135)
 else
 (app 24 l42 [(⟨x81.Bib,0,x112⟩:wAC)]).bind fun x158 =>
 some (x114,x158,l46)) (p1.2.2,[],[])).bind fun (y55,y56,y57) =>
 (wAY y56 (fun x=>wBC x.1 x.2)).bind fun x206 =>
 (wCs 0 (↑x206.length:Int) (fun k224 l223 =>
 (chk (↑k224:Int) l223.length).bind fun _ =>
 if 0 < (↑k224:Int) then
 (chk (↑k224:Int) (nL l223 k224 (⟨(gd l223 k224).Bib,(↑(k224 + 1):Int),(gd l223 k224).Total⟩:wAC)).length).bind fun _ =>
 (chk (w64 ((↑k224:Int) - 1)) (nL l223 k224 (⟨(gd l223 k224).Bib,(↑(k224 + 1):Int),(gd l223 k224).Total⟩:wAC)).length).bind fun _ =>
 if ((gd (nL l223 k224 (⟨(gd l223 k224).Bib,(↑(k224 + 1):Int),(gd l223 k224).Total⟩:wAC)) k224).Total)=((gd (nL l223 k224 (⟨(gd l223 k224).Bib,(↑(k224 + 1):Int),(gd l223 k224).Total⟩:wAC)) (w64 ((↑k224:Int) - 1)).toNat).Total) then
 some (nL (nL l223 k224 (⟨(gd l223 k224).Bib,(↑(k224 + 1):Int),(gd l223 k224).Total⟩:wAC)) k224 (⟨(gd (nL l223 k224 (⟨(gd l223 k224).Bib,(↑(k224 + 1):Int),(gd l223 k224).Total⟩:wAC)) k224).Bib,(gd (nL l223 k224 (⟨(gd l223 k224).Bib,(↑(k224 + 1):Int),(gd l223 k224).Total⟩:wAC)) (w64 ((↑k224:Int) - 1)).toNat).Place,(gd (nL l223 k224 (⟨(gd l223 k224).Bib,(↑(k224 + 1):Int),(gd l223 k224).Total⟩:wAC)) k224).Total⟩:wAC))
 else
 some (nL l223 k224 (⟨(gd l223 k224).Bib,(↑(k224 + 1):Int),(gd l223 k224).Total⟩:wAC))
 else
 some (nL l223 k224 (⟨(gd l223 k224).Bib,(↑(k224 + 1):Int),(gd l223 k224).Total⟩:wAC))) x206).bind fun y229 =>
 (app 24 y229 y57).bind fun x289 =>
 some (x289,y55)
def wBs (p0:wAI):Option ((List wAC) × Int) :=
 (wED p0).bind fun (x5,x6) =>
 match x5 with
 | none =>
  if x6=0 then
   none
  else
   some ([],x6)
 | some x28 =>
  if x6=0 then
   (wDv x28 []).bind fun x74 =>
   (wBU x28 (x28,[],x74)).bind fun (x106,x107) =>
   some (x106,0)
  else
   some ([],x6)
def wBd (p0:wAC) (p1:wAH):Option (Bool) :=
 some (decide (p0.Bib=p1.Bib))
def wAg (p0:List wAC) (p1:(wAC->Option Bool)):Option (Int) :=
 jn (wGa 0 (↑p0.length:Int) (fun k2 _ =>
 (idx p0 (↑k2:Int)).bind fun x22 =>
 (p1 x22).bind fun x30 =>
 if x30=true then
 esc (some (↑k2:Int))
 else
 some (.inl ())) ()) fun _ =>
 some (-1)
def wBc (p0:wAI) (p1:List wAC):Option ((List Int) × Bool) :=
 jn (wGa 0 (↑p0.Skiers.length:Int) (fun k22 l18 =>
 (idx p0.Skiers (↑k22:Int)).bind fun x45 =>
 (wAg p1 (fun x=>wBd x x45)).bind fun x68 =>
 if x68 < 0 then
 esc (some ([],false))
 else
 if (↑p1.length:Int) <= x68 then
 esc (some ([],false))
 else
 (idx p1 x68).bind fun x94 =>
 (app 8 l18 [max 0 x94.Place]).bind fun x107 =>
 some (.inl x107)) []) fun y122 =>
 some (y122,true)
def wCO (p0:Int) (p1:Int) (p2:Int):Option (Bool) :=
 if p1 <= p0 then
 some (decide (p0 <= p2))
 else
 some false
def wDa (p0:List Int) (p1:wAU):Option (Bool) :=
 some (decide ((↑p0.length:Int)=p1.Skiers))
def wCn (p0:List Int) (p1:((List Int)->Option Bool)):Option (Bool) :=
 (p1 p0).bind fun x1 =>
 some (!x1)
def wBR (p0:List (List Int)) (p1:((List Int)->Option Bool)):Option (Int) :=
 jn (wGa 0 (↑p0.length:Int) (fun k2 _ =>
 (idx p0 (↑k2:Int)).bind fun x22 =>
 (p1 x22).bind fun x35 =>
 if x35=true then
 esc (some (↑k2:Int))
 else
 some (.inl ())) ()) fun _ =>
 some (-1)
def wAo (p0:List (List Int)) (p1:((List Int)->Option Bool)):Option (Bool) :=
 (wBR p0 p1).bind fun x1 =>
 some (decide (0 <= x1))
def wDb (p0:List (List Int)) (p1:((List Int)->Option Bool)):Option (Bool) :=
 (wAo p0 (fun x=>wCn x p1)).bind fun x13 =>
 some (!x13)
def wCD (p0:Int) (p1:(Int->Option Bool)):Option (Bool) :=
 (p1 p0).bind fun x1 =>
 some (!x1)
def wAm (p0:List Int) (p1:(Int->Option Bool)):Option (Int) :=
 jn (wGa 0 (↑p0.length:Int) (fun k2 _ =>
 (idx p0 (↑k2:Int)).bind fun x22 =>
 (p1 x22).bind fun x30 =>
 if x30=true then
 esc (some (↑k2:Int))
 else
 some (.inl ())) ()) fun _ =>
 some (-1)
def wBJ (p0:List Int) (p1:(Int->Option Bool)):Option (Bool) :=
 (wAm p0 p1).bind fun x1 =>
 some (decide (0 <= x1))
def wCY (p0:List Int) (p1:(Int->Option Bool)):Option (Bool) :=
 (wBJ p0 (fun x=>wCD x p1)).bind fun x13 =>
 some (!x13)
def wDc (p0:Int):Option (Bool) :=
 (wCO p0 0 1000).bind fun x1 =>
 some x1
def wCo (p0:Int):Option (Bool) :=
 (wCO p0 0 60).bind fun x1 =>
 some x1
def wDd (p0:List Int):Option (Bool) :=
 (wCY p0 wCo).bind fun x2 =>
 some x2
def wCJ (p0:List Int) (p1:((Int × Int)->Option Int)):Option (Bool) :=
 iter (fun x4 =>
 if 0 < x4 then
 (idx p0 x4).bind fun x22 =>
 (idx p0 (w64 (x4 - 1))).bind fun x30 =>
 (p1 (x22,x30)).bind fun x37 =>
 if x37 < 0 then
 esc (some false)
 else
 some (.inl (w64 (x4 - 1)))
 else
 esc (some true)) big (w64 ((↑p0.length:Int) - 1))
def wEN (p0:Int) (p1:Int):Option (Int) :=
 (wAz p1 p0).bind fun x1 =>
 some x1
def wFf (p0:List Int):Option (Bool) :=
 (wCJ p0 (fun x=>wEN x.1 x.2)).bind fun x2 =>
 some x2
def wAt (p0:List Int):Option ((List Int)) :=
 (app 8 ([]:List Int) p0).bind fun x11 =>
 some x11
def wBL (p0:List Int) (p1:(Int->Option Bool)):Option ((List Int)) :=
 (wAm p0 p1).bind fun x9 =>
 if x9=(-1) then
 some p0
 else
 iter (fun (l35,x36,x37) =>
 if x37 < (↑l35.length:Int) then
 (chk x37 l35.length).bind fun _ =>
 (p1 (gd l35 x37.toNat)).bind fun x60 =>
 if x60=true then
 some (.inl (l35,x36,w64 (x37 + 1)))
 else
 (chk x36 l35.length).bind fun _ =>
 some (.inl ((nL l35 x36.toNat (gd l35 x37.toNat)),w64 (x36 + 1),w64 (x37 + 1)))
 else
 esc ((cut l35 0 x36).bind fun x91 =>
 some x91)) big (p0,x9,w64 (x9 + 1))
def wDe (p0:Int):Option (Bool) :=
 some (decide (p0=0))
def wBx (p0:List Int):Option (List Int):=wPx p0
def wDx (p0:List Int):Option (Bool) :=
 (wAt p0).bind fun x1 =>
 (wBL x1 wDe).bind fun x15 =>
 (wBx x15).bind fun x28 =>
 jn (wGa 0 (↑x28.length:Int) (fun k45 x44 =>
 (chk (↑k45:Int) x28.length).bind fun _ =>
 if (↑k45:Int)=0 then
 if (gd x28 k45) < x44 then
 esc (some true)
 else
 some (.inl (w64 ((gd x28 k45) + 1)))
 else
 (chk (w64 ((↑k45:Int) - 1)) x28.length).bind fun _ =>
 if (gd x28 k45)=(gd x28 (w64 ((↑k45:Int) - 1)).toNat) then
 some (.inl (w64 (x44 + 1)))
 else
 if (gd x28 k45) < x44 then
 esc (some true)
 else
 some (.inl (w64 ((gd x28 k45) + 1)))) 1) fun y99 =>
 some (decide (61 < y99))
def wEY (p0:wAU):Option (Int) :=
 (wCO p0.Skiers 1 12).bind fun x10 =>
 if x10=true then
 (wCO p0.Races 1 20).bind fun x23 =>
 if x23=true then
 (wCO p0.Best 1 p0.Races).bind fun x36 =>
 if x36=true then
 (wCO (↑p0.Points.length:Int) 1 60).bind fun x49 =>
 if x49=true then
 if p0.Races < (↑p0.Done.length:Int) then
 some 2
 else
 (wDb p0.Done (fun x=>wDa x p0)).bind fun x76 =>
 if x76=true then
 (wCY p0.Points wDc).bind fun x94 =>
 if x94=true then
 (wDb p0.Done wDd).bind fun x110 =>
 if x110=true then
 (wFf p0.Points).bind fun x125 =>
 if x125=true then
 (wAo p0.Done wDx).bind fun x141 =>
 if x141=true then
 some 7
 else
 some 0
 else
 some 4
 else
 some 3
 else
 some 3
 else
 some 2
 else
 some 2
 else
 some 3
 else
 some 3
 else
 some 3
def wCg (p0:wAU):Option (wAQ × Int) :=
 (wEY p0).bind fun x9 =>
 some ((⟨p0⟩:wAQ),x9)
def wBy (p0:wAQ) (p1:List (List Int)):Option (wAQ) :=
 (wAt p0.Cup.Points).bind fun x16 =>
 (wTj 24 (↑p0.Cup.Done.length:Int) (w64 ((↑p0.Cup.Done.length:Int) + (↑p1.length:Int))) ([]:List Int)).bind fun x32 =>
 (wPp x32 0 p0.Cup.Done).bind fun x48 =>
 (app 24 x48 p1).bind fun x58 =>
 (wCs 0 (↑x58.length:Int) (fun k85 l83 =>
 (idx l83 (↑k85:Int)).bind fun x108 =>
 (wAt x108).bind fun x122 =>
 (chk (↑k85:Int) l83.length).bind fun _ =>
 some (nL l83 k85 x122)) x58).bind fun y90 =>
 some (⟨(⟨p0.Cup.Skiers,p0.Cup.Races,p0.Cup.Best,x16,y90⟩:wAU)⟩:wAQ)
def wCw (p0:wAU) (p1:List (List Int)):Option (wAU × Int) :=
 (wCg p0).bind fun (x9,x10) =>
 if x10=0 then
 if 20 < (↑p1.length:Int) then
 some ((⟨0,0,0,[],[]⟩:wAU),2)
 else
 (wBy x9 p1).bind fun x42 =>
 (wEY x42.Cup).bind fun x79 =>
 if x79=0 then
 some (x42.Cup,0)
 else
 some ((⟨0,0,0,[],[]⟩:wAU),x79)
 else
 some ((⟨0,0,0,[],[]⟩:wAU),x10)
def wFV (p0:List Int):Option (Int) :=
 (wCs 0 (↑p0.length:Int) (fun k7 x6 =>
 (idx p0 (↑k7:Int)).bind fun x28 =>
 some (w64 (x6 + x28))) 0).bind fun y12 =>
 some y12
def wDV (p0:wAU) (p1:Int) (p2:Int):Option (Int) :=
 if (min (↑p0.Points.length:Int) (w64 ((w64 (p1 - 1)) + p2))) < p1 then
 some 0
 else
 (cut p0.Points (w64 (p1 - 1)) (min (↑p0.Points.length:Int) (w64 ((w64 (p1 - 1)) + p2)))).bind fun x8 =>
 (wFV x8).bind fun x20 =>
 some x20
def wCK (p0:wAU) (p1:List Int) (p2:Int):Option (Int) :=
 (idx p1 p2).bind fun x5 =>
 if x5=0 then
 some 0
 else
 (wCs 0 (↑p1.length:Int) (fun k21 x20 =>
 (idx p1 (↑k21:Int)).bind fun x44 =>
 if x44=x5 then
 some (w64 (x20 + 1))
 else
 some x20) 0).bind fun y26 =>
 (wDV p0 x5 y26).bind fun x73 =>
 (quo x73 y26).bind fun x83 =>
 some x83
def wBS (p0:Int) (p1:Int) (p2:wAQ) (p3:Int):Option (Int) :=
 (idx p2.Cup.Done p1).bind fun x3 =>
 (idx p2.Cup.Done p0).bind fun x15 =>
 (wCK p2.Cup x3 p3).bind fun x27 =>
 (wCK p2.Cup x15 p3).bind fun x40 =>
 (wAz x27 x40).bind fun x50 =>
 some x50
def wBG (p0:List Int) (p1:Int) (p2:Int) (p3:((Int × Int)->Option Int)):Option ((List Int)) :=
 iter (fun (l8,x9) =>
 if x9 < p2 then
 iter (fun (l34,x35) =>
 if p1 < x35 then
 (chk x35 l34.length).bind fun _ =>
 (chk (w64 (x35 - 1)) l34.length).bind fun _ =>
 (p3 ((gd l34 x35.toNat),(gd l34 (w64 (x35 - 1)).toNat))).bind fun x65 =>
 if x65 < 0 then
 (chk (w64 (x35 - 1)) (nL l34 x35.toNat (gd l34 (w64 (x35 - 1)).toNat)).length).bind fun _ =>
 some (.inl ((nL (nL l34 x35.toNat (gd l34 (w64 (x35 - 1)).toNat)) (w64 (x35 - 1)).toNat (gd l34 x35.toNat)),w64 (x35 - 1)))
 else
 esc (some (.inl (l34,w64 (x9 + 1))))
 else
 esc (some (.inl (l34,w64 (x9 + 1))))) big (l8,x9)
 else
 esc (some l8)) big (p0,w64 (p1 + 1))
def wCW (p0:List Int) (p1:Int) (p2:((Int × Int)->Option Int)):Option ((List Int)) :=
 (iter (fun (l16,x17,x18) =>
 if x18 <= p1 then
 (wBG l16 x17 x18 p2).bind fun x39 =>
 some (.inl (x39,x18,w64 (x18 + 20)))
 else
 esc (some (l16,x17))) big (p0,(0:Int),(20:Int))).bind fun (l2,x3) =>
 (wBG l2 x3 p1 p2).bind fun x71 =>
 iter (fun _ =>
 if 20 < p1 then
 (iter (fun _ =>
 if 40 <= p1 then
 none
 else
 esc (some ())) big ()).bind fun _ =>
 none
 else
 esc (some x71)) big ()
def wBO (p0:List Int) (p1:((Int × Int)->Option Int)):Option ((List Int)) :=
 (wCW p0 (↑p0.length:Int) p1).bind fun x2 =>
 some x2
def wCb (p0:wAQ) (p1:Int):Option ((List Int)) :=
 (wCs 0 (↑p0.Cup.Done.length:Int) (fun k37 l33 =>
 (app 8 l33 [(↑k37:Int)]).bind fun x66 =>
 some x66) []).bind fun y42 =>
 (wBO y42 (fun x=>wBS x.1 x.2 p0 p1)).bind fun x103 =>
 (cut x103 0 (min (↑x103.length:Int) p0.Cup.Best)).bind fun x115 =>
 (wBx x115).bind fun x126 =>
 some x126
def wBY (p0:wAQ) (p1:Int):Option (wCB) :=
 (wCb p0 p1).bind fun x15 =>
 (wCs 0 (↑x15.length:Int) (fun k34 x33 =>
 (chk (↑k34:Int) x15.length).bind fun _ =>
 (idx p0.Cup.Done (gd x15 k34)).bind fun x65 =>
 (wCK p0.Cup x65 p1).bind fun x81 =>
 (wFV [x33,x81]).bind fun x101 =>
 some x101) 0).bind fun y39 =>
 (wCs 0 (↑p0.Cup.Done.length:Int) (fun k136 a135 =>
 (idx p0.Cup.Done (↑k136:Int)).bind fun x159 =>
 (idx x159 p1).bind fun x174 =>
 if 0 < x174 then
 (chk x174 61).bind fun _ =>
 some (a135.set x174.toNat (w64 ((a135.get x174.toNat) + 1)))
 else
 some a135) (Arr.fill 61 0)).bind fun y141 =>
 some (⟨y39,y141⟩:wCB)
def wCU {S E:Type} (f:S->(Int × wCB)->Option (S ⊕ E)) (s0:S) (p1:wAQ) (p2:Int):Option (S ⊕ E) :=
 jn (wGa 0 p1.Cup.Skiers (fun k12 s10 =>
  if (↑k12:Int)=p2 then
   some (.inl s10)
  else
   (wBY p1 (↑k12:Int)).bind fun x43 =>
   (f s10 ((↑k12:Int),x43)).bind fun yr55 =>
   match yr55 with
   | .inl s65 =>
    some (.inl s65)
   | .inr s65 =>
    esc (some (.inr s65))) s0) fun y79 =>
 some (.inl y79)
def wDf (p0:wAQ) (p1:Int):Option (Unit) :=
 some ()
def wCQ (p0:wCB) (p1:wCB):Option (Bool) :=
 if p0=p1 then
 some (decide (p1.total < p0.total))
 else
 if p0.total=p1.total then
 if p0.places=p1.places then
 some false
 else
 jn (wGa 1 (60 + 1) (fun k22 _ =>
 (chk (1 + ↑k22:Int) 61).bind fun _ =>
 if (p0.places.get ((1 + ↑k22:Int).toNat))=(p1.places.get ((1 + ↑k22:Int).toNat)) then
 some (.inl ())
 else
 esc (some (decide ((p1.places.get ((1 + ↑k22:Int).toNat)) < (p0.places.get ((1 + ↑k22:Int).toNat)))))) ()) fun _ =>
 some false
 else
 some (decide (p1.total < p0.total))
def wBi (p0:wAQ) (p1:Int):Option (Int) :=
 (wBY p0 p1).bind fun x5 =>
 (wDf p0 p1).bind fun _ =>
 (wCU (S:=Int) (E:=Empty) (fun x115 x125 =>
  (wCQ x125.2 x5).bind fun x162 =>
  if x162=true then
   some (.inl (w64 (x115 + 1)))
  else
   some (.inl x115)) 1 p0 p1).bind fun rr117 =>
 match rr117 with
 | .inl y186 =>
  some y186
 | .inr e187 =>
  e187.elim
def wAr (p0:List wAN) (p1:Int) (p2:Int) (p3:((wAN × wAN)->Option Int)):Option ((List wAN)) :=
 iter (fun (l8,x9) =>
 if x9 < p2 then
 iter (fun (l34,x35) =>
 if p1 < x35 then
 (chk x35 l34.length).bind fun _ =>
 (chk (w64 (x35 - 1)) l34.length).bind fun _ =>
 (p3 ((gd l34 x35.toNat),(gd l34 (w64 (x35 - 1)).toNat))).bind fun x65 =>
 if x65 < 0 then
 (chk (w64 (x35 - 1)) (nL l34 x35.toNat (gd l34 (w64 (x35 - 1)).toNat)).length).bind fun _ =>
 some (.inl ((nL (nL l34 x35.toNat (gd l34 (w64 (x35 - 1)).toNat)) (w64 (x35 - 1)).toNat (gd l34 x35.toNat)),w64 (x35 - 1)))
 else
 esc (some (.inl (l34,w64 (x9 + 1))))
 else
 esc (some (.inl (l34,w64 (x9 + 1))))) big (l8,x9)
 else
 esc (some l8)) big (p0,w64 (p1 + 1))
def wBp (p0:List wAN) (p1:Int) (p2:((wAN × wAN)->Option Int)):Option ((List wAN)) :=
 (iter (fun (l16,x17,x18) =>
 if x18 <= p1 then
 (wAr l16 x17 x18 p2).bind fun x39 =>
 some (.inl (x39,x18,w64 (x18 + 20)))
 else
 esc (some (l16,x17))) big (p0,(0:Int),(20:Int))).bind fun (l2,x3) =>
 (wAr l2 x3 p1 p2).bind fun x71 =>
 iter (fun _ =>
 if 20 < p1 then
 (iter (fun _ =>
 if 40 <= p1 then
 none
 else
 esc (some ())) big ()).bind fun _ =>
 none
 else
 esc (some x71)) big ()
def wAl (p0:List wAN) (p1:((wAN × wAN)->Option Int)):Option ((List wAN)) :=
 (wBp p0 (↑p0.length:Int) p1).bind fun x2 =>
 some x2
def wCx (p0:wAN) (p1:wAN):Option (Int) :=
 (wAz p0.Rank p1.Rank).bind fun x9 =>
 some x9
def wEZ (p0:wAU):Option ((List wAN) × Int) :=
 (wCg p0).bind fun (x5,x6) =>
 if x6=0 then
 (wCs 0 x5.Cup.Skiers (fun k48 l44 =>
 (wBY x5 (↑k48:Int)).bind fun x73 =>
 (wBi x5 (↑k48:Int)).bind fun x98 =>
 (app 32 l44 [(⟨(↑k48:Int),x98,x73.total,(x73.places.get 1)⟩:wAN)]).bind fun x113 =>
 some x113) []).bind fun y53 =>
 (wAl y53 (fun x=>wCx x.1 x.2)).bind fun x141 =>
 some (x141,0)
 else
 some ([],x6)
def wBM (p0:List wAN) (p1:List wAN):Option (Bool) :=
 if (↑p0.length:Int)=(↑p1.length:Int) then
 jn (wGa 0 (↑p0.length:Int) (fun k4 _ =>
 (idx p0 (↑k4:Int)).bind fun x26 =>
 (idx p1 (↑k4:Int)).bind fun x34 =>
 if x26=x34 then
 some (.inl ())
 else
 esc (some false)) ()) fun _ =>
 some true
 else
 some false
def wCZ (p0:wAQ) (p1:Int):Option ((List Int)) :=
 (mkz 8 p0.Cup.Skiers (0:Int)).bind fun x1 =>
 (chk p1 x1.length).bind fun _ =>
 some (nL x1 p1.toNat 1)
def wDL (p0:wAQ) (p1:Int):Option ((List (List Int))) :=
 (wCs 0 (w64 (p0.Cup.Races - (↑p0.Cup.Done.length:Int))) (fun k41 l36 =>
 (wCZ p0 p1).bind fun x73 =>
 (app 24 l36 [x73]).bind fun x97 =>
 some x97) []).bind fun y46 =>
 some y46
def wCP (p0:wAQ) (p1:Int):Option (Bool) :=
 (wDL p0 p1).bind fun x7 =>
 (wBy p0 x7).bind fun x31 =>
 (wBi x31 p1).bind fun x61 =>
 some (decide (x61=1))
def wEe :Option (Unit) :=
 some ()
def wBe (p0:wDH) (p1:wAQ):Option ((List Int)) :=
 (wCs 0 p1.Cup.Skiers (fun k26 l22 =>
 (p0.is (p1,(↑k26:Int))).bind fun x52 =>
 if x52=true then
 (app 8 l22 [(↑k26:Int)]).bind fun x70 =>
 some x70
 else
 some l22) []).bind fun y31 =>
 some y31
def wCc (p0:wAQ) (p1:Int):Option ((List (List Int)) × Bool) :=
 jn (wGa 0 p0.Cup.Skiers (fun k6 _ =>
 (wDL p0 (↑k6:Int)).bind fun x28 =>
 if (↑k6:Int)=p1 then
 some (.inl ())
 else
 (wBy p0 x28).bind fun x55 =>
 (wBi x55 p1).bind fun x85 =>
 if 1 < x85 then
 esc (some (x28,true))
 else
 some (.inl ())) ()) fun _ =>
 some ([],false)
def wBz (p0:wAQ) (p1:Int):Option (Bool) :=
 (wCc p0 p1).bind fun (x5,x6) =>
 some (!x6)
def wEy :Option (Unit) :=
 some ()
def wDg (p0:wAU):Option (Int × Int × Int) :=
 (wCg p0).bind fun (x5,x6) =>
 if x6=0 then
 jn (wGa 0 (w64 ((↑x5.Cup.Done.length:Int) + 1)) (fun k32 _ =>
 (cut x5.Cup.Done 0 (↑k32:Int)).bind fun x60 =>
 (wEe).bind fun _ =>
 (wBe (⟨(fun x=>wCP x.1 x.2)⟩:wDH) (⟨(⟨x5.Cup.Skiers,x5.Cup.Races,x5.Cup.Best,x5.Cup.Points,x60⟩:wAU)⟩:wAQ)).bind fun x91 =>
 (wEy).bind fun _ =>
 (wBe (⟨(fun x=>wBz x.1 x.2)⟩:wDH) (⟨(⟨x5.Cup.Skiers,x5.Cup.Races,x5.Cup.Best,x5.Cup.Points,x60⟩:wAU)⟩:wAQ)).bind fun x118 =>
 if 0 < (↑x118.length:Int) then
 if (↑x91.length:Int)=1 then
 (chk 0 x118.length).bind fun _ =>
 esc (if (gd x118 0) < 0 then
 some (0,0,6)
 else
 some ((↑k32:Int),(gd x118 0),0))
 else
 some (.inl ())
 else
 some (.inl ())) ()) fun _ =>
 some (0,0,6)
 else
 some (0,0,x6)
def wDh (p0:wAQ):Option ((List Int)) :=
 (wCs 0 p0.Cup.Skiers (fun k22 l18 =>
 (wBY p0 (↑k22:Int)).bind fun x47 =>
 (app 8 l18 [x47.total]).bind fun x62 =>
 some x62) []).bind fun y27 =>
 some y27
def wEE (p0:wAU):Option ((List Int) × Int) :=
 (wCg p0).bind fun (x5,x6) =>
 if x6=0 then
 (wDh x5).bind fun x31 =>
 some (x31,0)
 else
 some ([],x6)
def wEu:Option Bool:=some true
def wCE (p0:List Int) (p1:List Int) (p2:Int) (p3:Int):Option (Bool) :=
 (wDS p0).bind fun x1 =>
 (wDS p1).bind fun x17 =>
 (wAX x1 1 4).bind fun (x33,x34) =>
 (wAX x34 1 x33).bind fun (x60,x61) =>
 (rem (w64 p2) 5).bind fun x92 =>
 jn (wGa 0 x33 (fun k254 (x217,x218,x219,l220,l223,x226,x227,x228,l229,l232,l235,x238,x239,x240,x241,x242,l243,l246,l249,x252,x253) =>
 (wCT (⟨l235,x238,x239⟩:wAE) 5 10).bind fun (x291,x292) =>
 (iter (fun (l354,l357,x360,x361) =>
 if (↑l354.length:Int) < 5 then
 (wAM (⟨l357,x360,x361⟩:wAE) 20).bind fun (x423,x424) =>
 (app 16 l354 [(⟨w64 ((w64 (3 * (↑l354.length:Int))) + 1),w64 (15000 + (w64 (50 * x423)))⟩:wAH)]).bind fun x443 =>
 some (.inl (x443,x424.bytes,x424.next,x424.state))
 else
 esc (some (l354,l357,x360,x361))) big (x291.Skiers,x292.bytes,x292.next,x292.state)).bind fun (l319,l322,x325,x326) =>
 ((wBj (⟨x291.Deadline,l319,x291.Decisions⟩:wAI)).bind fun x693 =>
 (wBj (⟨x291.Deadline,l319,x291.Decisions⟩:wAI)).bind fun x711 =>
 some (l319,x291.Decisions,x711.Deadline,x711.Skiers,x711.Decisions,x711.Deadline,x711.Skiers,x711.Decisions)).bind fun (l491,l494,x499,l500,l503,x508,l509,l512) =>
 (wBX (⟨l249,x252,x253⟩:wAE) (↑l494.length:Int)).bind fun (x1016,x1017) =>
 (wCs 0 (↑x1016.length:Int) (fun k1040 l1039 =>
 (chk (↑k1040:Int) x1016.length).bind fun _ =>
 (idx l494 (gd x1016 k1040)).bind fun x1081 =>
 (chk (↑k1040:Int) l1039.length).bind fun _ =>
 some (nL l1039 k1040 x1081)) l503).bind fun y1045 =>
 (if (↑k254:Int)=0 then
 (app 48 l512 [(⟨900,0,0,w64 ((w64 (3 * x92)) + 1),w64 p3,0⟩:wAA)]).bind fun x1138 =>
 some x1138
 else
 some l512).bind fun l1125 =>
 (idx [(⟨x291.Deadline,l491,l494⟩:wAI),(⟨x499,l500,y1045⟩:wAI),(⟨x508,l509,l1125⟩:wAI)] 0).bind fun x1224 =>
 (wBs x1224).bind fun (x1246,x1247) =>
 (wBc x1224 x1246).bind fun (x1269,x1270) =>
 if x1247=0 then
 if x1270=true then
 (wCw (⟨x240,x241,x242,l243,l246⟩:wAU) [x1269]).bind fun (x1357,x1358) =>
 if x1358=0 then
 (idx [(⟨x291.Deadline,l491,l494⟩:wAI),(⟨x499,l500,y1045⟩:wAI),(⟨x508,l509,l1125⟩:wAI)] 1).bind fun x1386 =>
 (wBs x1386).bind fun (x1414,x1415) =>
 (wBc x1386 x1414).bind fun (x1437,x1438) =>
 if x1415=0 then
 if x1438=true then
 (wCw (⟨x226,x227,x228,l229,l232⟩:wAU) [x1437]).bind fun (x1538,x1539) =>
 if x1539=0 then
 (idx [(⟨x291.Deadline,l491,l494⟩:wAI),(⟨x499,l500,y1045⟩:wAI),(⟨x508,l509,l1125⟩:wAI)] 2).bind fun x1567 =>
 (wBs x1567).bind fun (x1595,x1596) =>
 (wBc x1567 x1595).bind fun (x1638,x1639) =>
 if x1596=0 then
 if x1639=true then
 (wCw (⟨x217,x218,x219,l220,l223⟩:wAU) [x1638]).bind fun (x1733,x1734) =>
 if x1734=0 then
 (wEZ x1357).bind fun (x1797,x1798) =>
 (wEZ x1538).bind fun (x1825,x1826) =>
 if x1798=0 then
 if x1826=0 then
 (wBM x1797 x1825).bind fun x1854 =>
 if x1854=true then
 some (.inl (x1733.Skiers,x1733.Races,x1733.Best,x1733.Points,x1733.Done,x1538.Skiers,x1538.Races,x1538.Best,x1538.Points,x1538.Done,l322,x325,x326,x1357.Skiers,x1357.Races,x1357.Best,x1357.Points,x1357.Done,x1017.bytes,x1017.next,x1017.state))
 else
 esc (some false)
 else
 esc (some false)
 else
 esc (some false)
 else
 esc (some false)
 else
 esc (some false)
 else
 esc (some false)
 else
 esc (some false)
 else
 esc (some false)
 else
 esc (some false)
 else
 esc (some false)
 else
 esc (some false)
 else
 esc (some false)) (5,x33,x60,[30,24,19,15,12],[],5,x33,x60,[30,24,19,15,12],[],x61.bytes,x61.next,x61.state,5,x33,x60,[30,24,19,15,12],[],x17.bytes,x17.next,x17.state)) fun (y2045,y2046,y2047,y2048,y2049,y2050,y2051,y2052,y2053,y2054,y2055,y2056,y2057,y2058,y2059,y2060,y2061,y2062,y2063,y2064,y2065) =>
 (wDg (⟨y2058,y2059,y2060,y2061,y2062⟩:wAU)).bind fun (x2103,x2104,x2105) =>
 (wDg (⟨y2050,y2051,y2052,y2053,y2054⟩:wAU)).bind fun (x2117,x2118,x2119) =>
 (wEE (⟨y2058,y2059,y2060,y2061,y2062⟩:wAU)).bind fun (x2133,x2134) =>
 (wEE (⟨y2045,y2046,y2047,y2048,y2049⟩:wAU)).bind fun (x2153,x2154) =>
 if x2105=x2119 then
 if x2103=x2117 then
 if x2104=x2118 then
 if x2134=0 then
 if x2154=0 then
 if (↑x2133.length:Int)=5 then
 if (↑x2153.length:Int)=5 then
 (chk x92 x2153.length).bind fun _ =>
 (chk x92 x2133.length).bind fun _ =>
 if (gd x2153 x92.toNat) <= (gd x2133 x92.toNat) then
 (wEu).bind fun x2195 =>
 some x2195
 else
 some false
 else
 some false
 else
 some false
 else
 some false
 else
 some false
 else
 some false
 else
 some false
 else
 some false
end
end Go.Proofs.YtlkkhhcfemmmdaaGreat
namespace Go.KL
open Go.RowKit
theorem wJQ:∀ (xs ys:List Int),xs.length=ys.length->((nI xs.length).all fun i=>xs.getD i 0 == ys.getD i 0)=(xs == ys)
 | [],[],_=>rfl
 | x :: xs,y :: ys,h=>by
  have ih:=wJQ xs ys (by simpa using h)
  rw [kD,List.range_succ_eq_map,aD,List.all_map]
  simp only [List.getD_cons_zero,Function.comp_def,List.getD_cons_succ,ih]
  simp [List.cons_beq_cons]
 | [],_ :: _,h=>by simp at h
 | _ :: _,[],h=>by simp at h
section
variable {P:Program} (w:World)
theorem wHt (d:Nat) (t e:TypeId) (n:Nat) (ht:P.underlying t=some (.array n e)) (he:P.underlying e=some (.int .i64)) (hsz:∀ w,(sizeOf e).run P w=.ok 1 w)
  (xs ys:List Int) (hx:xs.length=n) (hy:ys.length=n) :
  (Op.equalIn (d + 2) t (.agg (nH KL.encI xs).toArray) (.agg (nH KL.encI ys).toArray)).run P w=.ok (xs == ys) w:=by
 have e1:∀ l:List Int,nH KL.encI l=l.map (nu .i64):=fun l=>by
  induction l with
  | nil=>rfl
  | cons a l ih=>rw [nJ,ih];rfl
 rw [e1,e1,<- wJQ xs ys (hx.trans hy.symm),hx,kz,Op.equalIn]
 simp only [Sem.run_bind,run_underlying ht,Result.andThen_ok,hsz,Std.Legacy.Range.forIn_eq_forIn_range',Std.Legacy.Range.size,Nat.sub_zero,Nat.add_sub_cancel,Nat.div_one]
 have hl:∀ i ∈ aL 0 n 1,i < n:=fun i hi=>by simpa using (List.mem_range'_1.1 hi).2
 generalize aL 0 n 1=l at hl ⊢
 induction l with
 | nil=>simp
 | cons i l ih =>
  have hi:i < n:=hl i (by simp)
  have px:(part e (xs.map (nu .i64)).toArray (i * 1)).run P w=.ok (.int .i64 (xs.getD i 0)) w:=by
   simp [part,isAgg,run_underlying he,List.getD,nE (show i < xs.length by omega)]
  have py:(part e (ys.map (nu .i64)).toArray (i * 1)).run P w=.ok (.int .i64 (ys.getD i 0)) w:=by
   simp [part,isAgg,run_underlying he,List.getD,nE (show i < ys.length by omega)]
  have pe:(Op.equalIn (d + 1) e (.int .i64 (xs.getD i 0)) (.int .i64 (ys.getD i 0))).run P w=.ok (xs.getD i 0 == ys.getD i 0) w:=run_equalIn_int w d e .i64 .i64 _ _ he
  simp only [List.forIn_cons,Sem.run_bind,px,py,pe,Result.andThen_ok,aD]
  cases hb:(xs.getD i 0 == ys.getD i 0)
  ·simp
  ·simp only [Bool.not_true,nW,if_false,Sem.run_pure,Result.andThen_ok,Bool.true_and]
   exact ih fun j hj=>hl j (by simp [hj])
theorem wGI (d:Nat) (t e:TypeId) (n:Nat) (ht:P.underlying t=some (.array n e)) (he:P.underlying e=some (.int .i64)) (hsz:∀ w,(sizeOf e).run P w=.ok 1 w) (x y:Arr Int n) :
  (Op.equalIn (d + 2) t (.agg (nH KL.encI x.l).toArray) (.agg (nH KL.encI y.l).toArray)).run P w=.ok (decide (x=y)) w:=by
 rw [wHt w d t e n ht he hsz x.l y.l x.h y.h]
 congr 1
 obtain ⟨x,hx⟩:=x
 obtain ⟨y,hy⟩:=y
 by_cases c:x=y
 ·subst c;simp
 ·have:¬ (⟨x,hx⟩:Arr Int n)=⟨y,hy⟩:=fun e=>c (by cases e;rfl)
  simp [c]
theorem wPz (cs:List Value) {k n:Nat} (hk:cs.length=k) (x:Arr Int n):((cs ++ nH KL.encI x.l).toArray.extract k (k + n))=(nH KL.encI x.l).toArray:=by
 have hl:(nH KL.encI x.l).length=n:=by rw [wAF (f:=KL.encI) (sz:=1) (fun _=>rfl),x.h,kY]
 apply aQ
 simp only [Array.toList_extract,List.extract_eq_take_drop]
 rw [List.drop_append_of_le_length (by omega),kB (by omega),kO,Nat.add_sub_cancel_left,kC (by omega)]
theorem wNK {α:Type} [DecidableEq α] {t ti ta e:TypeId} {n:Nat} {fs:Array Field} (f:α->Int) (g:α->Arr Int n) (hi:∀ x y,f x=f y->g x=g y->x=y) (hu:∀ w:World,(underlying t).run P w=.ok (.struct fs) w) (hs:P.stoodInHeld t=false)
  {f0 f1 : Field} (hf : fs.toList = [f0, f1]) (n0 : f0.name ≠ "_") (n1 : f1.name ≠ "_") (o0 : f0.offset = 0) (o1 : f1.offset = 1) (t0 : f0.type = ti) (t1 : f1.type = ta) (h0 : P.underlying ti = some (.int .i64)) (h1 : P.underlying ta = some (.array n e)) (he : P.underlying e = some (.int .i64))
  (hsz:∀ w,(sizeOf e).run P w=.ok 1 w) (hsa:∀ w,(sizeOf ta).run P w=.ok n w) (d:Nat) (x y:α) :
  (Op.equalIn (d + 3) t (.agg (([nu .i64 (f x)]:List Value) ++ nH KL.encI (g x).l).toArray) (.agg (([nu .i64 (f y)]:List Value) ++ nH KL.encI (g y).l).toArray)).run P w=.ok (decide (x=y)) w:=by
 rw [run_equalIn_agg w (d + 2) t _ _ (wJP hu) hs,wGn hu,hf]
 have pa:∀ (z:α) (w:World),(part ta (([nu .i64 (f z)]:List Value) ++ nH KL.encI (g z).l).toArray 1).run P w=.ok (.agg (nH KL.encI (g z).l).toArray) w:=fun z w=>by
  have:=wPz [.int .i64 (f z)] (k:=1) rfl (g z)
  simp only [part,isAgg,Sem.run_bind,run_underlying h1,Result.andThen_ok,Sem.run_pure,hsa,if_true]
  rw [this]
 have pi:∀ (z:α) (w:World),(part ti (([nu .i64 (f z)]:List Value) ++ nH KL.encI (g z).l).toArray 0).run P w=.ok (.int .i64 (f z)) w:=fun z w=>by
  simp [part,isAgg,run_underlying h0]
 have ea:=fun w=>wGI (P:=P) w d ta e n h1 he hsz (g x) (g y)
 simp only [Op.eqFields,n0,n1,o0,o1,t0,t1,ne_eq,not_false_eq_true,if_true,Sem.run_bind,Sem.run_ite,Sem.run_pure,pi,pa,Result.andThen_ok,run_equalIn_int w (d + 1) ti .i64 .i64 _ _ h0,ea]
 by_cases c0:f x=f y
 ·by_cases c1:g x=g y
  ·have:=hi x y c0 c1
   simp [c0,c1,this]
  ·have:x ≠ y:=fun e=>c1 (by rw [e])
   simp [c0,c1,this]
 ·have:x ≠ y:=fun e=>c0 (by rw [e])
  simp [c0,this]
end
theorem CK.cutT {P:Program} {r:Option Nat} {N:Nat} {Q:wDr} {D:List Deferred} {σ:Env} {w:World} {x:Code} {K:List Deferred->Env->World->Prop} (M:Env->World->Prop) (h1:CK r N P x (wGC (fun D' σ w=>D'=D/\M σ w) Q) D σ w)
  (h2:∀ σ w,M σ w->K D σ w):CK r N P x (wGC K Q) D σ w :=
 h1.mono fun D' e σ w q=>by
  cases e with
  | normal=>obtain ⟨rfl,hm⟩:=q;exact h2 _ _ hm
  | _=>exact q
theorem St.cutb {B:Base} {U U':PHeap} {L:List Res} {w:World} (h:St B U' L w) (l:PHeap.Le U U') (hb:PHeap.Le B.U U):St B U L w :=
 ⟨h.os,h.tape,h.output,h.size,h.old,fun b o ho=>h.fro b o (l b o ho),hb,fun b o ho=>h.src b o (l b o ho),h.at_,fun r hr b hx=>by
  refine ⟨?_,(h.own r hr b hx).2⟩
  have h1:=(h.own r hr b hx).1
  cases e:U b with
  | none=>rfl
  | some o=>exact absurd ((l b o e).symm.trans h1) (by simp),h.dj⟩
section
variable {P:Program} {N:Nat} {Q:wDr} {D:List Deferred} {l:List Oper} {ks:List Nat} {i d:Nat} {o:Oper} {s:Sch} {B:Base} {U:PHeap} {L:List Res} {σ:Env} {w:World}
theorem wKb {α:Type} {by_:Nat} {n c:Int} {z:α} {xs:List α} (hm:wTj by_ n c z=some xs):0 <= n/\n <= c/\c <= 16777216/\(by_:Int) * c <= 281474976710656/\xs=nO n.toNat z:=by
 unfold wTj at hm
 split at hm
 ·rename_i h;cases hm;exact ⟨h.1,h.2.1,h.2.2.1,h.2.2.2,rfl⟩
 ·cases hm
theorem RlL.madeC {α:Type} {R:Rl α} {z:α} {v:Value} {by_:Nat} {n c:Int} {xs:List α} (h:R.r U z [v]) (hm:wTj by_ n c z=some xs):RlL U R xs (nO xs.length v):=by
 obtain ⟨_,_,_,_,rfl⟩:=wKb hm
 rw [kH]
 generalize n.toNat=k
 induction k with
 | zero=>exact RlL.nil
 | succ k ih=>rw [nr,nr];exact RlL.cons h ih
theorem OKS.makeSliceCR {α:Type} {t e:TypeId} {inf:TypeInfo} {x y:Operand} {n c:Int} {v:Value} {z:α} {xs:List α} (ho:l[i]?=some o) (hd:o.dst=some d) (hN:nP d N=true) (hw:wanted l σ o=true) (hop:o.op=.makeSlice t x y)
  (ht:P.underlying t=some (.slice e)) (hi:P.info? e=some inf) (hz:inf.zero=some v) (hc:v.cells=#[v]) (hs:inf.size=1) (hx:ev σ x=.int .i64 n) (hy:ev σ y=.int .i64 c) (hm:wTj inf.bytes n c z=some xs) (hS:St B U L w)
  (k:∀ w' b,St B U (.row (some ⟨b,0,none⟩) c.toNat e 1 (nO xs.length v) :: L) w'->OKS N P l Q D ks s (upd σ d (.slice (some ⟨b,0,none⟩) xs.length c.toNat)) w'):OKS N P l Q D ks (.fx i s .stop) σ w:=by
 obtain ⟨h0,h1,h2,h3,rfl⟩:=wKb hm
 obtain ⟨a,rfl⟩:=na h0
 obtain ⟨b,rfl⟩:=na (Int.le_trans h0 h1)
 have hr:=run_makeSlice (P:=P) w t e inf _ ht hi hz .i64 .i64 (a:Int) (b:Int) (by omega) (by omega) (by rw [hs,ni];omega) h3 (by omega)
 simp only [hs,ni,kY,hc,wHB] at hr
 simp only [ni,kH] at k
 have hmax:b <= maxLen:=by
  have h16:(16777216:Nat) <= maxLen:=by decide
  omega
 have hab:a <= b:=by omega
 refine OKS.v (v:=.slice (some ⟨w.heap.size,0,none⟩) a b) (w':=w.alloc (.cells (nO b v).toArray e)) ho hd hN hw ⟨by rw [hop];rfl,?_⟩ (.inr (wAq w _))
  (k _ _ (hS.new (wAq w _) (.inr ⟨_,(nO b v).toArray,rfl,wEg w _ e,by simp [hab],hmax,by simp,by simp [List.take_replicate,nt hab]⟩) rfl (nS _)))
 simp [execOp,hop,hx,hy,hr,Result.andThen]
theorem RlL.take {α:Type} {R:Rl α} {xs:List α} {cs:List Value} (h:RlL U R xs cs) (h1:R.sz=1) (n:Nat):RlL U R (xs.take n) (cs.take n)/\RlL U R (xs.drop n) (cs.drop n):=by
 obtain ⟨vss,g1,g2,rfl⟩:=h
 have hl:∀ vs ∈ vss,vs.length=1:=fun vs hv=>by obtain ⟨x,hx⟩:=RlL.each g1 g2 vs hv;rw [R.len _ _ _ hx,h1]
 have e:∀ (us:List (List Value)) (n:Nat),(∀ vs ∈ us,vs.length=1)->(us.take n).flatten=us.flatten.take n/\(us.drop n).flatten=us.flatten.drop n:=by
  intro us
  induction us with
  | nil=>intro n _;simp
  | cons u us ih =>
   intro n hu
   cases n with
   | zero=>simp
   | succ n =>
    obtain ⟨a,rfl⟩:=kx.1 (hu u (.head _))
    have:=ih n fun vs hv=>hu vs (.tail _ hv)
    simp [this.1,this.2]
 refine ⟨⟨vss.take n,by simp [g1],fun i x vs hx hv=>?_,(e vss n hl).1.symm⟩,⟨vss.drop n,by simp [g1],fun i x vs hx hv=>?_,(e vss n hl).2.symm⟩⟩
 ·rw [kZ] at hx hv
  split at hx
  ·rename_i c;rw [if_pos c] at hv;exact g2 i x vs hx hv
  ·cases hx
 ·rw [ka] at hx hv
  exact g2 _ x vs hx hv
theorem RlL.el1 {α:Type} {R:Rl α} {xs:List α} {cs:List Value} (h:RlL U R xs cs) (h1:R.sz=1) {k:Nat} {x:α} (hx:xs[k]?=some x):∃ vs,R.r U x vs/\∀ v,vs=[v]->cs[0 + k * 1]?=some v:=by
 obtain ⟨vss,g1,g2,rfl⟩:=h
 have hlt:=(nD.1 hx).1
 have hv:vss[k]?=some (vss[k]'(by omega)):=nE (by omega)
 refine ⟨_,g2 k x _ hx hv,fun v e=>?_⟩
 have:=wHb (sz:=1) (fun vs hv=>by obtain ⟨y,hy⟩:=RlL.each g1 g2 vs hv;rw [R.len _ _ _ hy,h1]) k 0 _ v hv (by rw [e];rfl)
 rwa [aH,<- nX (k * 1)] at this
theorem wRo {α:Type} {l:List α} {i:Int} {x:α} (h:idx l i=some x):chk i l.length=some ():=wDA (wFJ h) (wFT h)
theorem RlL.set1 {α:Type} {R:Rl α} {xs:List α} {cs:List Value} (h:RlL U R xs cs) (h1:R.sz=1) {k:Nat} {x:α} {v:Value} (hx:R.r U x [v]):RlL U R (xs.set k x) (cs.set (0 + k * 1) v):=by
 obtain ⟨vss,g1,g2,rfl⟩:=h
 rw [nX,kY]
 have hl:∀ vs ∈ vss,vs.length=1:=fun vs hv=>by obtain ⟨x,hx⟩:=RlL.each g1 g2 vs hv;rw [R.len _ _ _ hx,h1]
 have e:∀ (us:List (List Value)) (n:Nat),(∀ vs ∈ us,vs.length=1)->us.flatten.set n v=(us.set n [v]).flatten:=by
  intro us
  induction us with
  | nil=>intro n _;simp
  | cons u us ih =>
   intro n hu
   obtain ⟨a,rfl⟩:=kx.1 (hu u (.head _))
   cases n with
   | zero=>simp
   | succ n=>simp [ih n fun vs hv=>hu vs (.tail _ hv)]
 refine ⟨vss.set k [v],by simp [g1],fun i y vs hy hv=>?_,e vss k hl⟩
 rw [List.getElem?_set] at hy hv
 split at hy
 ·rename_i c
  rw [if_pos c] at hv
  split at hy
  ·split at hv
   ·cases hy;cases hv;exact hx
   ·cases hv
  ·cases hy
 ·rename_i c
  rw [if_neg c] at hv
  exact g2 i y vs hy hv
theorem OKS.copyRel {α:Type} {R:Rl α} {x y:Operand} {tys:Array TypeId} {t e c c2 b0 j c0 T:Nat} {A A2:Option Addr} {m ys z:List α} {cs ds:List Value} (ho:l[i]?=some o) (hd:o.dst=some d) (hN:nP d N=true) (hw:wanted l σ o=true)
  (hop:o.op=.call { callee:=.builtin .copy,args:=#[x,y],argTypes:=tys }) (ht0:tys[0]?=some t) (ht:∀ w,(underlying t).run P w=.ok (.slice e) w) (hsz:∀ w,(sizeOf e).run P w=.ok 1 w) (hR:R.sz=1) (hS:St B U L w) (hk:L[j]?=some (.row A c0 T 1 cs))
  (hA:A=some ⟨b0,0,none⟩) (hm:RlL U R m cs) (hz:wPp m 0 ys=some z) (hx:ev σ x=.slice A m.length c) (hy:ev σ y=.slice A2 ys.length c2) (hds:RlL U R ys ds) (hsrc:ys.length=0 \/ ∃ a,A2=some a/\∀ j u,ds[j]?=some u->w.cell? (a.add j)=some u) (hne:wGD (kOf ks i)=false)
  (kk:∀ w' cs',St B U (L.set j (.row A c0 T 1 cs')) w'->RlL U R z cs'->z.length=m.length->OKS N P l Q D ks s (upd σ d (.int .i64 ((min ys.length m.length:Nat):Int))) w'):OKS N P l Q D ks (.fx i s .stop) σ w:=by
 have hl1:=hm.len
 have hl2:=hds.len
 rw [hR,kY] at hl1 hl2
 have hzl:=wMR hz
 obtain ⟨_,_,rfl⟩:=wLb hz
 have hN':(ds.take m.length).length=min ys.length m.length:=by rw [kE,hl2,Nat.min_comm]
 refine OKS.copyR (cs:=cs) (NS:=ds.take m.length) (off:=0) (k:=min ys.length m.length) ho hd hN hw hop ht0 ht hsz hS hk hA hx (.inr hA) hy rfl (by rw [hN',kY]) ?_ ?_ ?_ rfl hne fun w' h'=>kk w' _ h' ?_ hzl
 ·rcases hsrc with h | ⟨ad,h,h'⟩
  ·left;rw [h,Nat.zero_min]
  ·right
   refine ⟨ad,h,fun q u hu=>h' q u ?_⟩
   rw [kZ] at hu
   split at hu
   ·exact hu
   ·cases hu
 ·rw [nV]
  intro u hu
  exact hds.one u (List.mem_of_mem_take hu)
 ·rw [hN',nX,hl1];exact Nat.min_le_right _ _
 ·have e1:wEw cs 0 (ds.take m.length)=ds.take m.length ++ cs.drop ys.length:=by
   rw [setN_eq _ _ _ (by rw [hN',hl1];omega),List.take_zero,kO,nX,hN']
   congr 1
   rcases Nat.le_total ys.length m.length with q | q
   ·rw [nt q]
   ·rw [Nat.min_eq_right q,kB (by rw [hl1];exact nS _),kB (by rw [hl1];exact q)]
  rw [e1]
  unfold cpy
  simp only [Int.toNat_zero,List.take_zero,kO,Nat.sub_zero,nX]
  exact (hds.take hR _).1.append (hm.take hR _).2
end
section
variable {B:Base} {U U':PHeap} {L:List Res} {w w':World}
theorem Res.At.agree {w2:World} {r:Res} (h:r.At w) (he:∀ b,r.has b->w2.heap[b]?=w.heap[b]?):r.At w2:=by
 cases r with
 | blk b T cs=>exact (he b rfl).trans h
 | obj b o=>exact (he b rfl).trans h
 | abs fp P=>exact ⟨h.2.2 w2 he,fun b hb=>wAi ((he b hb).trans (Array.getElem?_eq_getElem (h.2.1 b hb))),fun w3 h3=>h.2.2 w3 fun b hb=>(h3 b hb).trans (he b hb)⟩
 | row A c T sz cs =>
  rcases h with h | ⟨b,cur,rfl,h1,h2⟩
  ·exact .inl h
  ·exact .inr ⟨b,cur,rfl,(he b rfl).trans h1,h2⟩
def DjL (rs:List Res):Prop:=∀ (i j:Nat) (r s:Res) (b:Nat),rs[i]?=some r->rs[j]?=some s->r.has b->s.has b->i=j
def pack (p:Prop) (rs:List Res):Res:=.abs (fun b=>∃ r ∈ rs,r.has b) (fun w=>p/\(∀ r ∈ rs,r.At w)/\DjL rs)
theorem wRp {p:Prop} {rs:List Res} (hp:p) (ha:∀ r ∈ rs,r.At w) (hd:DjL rs):(pack p rs).At w :=
 ⟨⟨hp,ha,hd⟩,fun b ⟨r,hr,hb⟩=>(ha r hr).lt hb,fun w2 h2=>⟨hp,fun r hr=>(ha r hr).agree fun b hb=>h2 b ⟨r,hr,hb⟩,hd⟩⟩
theorem wOD {α:Type} {X Y:List α} {i:Nat} {r:α} (h:(X ++ Y)[i]?=some r):X[i]?=some r \/ (X.length <= i/\Y[i - X.length]?=some r):=by
 rcases kP i X.length with h1 | h1
 ·rw [nZ h1] at h;exact .inl h
 ·rw [ke h1] at h;exact .inr ⟨h1,h⟩
theorem St.unpack {p:Prop} {rs:List Res} (h:St B U (pack p rs :: L) w):p/\St B U (rs ++ L) w:=by
 obtain ⟨⟨hp,ha,hd⟩,_⟩:=h.at_ _ (kb ..)
 have ho:=h.own _ (kb ..)
 refine ⟨hp,h.os,h.tape,h.output,h.size,h.old,h.fro,h.le,h.src,fun r hr=>?_,fun r hr b hb=>?_,fun i j r s b hi hj hr hs=>?_⟩
 ·rcases nc.1 hr with hr | hr
  ·exact ha r hr
  ·exact h.at_ r (aA _ hr)
 ·rcases nc.1 hr with hr | hr
  ·exact ho b ⟨r,hr,hb⟩
  ·exact h.own r (aA _ hr) b hb
 ·rcases wOD hi with hi | ⟨h1,hi⟩ <;> rcases wOD hj with hj | ⟨h2,hj⟩
  ·exact hd i j r s b hi hj hr hs
  ·have:=h.dj 0 (j - rs.length + 1) _ s b rfl (by simpa using hj) ⟨r,nM hi,hr⟩ hs;omega
  ·have:=h.dj (i - rs.length + 1) 0 r _ b (by simpa using hi) rfl hr ⟨s,nM hj,hs⟩;omega
  ·have:=h.dj (i - rs.length + 1) (j - rs.length + 1) r s b (by simpa using hi) (by simpa using hj) hr hs;omega
theorem St.pack {p:Prop} {rs:List Res} (hp:p) (h:St B U (rs ++ L) w):St B U (pack p rs :: L) w:=by
 refine ⟨h.os,h.tape,h.output,h.size,h.old,h.fro,h.le,h.src,fun r hr=>?_,fun r hr b hb=>?_,fun i j r s b hi hj hr hs=>?_⟩
 ·rcases nb.1 hr with rfl | hr
  ·refine wRp hp (fun r hr=>h.at_ r (aB _ hr)) fun i j r s b hi hj hr hs=>?_
   exact h.dj i j r s b (by rw [nZ (nD.1 hi).1];exact hi) (by rw [nZ (nD.1 hj).1];exact hj) hr hs
  ·exact h.at_ r (ky _ hr)
 ·rcases nb.1 hr with rfl | hr
  ·obtain ⟨r,hr,hb⟩:=hb
   exact h.own r (aB _ hr) b hb
  ·exact h.own r (ky _ hr) b hb
 ·have up:∀ (q:Nat) (t:Res),L[q]?=some t->(rs ++ L)[rs.length + q]?=some t:=fun q t hq=>by rw [ke (by omega)];simpa using hq
  have lo:∀ (q:Nat) (t:Res),rs[q]?=some t->(rs ++ L)[q]?=some t:=fun q t hq=>by rw [nZ (nD.1 hq).1];exact hq
  cases i with
  | zero =>
   simp only [ko,ny] at hi;subst hi
   cases j with
   | zero=>rfl
   | succ j =>
    obtain ⟨r,hr,hb⟩:=hr
    obtain ⟨q,hq⟩:=aC hr
    have:=h.dj q (rs.length + j) r s b (lo q r hq) (up j s (by simpa using hj)) hb hs
    have:=(nD.1 hq).1;omega
  | succ i =>
   cases j with
   | zero =>
    simp only [ko,ny] at hj;subst hj
    obtain ⟨s,hs,hb⟩:=hs
    obtain ⟨q,hq⟩:=aC hs
    have:=h.dj (rs.length + i) q r s b (up i r (by simpa using hi)) (lo q s hq) hr hb
    have:=(nD.1 hq).1;omega
   | succ j =>
    have:=h.dj (rs.length + i) (rs.length + j) r s b (up i r (by simpa using hi)) (up j s (by simpa using hj)) hr hs;omega
structure Hd where
 A:Option Addr
 n:Nat
 c:Nat
instance:Inhabited Hd:=⟨⟨none,0,0⟩⟩
variable {α:Type} {T sz:Nat} {enc:α->List Value} {hs hs2:List Hd} {m m2:List (List α)}
def inR (T sz:Nat) (enc:α->List Value) (h:Hd) (l:List α):Res:=.row h.A h.c T sz (nH enc l)
theorem St.swap {r s:Res} (h:St B U (r :: s :: L) w):St B U (s :: r :: L) w:=by
 have:=h.front (k:=1) (r:=s) rfl
 exact this
theorem wHd {β:Type}:∀ {l:List β} {i:Nat} (h:i < l.length),(l[i] :: l.eraseIdx i).Perm l
 | a :: l,0,_=>kS _
 | a :: l,i + 1,h=>by
  have hi:i < l.length:=by simpa using h
  simp only [List.getElem_cons_succ,List.eraseIdx_cons_succ]
  exact (kU a l[i] _).trans ((wHd hi).cons a)
theorem wRF (L:List Res):DjL L ↔ L.Pairwise (fun r s=>∀ b,r.has b->¬ s.has b):=by
 rw [ki]
 constructor
 ·intro h i j hi hj hij b h1 h2
  have:=h i j _ _ b (nE hi) (nE hj) h1 h2
  omega
 ·intro h i j r s b hi hj h1 h2
  obtain ⟨hi',rfl⟩:=nD.1 hi
  obtain ⟨hj',rfl⟩:=nD.1 hj
  rcases Nat.lt_trichotomy i j with q | q | q
  ·exact absurd h2 (h i j hi' hj' q b h1)
  ·exact q
  ·exact absurd h1 (h j i hj' hi' q b h2)
theorem St.perm {L':List Res} (h:St B U L w) (p:L.Perm L'):St B U L' w :=
 ⟨h.os,h.tape,h.output,h.size,h.old,h.fro,h.le,h.src,fun r hr=>h.at_ r (p.mem_iff.2 hr),fun r hr=>h.own r (p.mem_iff.2 hr),
  (wRF L').2 ((p.pairwise_iff fun hab b h1 h2=>hab b h2 h1).1 ((wRF L).1 h.dj))⟩
end
section
variable {K V:Type} [DecidableEq K] {P:Program} {σ:Env} {o:Oper} {B:Base} {U U':PHeap} {L:List Res} {w:World} {m ck:Nat} {es:Array MapEntry} {mk:K->Value} {mv:V->Value} {t:List (K × V)}
def MpF {K V:Type} (U:PHeap) (m:Nat) (es:Array MapEntry) (ck:Nat) (mk:K->Value) (mv:V->Value) (l:List (K × V)):Prop:=U m=some (.map es ck)/\MpR es mk mv l
theorem MpF.le {K V:Type} {mk:K->Value} {mv:V->Value} {t:List (K × V)} (h:MpF U m es ck mk mv t) (l:PHeap.Le U U'):MpF U' m es ck mk mv t:=⟨l _ _ h.1,h.2⟩
theorem St.freezeM {K V:Type} {mk:K->Value} {mv:V->Value} {t:List (K × V)} (h:St B U L w) {k:Nat} (hk:L[k]?=some (.obj m (.map es ck))) (hr:MpR es mk mv t) :
  ∃ U',PHeap.Le U U'/\MpF U' m es ck mk mv t/\St B U' (L.eraseIdx k) w:=by
 obtain ⟨U',h1,h2,h3⟩:=h.freezeO hk
 exact ⟨U',h1,⟨h2,hr⟩,h3⟩
theorem St.lookupF1 {mt kt et:TypeId} {x y:Operand} {a:K} {z:V} (hS:St B U L w) (hF:MpF U m es ck mk mv t) (hop:o.op=.lookup mt x y false) (hx:ev σ x=.map (some m)) (hy:ev σ y=mk a)
  (hu:P.underlying mt=some (.map kt et)) (R:KeyR P kt mk) (hz:∀ w,(zeroValue et).run P w=.ok (mv z) w):wFb P σ w o (mv (wAk t a z)):=by
 intro w' kw
 refine ⟨by rw [hop];rfl,?_⟩
 have hf:=R.find mv es.toList t a w' hF.2
 have hm:=(hS.grow kw).fro _ _ hF.1
 have hg:=wFc t a 0
 unfold wAk
 simp [execOp,hop,hx,hy,Instr.lookup,run_underlying hu,MapKept.run_getObj_map hm,R.chk,hf,Result.andThen,<- hg]
 cases e:wEB t a 0 <;> simp [hz,Result.andThen]
end
section
variable {B:Base} {U:PHeap} {L:List Res} {w:World} {α:Type} {T sz:Nat} {enc:α->List Value} {hs:List (Int × Hd)} {m:List (Int × List α)}
def hdV (h:Hd):Value:=.slice h.A h.n h.c
def hdO (hs:List (Int × Hd)) (a:Int):Hd:=wAk hs a ⟨none,0,0⟩
def KF:List (Int × Hd)->List (Int × List α)->Prop
 | [],[]=>True
 | h :: hs,x :: m=>h.1=x.1/\h.2.n=x.2.length/\KF hs m
 | _,_=>False
def wIT (T sz:Nat) (enc:α->List Value):List (Int × Hd)->List (Int × List α)->List Res
 | h :: hs,x :: m=>inR T sz enc h.2 x.2 :: wIT T sz enc hs m
 | _,_=>[]
def wIU (T sz:Nat) (enc:α->List Value) (a:Int):List (Int × Hd)->List (Int × List α)->List Res
 | h :: hs,x :: m=>if a=x.1 then wIT T sz enc hs m else inR T sz enc h.2 x.2 :: wIU T sz enc a hs m
 | _,_=>[]
theorem wHe (a:Int):∀ {hs:List (Int × Hd)} {m:List (Int × List α)},KF hs m->(hdO hs a).n=(wAk m a []).length /\
  ((wIT T sz enc hs m).Perm (inR T sz enc (hdO hs a) (wAk m a []) :: wIU T sz enc a hs m) \/ wIU T sz enc a hs m=wIT T sz enc hs m/\hdO hs a=⟨none,0,0⟩/\wAk m a []=[])
 | [],[],_=>⟨rfl,.inr ⟨rfl,rfl,rfl⟩⟩
 | [],_ :: _,h=>h.elim
 | _ :: _,[],h=>h.elim
 | (k,h) :: hs,(k',l) :: m,p=>by
  obtain ⟨e,e2,p⟩:=p
  have e:k=k':=e
  subst e
  have ih:=wHe a p
  by_cases c:a=k
  ·subst c
   have h1:hdO ((a,h) :: hs) a=h:=by simp [hdO,wAk,wGV]
   have h2:wAk ((a,l) :: m) a []=l:=by simp [wAk,wGV]
   rw [h1,h2]
   refine ⟨e2,.inl ?_⟩
   simp only [wIT,wIU,if_pos]
   exact kS _
  ·have h1:hdO ((k,h) :: hs) a=hdO hs a:=by simp [hdO,wAk,wGV,c]
   have h2:wAk ((k,l) :: m) a []=wAk m a []:=by simp [wAk,wGV,c]
   rw [h1,h2]
   refine ⟨ih.1,?_⟩
   simp only [wIT,wIU,if_neg c]
   rcases ih.2 with h | ⟨h,h3⟩
   ·exact .inl ((h.cons _).trans (kU _ _ _))
   ·exact .inr ⟨by rw [h],h3⟩
theorem wKc (a:Int) (A:Option Addr) (c:Nat) (l:List α):∀ {hs:List (Int × Hd)} {m:List (Int × List α)},KF hs m->KF (mput hs a ⟨A,l.length,c⟩) (mput m a l) /\
  (inR T sz enc ⟨A,l.length,c⟩ l :: wIU T sz enc a hs m).Perm (wIT T sz enc (mput hs a ⟨A,l.length,c⟩) (mput m a l))
 | [],[],_=>⟨⟨rfl,rfl,trivial⟩,kS _⟩
 | [],_ :: _,h=>h.elim
 | _ :: _,[],h=>h.elim
 | (k,h) :: hs,(k',l') :: m,p=>by
  obtain ⟨e,e2,p⟩:=p
  have e:k=k':=e
  subst e
  have ih:=wKc a A c l p
  by_cases d:a=k
  ·simp only [mput,if_pos d,wIT,wIU]
   exact ⟨⟨rfl,rfl,p⟩,kS _⟩
  ·simp only [mput,if_neg d,wIT,wIU]
   exact ⟨⟨rfl,e2,ih.1⟩,(kU _ _ _).trans (ih.2.cons _)⟩
def wEa (b:Nat) (es:Array MapEntry) (ck:Nat) (T sz:Nat) (enc:α->List Value) (mk:Int->Value) (hs:List (Int × Hd)) (m:List (Int × List α)):Res :=
 pack (MpR es mk hdV hs/\KF hs m) (.obj b (.map es ck) :: wIT T sz enc hs m)
def wJR (b:Nat) (es:Array MapEntry) (ck:Nat) (T sz:Nat) (enc:α->List Value) (mk:Int->Value) (hs:List (Int × Hd)) (m:List (Int × List α)) (a:Int):Res :=
 pack (MpR es mk hdV hs/\KF hs m) (.obj b (.map es ck) :: wIU T sz enc a hs m)
variable {b ck:Nat} {es:Array MapEntry} {mk:Int->Value}
theorem St.mrows0 (T sz:Nat) (enc:α->List Value) (mk:Int->Value) (h:St B U (.obj b (.map #[] ck) :: L) w):St B U (wEa b #[] ck T sz enc mk [] [] :: L) w :=
 St.pack ⟨MpR.nil _ _,trivial⟩ h
theorem St.mrows_n {j:Nat} (h:St B U L w) (hk:L[j]?=some (wEa b es ck T sz enc mk hs m)) (a:Int):(hdO hs a).n=(wAk m a []).length :=
 (wHe (T:=T) (sz:=sz) (enc:=enc) a ((h.at_ _ (nM hk)).1.1).2).1
theorem St.mrowsTake (a:Int) (h:St B U (wEa b es ck T sz enc mk hs m :: L) w):St B U (.row (hdO hs a).A (hdO hs a).c T sz (nH enc (wAk m a [])) :: wJR b es ck T sz enc mk hs m a :: L) w:=by
 obtain ⟨p,h1⟩:=h.unpack
 rcases (wHe (T:=T) (sz:=sz) (enc:=enc) a p.2).2 with h2 | ⟨h2,h3,h4⟩
 ·refine St.swap (St.pack p (h1.perm ?_))
  refine (((h2.cons _).append_right L).trans ?_)
  simp only [List.cons_append]
  refine (kU _ _ _).trans ?_
  exact (np (l₁:=.obj b (.map es ck) :: wIU T sz enc a hs m)).symm
 ·rw [h3,h4]
  refine St.nilrow (St.pack p ?_) T sz
  rw [h2];exact h1
theorem St.mrowsPut {a:Int} {A:Option Addr} {c:Nat} {l:List α} {es':Array MapEntry} {ck':Nat} (hm:MpR es' mk hdV (mput hs a ⟨A,l.length,c⟩)) (p:KF hs m)
  (h:St B U (.obj b (.map es' ck') :: .row A c T sz (nH enc l) :: (wIU T sz enc a hs m ++ L)) w):St B U (wEa b es' ck' T sz enc mk (mput hs a ⟨A,l.length,c⟩) (mput m a l) :: L) w:=by
 have:=wKc (T:=T) (sz:=sz) (enc:=enc) a A c l p
 exact St.pack ⟨hm,this.1⟩ (h.perm ((this.2.cons _).append_right L))
def MrF (U:PHeap) (b:Nat) (es:Array MapEntry) (ck sz:Nat) (enc:α->List Value) (mk:Int->Value) (hs:List (Int × Hd)) (m:List (Int × List α)):Prop :=
 MpF U b es ck mk hdV hs/\∀ a,(hdO hs a).n=(wAk m a []).length/\Sl U sz (hdO hs a).A (hdO hs a).c (wAk m a []).length (nH enc (wAk m a []))
theorem MrF.le {U':PHeap} (h:MrF U b es ck sz enc mk hs m) (l:PHeap.Le U U'):MrF U' b es ck sz enc mk hs m:=⟨h.1.le l,fun a=>⟨(h.2 a).1,(h.2 a).2.le l⟩⟩
theorem St.freezeMR {k:Nat} (h:St B U L w) (hk:L[k]?=some (wEa b es ck T sz enc mk hs m)) (he:∀ x,(enc x).length=sz) (hz:0 < sz):∃ U',PHeap.Le U U'/\MrF U' b es ck sz enc mk hs m/\St B U' (L.eraseIdx k) w:=by
 have hkl:=(nD.1 hk).1
 have h0:=h.perm (wHd hkl).symm
 rw [(nD.1 hk).2] at h0
 obtain ⟨p,h1⟩:=h0.unpack
 have key:∀ {hs:List (Int × Hd)} {m:List (Int × List α)} {U:PHeap},KF hs m->St B U (wIT T sz enc hs m ++ L.eraseIdx k) w->∃ U',PHeap.Le U U'/\(∀ a,(hdO hs a).n=(wAk m a []).length/\Sl U' sz (hdO hs a).A (hdO hs a).c (wAk m a []).length (nH enc (wAk m a [])))/\St B U' (L.eraseIdx k) w:=by
  intro hs
  induction hs with
  | nil =>
   intro m U p h
   cases m with
   | nil=>exact ⟨U,PHeap.Le.refl U,fun a=>⟨rfl,Sl.nil _ _ _ _⟩,h⟩
   | cons _ _=>exact p.elim
  | cons x hs ih =>
   intro m U p h
   cases m with
   | nil=>exact p.elim
   | cons y m =>
    obtain ⟨x1,x⟩:=x
    obtain ⟨y1,y⟩:=y
    obtain ⟨e,e2,p⟩:=p
    have e:x1=y1:=e
    subst e
    obtain ⟨U1,g1,g2,g3⟩:=St.freezeR (n:=y.length) (sz:=sz) h (k:=0) rfl (wAF he y) hz
    obtain ⟨U2,k1,k2,k3⟩:=ih p g3
    refine ⟨U2,g1.trans k1,fun a=>?_,k3⟩
    by_cases c:a=x1
    ·have h1:hdO ((x1,x) :: hs) a=x:=by simp [hdO,wAk,wGV,c]
     have h2:wAk ((x1,y) :: m) a []=y:=by simp [wAk,wGV,c]
     rw [h1,h2]
     exact ⟨e2,g2.le k1⟩
    ·have h1:hdO ((x1,x) :: hs) a=hdO hs a:=by simp [hdO,wAk,wGV,c]
     have h2:wAk ((x1,y) :: m) a []=wAk m a []:=by simp [wAk,wGV,c]
     rw [h1,h2]
     exact k2 a
 obtain ⟨U1,g1,g2,g3⟩:=h1.freezeO (k:=0) rfl
 obtain ⟨U2,k1,k2,k3⟩:=key p.2 g3
 exact ⟨U2,g1.trans k1,⟨⟨k1 _ _ g2,p.1⟩,k2⟩,k3⟩
variable {P:Program} {σ:Env} {o:Oper}
theorem St.lookupMR {mt kt et:TypeId} {x y:Operand} {j:Nat} {a:Int} (hS:St B U L w) (hk:L[j]?=some (wEa b es ck T sz enc mk hs m)) (hop:o.op=.lookup mt x y false) (hx:ev σ x=.map (some b)) (hy:ev σ y=mk a)
  (hu:P.underlying mt=some (.map kt et)) (R:KeyR P kt mk) (hz:∀ w,(zeroValue et).run P w=.ok (.slice none 0 0) w):wFb P σ w o (.slice (hdO hs a).A (wAk m a []).length (hdO hs a).c):=by
 have hkl:=(nD.1 hk).1
 have h0:=hS.perm (wHd hkl).symm
 rw [(nD.1 hk).2] at h0
 obtain ⟨p,h1⟩:=h0.unpack
 have:=St.lookup1 (o:=o) (z:=(⟨none,0,0⟩:Hd)) h1 (j:=0) rfl hop hx hy hu R hz p.1
 rw [<- hS.mrows_n hk a]
 exact this
theorem St.lookupMrF {mt kt et:TypeId} {x y:Operand} {a:Int} (hS:St B U L w) (hF:MrF U b es ck sz enc mk hs m) (hop:o.op=.lookup mt x y false) (hx:ev σ x=.map (some b)) (hy:ev σ y=mk a)
  (hu:P.underlying mt=some (.map kt et)) (R:KeyR P kt mk) (hz:∀ w,(zeroValue et).run P w=.ok (.slice none 0 0) w):wFb P σ w o (.slice (hdO hs a).A (wAk m a []).length (hdO hs a).c):=by
 have:=hS.lookupF1 (o:=o) (z:=(⟨none,0,0⟩:Hd)) hF.1 hop hx hy hu R hz
 rw [<- (hF.2 a).1]
 exact this
end
section
variable {P:Program} {N:Nat} {Q:wDr} {D:List Deferred} {l:List Oper} {ks:List Nat} {i:Nat} {o:Oper} {s:Sch} {B:Base} {U:PHeap} {L:List Res} {σ:Env} {w:World} {α:Type} {T sz:Nat} {enc:α->List Value} {hs:List (Int × Hd)} {m:List (Int × List α)} {b ck:Nat} {es:Array MapEntry} {mk:Int->Value}
theorem OKS.putMR {mt kt et:TypeId} {x y z:Operand} {a:Int} {A:Option Addr} {c:Nat} {xs:List α} (ho:l[i]?=some o) (hd:o.dst=none) (hw:wanted l σ o=true) (hop:o.op=.mapUpdate mt x y z \/ o.op=.insert mt x y z)
  (hS:St B U (.row A c T sz (nH enc xs) :: wJR b es ck T sz enc mk hs m a :: L) w) (hx:ev σ x=.map (some b)) (hy:ev σ y=mk a) (hv:ev σ z=.slice A xs.length c) (hu:P.underlying mt=some (.map kt et)) (R:KeyR P kt mk) (hne:wGD (kOf ks i)=false)
  (k:∀ es' ck' w',St B U (wEa b es' ck' T sz enc mk (mput hs a ⟨A,xs.length,c⟩) (mput m a xs) :: L) w'->OKS N P l Q D ks s σ w'):OKS N P l Q D ks (.fx i s .stop) σ w:=by
 obtain ⟨p,h1⟩:=hS.swap.unpack
 exact OKS.mapPut (j:=0) (mv:=hdV) (v:=⟨A,xs.length,c⟩) ho hd hw hop h1 rfl hx hy hv hu R p.1 hne fun es' ck' w' hm h2=>k es' ck' w' (St.mrowsPut hm p.2 (St.perm h2 (List.Perm.cons _ np)))
end
section
variable {B:Base} {U:PHeap} {L:List Res} {w:World}
def DjQ (rs:List Res):Prop:=∀ (i j:Nat) (r s:Res) (b:Nat),rs[i]?=some r->rs[j]?=some s->r.has b->s.has b->i=j
theorem djQ (L:List Res):DjQ L ↔ L.Pairwise (fun r s=>∀ b,r.has b->¬ s.has b):=by
 rw [ki]
 constructor
 ·intro h i j hi hj hij b h1 h2
  have:=h i j _ _ b (nE hi) (nE hj) h1 h2
  omega
 ·intro h i j r s b hi hj h1 h2
  obtain ⟨hi',rfl⟩:=nD.1 hi
  obtain ⟨hj',rfl⟩:=nD.1 hj
  rcases Nat.lt_trichotomy i j with q | q | q
  ·exact absurd h2 (h i j hi' hj' q b h1)
  ·exact q
  ·exact absurd h1 (h j i hj' hi' q b h2)
theorem St.permQ {L':List Res} (h:St B U L w) (p:L.Perm L'):St B U L' w :=
 ⟨h.os,h.tape,h.output,h.size,h.old,h.fro,h.le,h.src,fun r hr=>h.at_ r (p.mem_iff.2 hr),fun r hr=>h.own r (p.mem_iff.2 hr),
  (djQ L').2 ((p.pairwise_iff fun hab b h1 h2=>hab b h2 h1).1 ((djQ L).1 h.dj))⟩
end
structure Ad where
 i:Nat
 d:Nat
 post:Value->List Res->Prop
def Kn:List (Nat × Value)->Env->Prop
 | [],_=>True
 | p :: l,σ=>σ p.1=p.2/\Kn l σ
theorem Kn.upd {d:Nat} {v:Value} {σ:Env}:∀ {kn:List (Nat × Value)},Kn kn σ->kn.all (fun p=>!Nat.beq p.1 d)=true->Kn kn (upd σ d v)
 | [],_,_=>trivial
 | p :: l,⟨h1,h2⟩,h=>by
  rw [aD,nA] at h
  refine ⟨?_,h2.upd h.2⟩
  have hne:p.1 ≠ d:=fun e=>by rw [e] at h;simp at h
  have hb:nG p.1 d=false:=by
   cases hq:nG p.1 d with
   | false=>rfl
   | true=>exact absurd (nB hq) hne
  show (bif nG p.1 d then v else σ p.1)=p.2
  rw [hb]
  exact h1
theorem wOE (σ:Env) (d:Nat) (v:Value):upd σ d v d=v:=by
 show (bif nG d d then v else σ d)=v
 rw [Nat.beq_refl];rfl
theorem wOF {σ:Env} {d t:Nat} {v:Value} (h:t ≠ d):upd σ d v t=σ t:=by
 have hb:nG t d=false:=by
  cases hq:nG t d with
  | false=>rfl
  | true=>exact absurd (nB hq) h
 show (bif nG t d then v else σ t)=σ t
 rw [hb];rfl
def adT (pr:List (Nat × List Nat)) (t:Sch):Nat->List Nat->List Nat->Sch
 | 0,_,_=>.stop
 | _ + 1,[],_=>t
 | n + 1,i :: td,dn=>((i :: td).filter fun j=>(pr.all fun q=>!Nat.beq q.1 j || q.2.all fun x=>dn.contains x)).foldr (fun j a=>.fx j (adT pr t n ((i :: td).erase j) (j :: dn)) a) .stop
def wUC (ads:List Ad) (kn:List (Nat × Value)):Bool:=decide ((ads.map (·.i)).Nodup) && decide ((ads.map (·.d)).Nodup) && ads.all fun a=>kn.all fun p=>!Nat.beq p.1 a.d
theorem wMT {α β:Type} {f:α->β}:∀ {ys:List β} {xs:List α},(xs.map f).Perm ys->∃ zs:List α,zs.Perm xs/\zs.map f=ys
 | [],xs,h=>⟨[],by
  have:=h.length_eq
  simp at this
  subst this;exact .refl _,rfl⟩
 | y :: ys,xs,h=>by
  obtain ⟨x,hx,e⟩:=nv.1 (h.mem_iff.2 (kb (a:=y) (l:=ys)))
  obtain ⟨s,t,rfl⟩:=aI hx
  have h2:((s ++ t).map f).Perm ys:=by
   rw [ng,kf,e] at h
   rw [ng]
   exact (List.Perm.cons_inv ((np (a:=y)).symm.trans h))
  obtain ⟨zs,p,q⟩:=wMT h2
  exact ⟨x :: zs,(p.cons x).trans np.symm,by rw [kf,e,q]⟩
theorem wOG {α β:Type} (g:α->List β) {xs ys:List α} (h:xs.Perm ys):(xs.flatMap g).Perm (ys.flatMap g):=by
 induction h with
 | nil=>exact .refl _
 | cons x _ ih=>rw [nJ,nJ];exact ih.append_left _
 | swap x y l =>
  rw [nJ,nJ,nJ,nJ,<- nK,<- nK]
  exact (nU).append_right _
 | trans _ _ a b=>exact a.trans b
def AdE (G:List (Nat × Value)->List Res->Prop):List Ad->List (Nat × Value)->List Res->Prop
 | [],vs,L=>G vs L
 | a :: l,vs,L=>∀ v R,a.post v R->AdE G l (vs ++ [(a.d,v)]) (L ++ R)
section
variable {N:Nat} {P:Program} {Q:wDr} {D:List Deferred} {l:List Oper} {ks:List Nat} {B:Base} {U0:PHeap} {L0:List Res}
def AdOK (N:Nat) (P:Program) (l:List Oper) (Q:wDr) (D:List Deferred) (ks:List Nat) (B:Base) (U0:PHeap) (L0:List Res) (kn:List (Nat × Value)) (a:Ad):Prop :=
 ∀ (s:Sch) (σ:Env) (w:World) (U:PHeap) (L:List Res),Kn kn σ->PHeap.Le U0 U->St B U (L ++ L0) w ->
 (∀ v w' U' R,PHeap.Le U U'->St B U' (R ++ (L ++ L0)) w'->a.post v R->OKS N P l Q D ks s (upd σ a.d v) w')->OKS N P l Q D ks (.fx a.i s .stop) σ w
theorem wRG {G:List (Nat × Value)->List Res->Prop}:∀ (xs:List (Ad × Value × List Res)) (vs:List (Nat × Value)) (L:List Res),AdE G (xs.map (·.1)) vs L->(∀ x ∈ xs,x.1.post x.2.1 x.2.2)->G (vs ++ xs.map fun x=>(x.1.d,x.2.1)) (L ++ xs.flatMap (·.2.2))
 | [],vs,L,h,_=>by
  have h:G vs L:=h
  simpa using h
 | x :: xs,vs,L,h,hp=>by
  have:=wRG xs _ _ (h x.2.1 x.2.2 (hp x (.head _))) fun y hy=>hp y (.tail _ hy)
  simpa [nK] using this
theorem wUD {σ:Env}:∀ (xs:List (Ad × Value × List Res)),(∀ x ∈ xs,σ x.1.d=x.2.1)->Kn (xs.map fun x=>(x.1.d,x.2.1)) σ
 | [],_=>trivial
 | x :: xs,h=>⟨h x (.head _),wUD xs fun y hy=>h y (.tail _ hy)⟩
theorem OKS.adders {t:Sch} (pr:List (Nat × List Nat)) (ads:List Ad) (kn:List (Nat × Value)) (F:List Nat) (hc:wUC ads kn=true) (H:∀ a ∈ ads,AdOK N P l Q D ks B U0 L0 kn a)
  (E:AdE (fun vs L=>∀ (σ:Env) (w:World) (U:PHeap),Kn kn σ->Kn vs σ->PHeap.Le U0 U->St B U (L ++ L0) w->OKS N P l Q D ks t σ w) ads [] []) {σ:Env} {w:World} (hk:Kn kn σ) (hS:St B U0 L0 w) :
  OKS N P l Q D ks (adT pr t (ads.length + 1) (ads.map (·.i)) F) σ w:=by
 unfold wUC at hc
 simp only [nA,decide_eq_true_eq] at hc
 obtain ⟨⟨hi,hd⟩,hkn⟩:=hc
 have hkn:=nV.1 hkn
 have main:∀ (n:Nat) (td:List Ad) (dn:List (Ad × Value × List Res)) (F:List Nat) (σ:Env) (w:World) (U:PHeap),td.length < n->(dn.map (·.1) ++ td).Perm ads->Kn kn σ->PHeap.Le U0 U->(∀ x ∈ dn,σ x.1.d=x.2.1/\x.1.post x.2.1 x.2.2)->St B U (dn.flatMap (·.2.2) ++ L0) w->OKS N P l Q D ks (adT pr t n (td.map (·.i)) F) σ w:=by
  intro n
  induction n with
  | zero=>intro td dn F σ w U h;omega
  | succ n ih =>
   intro td dn F σ w U hn hp hk hle hx hS
   cases td with
   | nil =>
    rw [kQ] at hp
    obtain ⟨zs,p,q⟩:=wMT hp
    have hz:∀ x ∈ zs,σ x.1.d=x.2.1/\x.1.post x.2.1 x.2.2:=fun x h=>hx x (p.mem_iff.1 h)
    have:=wRG zs [] [] (by rw [q];exact E) fun x h=>(hz x h).2
    exact this σ w U hk (wUD zs fun x h=>(hz x h).1) hle (hS.permQ ((wOG _ p.symm).append_right _))
   | cons b td =>
    have hids:(((b :: td).map (·.i))).Nodup:=by
     have h1:=(hp.map (·.i)).nodup_iff.2 hi
     rw [ng] at h1
     exact (nz.1 h1).2.1
    have each:∀ sub:List Nat,(∀ j ∈ sub,j ∈ (b :: td).map (·.i))->OKS N P l Q D ks (sub.foldr (fun j a=>.fx j (adT pr t n (((b :: td).map (·.i)).erase j) (j :: F)) a) .stop) σ w:=by
     intro sub
     induction sub with
     | nil=>exact fun _=>trivial
     | cons j sub ih2 =>
      intro hsub
      refine OKS.both ?_ (ih2 fun x h=>hsub x (.tail _ h))
      obtain ⟨a,ha,e⟩:=nv.1 (hsub j (.head _))
      subst e
      obtain ⟨s1,s2,es⟩:=aI ha
      rw [es] at hids hp hn ⊢
      have her:(((s1 ++ a :: s2).map (·.i)).erase a.i)=(s1 ++ s2).map (·.i):=by
       rw [ng,kf] at hids ⊢
       have hno:a.i ∉ s1.map (·.i):=fun h=>(nz.1 hids).2.2 _ h _ (.head _) rfl
       rw [List.erase_append_right _ hno,List.erase_cons_head,ng]
      rw [her]
      have ham:a ∈ ads:=hp.mem_iff.1 (nc.2 (.inr (nc.2 (.inr (.head _)))))
      refine H a ham _ σ w U _ hk hle hS fun v w' U' R h1 h2 h3=>?_
      refine ih (s1 ++ s2) ((a,v,R) :: dn) (a.i :: F) (upd σ a.d v) w' U' (by simp only [aJ,kD] at hn ⊢;omega) ?_ (hk.upd (hkn a ham)) (hle.trans h1) (fun x hxm=>?_) (by rw [nJ,nK];exact h2)
      ·rw [kf,List.cons_append,<- nK]
       refine aR ?_ hp
       rw [<- nK]
       exact np.symm
      ·rcases nb.1 hxm with rfl | hxm
       ·exact ⟨wOE σ a.d v,h3⟩
       ·have hne:x.1.d ≠ a.d:=fun e=>by
         have h1:=(hp.map (·.d)).nodup_iff.2 hd
         rw [ng] at h1
         exact (nz.1 h1).2.2 x.1.d (nv.2 ⟨x.1,nv.2 ⟨x,hxm,rfl⟩,rfl⟩) a.d (nv.2 ⟨a,nc.2 (.inr (.head _)),rfl⟩) e
        refine ⟨?_,(hx x hxm).2⟩
        rw [wOF hne]
        exact (hx x hxm).1
    exact each _ fun j hj=>(List.mem_filter.1 hj).1
 exact main _ ads [] F σ w U0 (Nat.lt_succ_self _) (by simpa using .refl _) hk (PHeap.Le.refl _) (fun (x:Ad × Value × List Res) (h:x ∈ [])=>by cases h) (by simpa using hS)
end
section
variable {P:Program} {r:Option Nat} {N:Nat} {Q:wDr} {D:List Deferred} {l:List Oper}
theorem CK.anyDone {id:Nat} {σ:Env} {w:World} (hm:P.follows .mixedOrders=true) (hpr:∀ i,i < l.length->∀ j ∈ prI l i,j < i) (J:(Nat->Bool)->Env->World->Prop)
  (h0:J (fun _=>false) σ { w with drawn:=w.drawn + 1 })
  (step:∀ S i σ w,i < l.length->S i=false->(∀ j ∈ prI l i,S j=true)->(∀ k,k < l.length->S k=true->∀ j ∈ prI l k,S j=true)->(∀ k,S k=true->k < l.length)->J S σ w ->
   ∃ o,l[i]?=some o/\(∀ d,o.dst=some d->d < N)/\Step1 P l o σ w fun v w'=>J (fun k=>k == i || S k) (put' σ o v) w')
  (fin:∀ S σ w,(∀ i,i < l.length->S i=true)->J S σ w->Q D .normal σ w):CK r N P (.region id l.toArray true) Q D σ w:=by
 intro a ha
 refine wpIn_region_any hm ?_
 have prog:∀ (listed:Array Bool),listed.size=l.length->Region.ready .any l.toArray listed=[]->∀ i,i < l.length->listed.getD i false=true:=by
  intro listed hsz hnil i
  induction i using kq with
  | _ i ih =>
   intro hi
   cases hb:listed.getD i false with
   | true=>rfl
   | false =>
    have:i ∈ Region.ready .any l.toArray listed:=(wEz hsz).2 ⟨hi,hb,fun j hj=>ih j (hpr i hi j hj) (Nat.lt_trans (hpr i hi j hj) hi)⟩
    rw [hnil] at this;cases this
 have core:∀ (fuel:Nat) (listed:Array Bool) (σ:Env) (a:Act) (w:World),listed.size=l.length->Rep N D a σ->(∀ k,k < l.length->listed.getD k false=true->∀ j ∈ prI l k,listed.getD j false=true) ->
   J (fun i=>listed.getD i false) σ w->(listed.toList.filter (! ·)).length <= fuel->wpAnyIn (WF r) 0 P .any l.toArray (wJC N Q) fuel listed a w:=by
  intro fuel
  induction fuel with
  | zero =>
   intro listed σ a w hsz hr hdc hJ hf
   have hall:∀ i,i < l.length->listed.getD i false=true:=by
    intro i hi
    cases hb:listed.getD i false with
    | true=>rfl
    | false=>have:=wGz listed i (by omega) hb;omega
   refine ⟨?_,σ,D,hr,fin _ σ w hall hJ⟩
   cases hr:Region.ready .any l.toArray listed with
   | nil=>rfl
   | cons x xs =>
    have hx:x ∈ Region.ready .any l.toArray listed:=by rw [hr];simp
    obtain ⟨h1,h2,_⟩:=(wEz hsz).1 hx
    rw [hall x h1] at h2;cases h2
  | succ fuel ih =>
   intro listed σ a w hsz hr hdc hJ hf
   refine ⟨fun hnil=>⟨σ,D,hr,fin _ σ w (prog listed hsz hnil) hJ⟩,fun i hi=>?_⟩
   obtain ⟨hlt,hun,hpi⟩:=(wEz hsz).1 hi
   have hsz':(listed.setIfInBounds i true).size=l.length:=by simpa using hsz
   have hf':((listed.setIfInBounds i true).toList.filter (! ·)).length <= fuel:=by have:=wGz listed i (by omega) hun;omega
   have hS:∀ k,listed.getD k false=true->k < l.length:=by
    intro k hk
    rcases kP k l.length with h | h
    ·exact h
    ·rw [nm,Array.getElem?_eq_none (by omega)] at hk;cases hk
   obtain ⟨o,ho,hN,hst⟩:=step _ i σ w hlt hun hpi hdc hS hJ
   refine wIN ho hr hN hst ?_
   intro v w' a' hr' hJ'
   refine ih _ (put' σ o v) a' w' hsz' hr' ?_ ?_ hf'
   ·intro k hk hkl j hj
    rw [wGy (by omega)] at hkl ⊢
    rcases hkl with rfl | hkl
    ·exact .inr (hpi j hj)
    ·exact .inr (hdc k hk hkl j hj)
   ·have e:(fun k=>(listed.setIfInBounds i true).getD k false)=fun k=>k == i || listed.getD k false:=by
     funext k
     rw [kr,wGy (by omega),Bool.or_eq_true,beq_iff_eq]
    rw [e]
    exact hJ'
 have rep:∀ k,(nY l.toArray.size false).getD k false=false:=by
  intro k
  rw [nm,kj]
  split <;> rfl
 refine core l.toArray.size (nY l.toArray.size false) σ a _ (by simp) ha ?_ ?_ ?_
 ·intro k hk hkl
  rw [rep k] at hkl
  cases hkl
 ·have e:(fun i=>(nY l.toArray.size false).getD i false)=fun _=>false:=by
   funext i
   rw [nm,kj]
   split <;> rfl
  rw [e]
  exact h0
 ·exact kl (List.length_filter_le _ _) (by simp)
theorem wKd {sz:Nat}:∀ (a:Nat) {vss:List (List Value)},(∀ vs ∈ vss,vs.length=sz)->vss.flatten.drop (a * sz)=(vss.drop a).flatten
 | 0,_,_=>by simp
 | a + 1,[],_=>by simp
 | a + 1,v :: vss,h=>by
  rw [kA,List.drop_succ_cons,<- wKd a fun vs hv=>h vs (.tail _ hv),Nat.succ_mul,aK,<- List.drop_drop,List.drop_left' (h v (.head _))]
theorem wKe {sz:Nat}:∀ (a:Nat) {vss:List (List Value)},(∀ vs ∈ vss,vs.length=sz)->vss.flatten.take (a * sz)=(vss.take a).flatten
 | 0,_,_=>by simp
 | a + 1,[],_=>by simp
 | a + 1,v :: vss,h=>by
  have e:=h v (.head _)
  rw [kA,List.take_succ_cons,kA,<- wKe a fun vs hv=>h vs (.tail _ hv),Nat.succ_mul,aK,List.take_append,e,kC (by omega)]
  congr 2
  omega
theorem SlR.cutM {α:Type} {U:PHeap} {R:Rl α} {c:Nat} {a b:Int} {A:Option Addr} {m xs:List α} (h:SlR U R A c m) (hm:Go.KL.cut m a b=some xs) :
  SlR U R (if c=a.toNat then A else A.map (·.add (a.toNat * R.sz))) (c - a.toNat) xs/\0 <= a/\a <= b/\b <= m.length/\xs.length=b.toNat - a.toNat:=by
 unfold Go.KL.cut at hm
 split at hm
 ·rename_i h0
  obtain ⟨h1,h2,h3⟩:=h0
  cases hm
  have hl:((m.drop a.toNat).take (b.toNat - a.toNat)).length=b.toNat - a.toNat:=by rw [kE,List.length_drop];omega
  obtain ⟨cs,g1,vss,v1,v2,rfl⟩:=h
  have hv:∀ vs ∈ vss,vs.length=R.sz:=fun vs hv=>by obtain ⟨x,hx⟩:=RlL.each v1 v2 vs hv;exact R.len _ _ _ hx
  have:=g1.cut (a:=a.toNat) (b:=b.toNat) (by omega) (by omega)
  rw [wKd _ hv,wKe _ fun vs h=>hv vs (List.mem_of_mem_drop h)] at this
  refine ⟨⟨_,by rw [hl];exact this,(vss.drop a.toNat).take (b.toNat - a.toNat),by rw [hl,kE,List.length_drop,v1];omega,fun i x vs hx hv=>?_,rfl⟩,h1,h2,h3,hl⟩
  rw [kZ] at hx hv
  split at hx
  ·rename_i hi
   rw [if_pos hi,ka] at hv
   rw [ka] at hx
   exact v2 _ x vs hx hv
  ·cases hx
 ·cases hm
structure Wb where
 d:Nat
 use:List Nat
 need:List Nat
 fl:Bool
 post:Env->List Res->Prop
def rsE (use:List Nat) (σ:Env):Env:=fun t=>bif use.contains t then σ t else undef
def Wb.at (a:Wb) (σ:Env) (R:List Res):Prop:=a.post (rsE a.use σ) R
theorem Wb.at_congr {a:Wb} {σ σ':Env} {R:List Res} (h:a.at σ R) (e:∀ t ∈ a.use,σ' t=σ t):a.at σ' R:=by
 have:rsE a.use σ'=rsE a.use σ:=by
  funext t
  unfold rsE
  cases c:a.use.contains t with
  | false=>rfl
  | true=>exact e t (nN.1 c)
 unfold Wb.at
 rw [this]
 exact h
end
section
variable {P:Program} {r:Option Nat} {N:Nat} {Q:wDr} {D:List Deferred} {l:List Oper}
theorem wJj {H H':Nat->List Res} {n:Nat} (h:∀ k,k < n->H k=H' k):(nI n).flatMap H=(nI n).flatMap H':=by
 rw [kG,kG]
 congr 1
 exact aF fun k hk=>h k (kV.1 hk)
theorem wLf (H:Nat->List Res) {i:Nat}:∀ {n:Nat},i < n->((nI n).flatMap H).Perm (H i ++ (nI n).flatMap fun k=>if k=i then [] else H k)
 | 0,h=>by omega
 | n + 1,h=>by
  rw [List.range_succ,aG,aG]
  simp only [nJ,List.flatMap_nil,kQ]
  by_cases e:i=n
  ·subst e
   rw [if_pos rfl,kQ,wJj (H:=fun k=>if k=i then [] else H k) (H':=H) fun k hk=>if_neg (by omega)]
   exact nU
  ·rw [if_neg fun h=>e h.symm,<- nK]
   exact (wLf H (by omega)).append_right _
theorem wMU {n:Nat}:∀ (js:List Nat) (H:Nat->List Res),js.Nodup->(∀ j ∈ js,j < n)->((nI n).flatMap H).Perm (js.flatMap H ++ (nI n).flatMap fun k=>if k ∈ js then [] else H k)
 | [],H,_,_=>.of_eq (by simp)
 | j :: js,H,hd,hn=>by
  have hd:=List.nodup_cons.1 hd
  have p1:=wMU js H hd.2 fun i hi=>hn i (.tail _ hi)
  have p2:=wLf (fun k=>if k ∈ js then [] else H k) (hn j (.head _))
  simp only [if_neg hd.1] at p2
  have e:(nI n).flatMap (fun k=>if k=j then [] else if k ∈ js then [] else H k)=(nI n).flatMap fun k=>if k ∈ j :: js then [] else H k:=wJj fun k _=>by
   by_cases c:k=j
   ·simp [c]
   ·by_cases c2:k ∈ js <;> simp [c,c2]
  rw [e] at p2
  rw [nJ]
  refine p1.trans ((p2.append_left _).trans ?_)
  rw [<- nK]
  exact nU.append_right _
structure Wp where
 d:Option Nat
 use:List Nat
 need:List Nat
 fl:Bool
 tk:List Nat
 tkn:Bool
 pre:List Res
 post:Env->List Res->Prop
def wp0:Wp:=⟨none,[],[],false,[],false,[],fun _ _=>False⟩
def Wp.at (a:Wp) (σ:Env) (R:List Res):Prop:=a.post (rsE a.use σ) R
theorem Wp.at_congr {a:Wp} {σ σ':Env} {R:List Res} (h:a.at σ R) (e:∀ t ∈ a.use,σ' t=σ t):a.at σ' R:=Wb.at_congr (a:=⟨0,a.use,[],false,a.post⟩) h e
def pW (d:Nat) (need:List Nat) (x:Value):Wp:=⟨some d,[d],need,true,[],false,[],fun σ R=>σ d=x/\R=[]⟩
def pX (d:Nat) (need:List Nat) (x:Value):Wp:=⟨some d,[d],need,false,[],false,[],fun σ R=>σ d=x/\R=[]⟩
theorem wRH (σ:Env) (d:Nat):rsE [d] σ d=σ d:=by simp [rsE]
def updo (σ:Env) (d:Option Nat) (v:Value):Env:=match d with
 | none=>σ
 | some d=>upd σ d v
def WpT (A:List Wp):List Nat->Env->List Res->Prop
 | [],_,R=>R=[]
 | j :: t,σ,R=>∃ R1 R2,(A.getD j wp0).at σ R1/\WpT A t σ R2/\R=R1 ++ R2
theorem wRI {A:List Wp} {σ:Env} {f:Nat->List Res}:∀ (t:List Nat),(∀ j ∈ t,(A.getD j wp0).at σ (f j))->WpT A t σ (t.flatMap f)
 | [],_=>rfl
 | j :: t,h=>⟨f j,t.flatMap f,h j (.head _),wRI t fun i hi=>h i (.tail _ hi),rfl⟩
def WpD (A:List Wp):List Nat->Env->Prop
 | [],_=>True
 | k :: x,σ=>(∃ R,(A.getD k wp0).at σ R)/\WpD A x σ
theorem wRJ {A:List Wp} {σ:Env}:∀ (x:List Nat),(∀ k ∈ x,∃ R,(A.getD k wp0).at σ R)->WpD A x σ
 | [],_=>trivial
 | k :: x,h=>⟨h k (.head _),wRJ x fun i hi=>h i (.tail _ hi)⟩
def WpOK (N:Nat) (P:Program) (l:List Oper) (D:List Deferred) (B:Base) (U0:PHeap) (L0:List Res) (kn:List (Nat × Value)) (A:List Wp) (a:Wp) (i:Nat):Prop :=
 ∀ (Q:wDr) (σ:Env) (w:World) (U:PHeap) (L R0:List Res),Kn kn σ->PHeap.Le U0 U->WpD A a.need σ->WpT A a.tk σ R0->St B U (a.pre ++ (R0 ++ (L0 ++ L))) w ->
 (∀ v w' U' R,PHeap.Le U U'->St B U' (R ++ (L0 ++ L)) w'->a.at (updo σ a.d v) R->OKS N P l Q D [] .nil (updo σ a.d v) w')->OKS N P l Q D [] (bif a.fl then .fl i .nil else .fx i .nil .stop) σ w
theorem wpW {B:Base} {U0:PHeap} {L0:List Res} {kn:List (Nat × Value)} {A:List Wp} {d i:Nat} {need:List Nat} {x:Value} (h:∀ (Q:wDr) (σ:Env) (w:World) (U:PHeap) (L:List Res),Kn kn σ->PHeap.Le U0 U->WpD A need σ->St B U (L0 ++ L) w->OKS N P l Q D [] .nil (upd σ d x) w->OKS N P l Q D [] (.fl i .nil) σ w):WpOK N P l D B U0 L0 kn A (pW d need x) i :=
 fun Q σ w U L R0 hk le hd hR hS kk=>by
  obtain rfl:R0=[]:=hR
  exact h Q σ w U L hk le hd hS (kk x w U [] (PHeap.Le.refl _) hS ⟨(wRH _ _).trans (wOE _ _ _),rfl⟩)
theorem wpX {B:Base} {U0:PHeap} {L0:List Res} {kn:List (Nat × Value)} {A:List Wp} {d i:Nat} {need:List Nat} {x:Value} (h:∀ (Q:wDr) (σ:Env) (w:World) (U:PHeap) (L:List Res),Kn kn σ->PHeap.Le U0 U->WpD A need σ->St B U (L0 ++ L) w->OKS N P l Q D [] .nil (upd σ d x) w->OKS N P l Q D [] (.fx i .nil .stop) σ w):WpOK N P l D B U0 L0 kn A (pX d need x) i :=
 fun Q σ w U L R0 hk le hd hR hS kk=>by
  obtain rfl:R0=[]:=hR
  exact h Q σ w U L hk le hd hS (kk x w U [] (PHeap.Le.refl _) hS ⟨(wRH _ _).trans (wOE _ _ _),rfl⟩)
def WpH (N:Nat) (P:Program) (l:List Oper) (D:List Deferred) (B:Base) (U0:PHeap) (L0:List Res) (kn:List (Nat × Value)) (A:List Wp):List Wp->Nat->Prop
 | [],_=>True
 | a :: x,i=>WpOK N P l D B U0 L0 kn A a i/\WpH N P l D B U0 L0 kn A x (i + 1)
def WpE (G:Env->List Res->Prop):List Wp->Env->List Res->Prop
 | [],σ,L=>G σ L
 | a :: x,σ,L=>∀ R,a.at σ R->WpE G x σ ((bif a.tkn then [] else R) ++ L)
def wpI (l:List Oper) (A:List Wp) (i:Nat):Bool:=match l[i]?,A[i]? with
 | some o,some a=>o.dst == a.d && a.need.all (fun k=>(prI l i).any fun j=>j == k || (A.getD j wp0).need.contains k) && a.use.all (fun t=>some t == a.d || (prI l i).any fun j=>(A.getD j wp0).d == some t || (A.getD j wp0).use.contains t) && a.tk.all (fun j=>(prI l i).contains j && nP j A.length) && (a.tkn == A.any fun b=>b.tk.contains i)
 | _,_=>false
def wpS:Nat->List Bool->Sch
 | _,[]=>.nil
 | i,true :: x=>.fl i (wpS (i + 1) x)
 | i,false :: x=>.fx i (wpS (i + 1) x) .stop
def wRq (l:List Oper) (i:Nat):List Nat:=(nI i).reverse.foldl (fun a k=>bif a.contains k then prI l k ++ a else a) (prI l i)
def wUE (l:List Oper) (A:List Wp) (fs:List Bool) (kn:List (Nat × Value)):Bool :=
 l.length == A.length + fs.length && nP 0 fs.length && (nI l.length).all (fun i=>(prI l i).all (nP · i)) && (nI A.length).all (wpI l A) && decide ((A.flatMap (·.d.toList)).Nodup) && decide ((A.flatMap (·.tk)).Nodup) && (nI fs.length).all (fun q=>(nI (A.length + q)).all fun k=>(wRq l (A.length + q)).contains k) && A.all (fun a=>kn.all fun p=>!(a.d == some p.1))
theorem wLg {S:Nat->Bool} {i:Nat} (hi:i <= l.length) (hp:∀ j ∈ prI l i,S j=true) (hdc:∀ k,k < l.length->S k=true->∀ j ∈ prI l k,S j=true):∀ j ∈ wRq l i,S j=true:=by
 unfold wRq
 have:∀ (x:List Nat) (a:List Nat),(∀ k ∈ x,k < l.length)->(∀ j ∈ a,S j=true)->∀ j ∈ x.foldl (fun a k=>bif a.contains k then prI l k ++ a else a) a,S j=true:=by
  intro x
  induction x with
  | nil=>intro a _ h;exact h
  | cons k x ih =>
   intro a hx h
   refine ih _ (fun q hq=>hx q (.tail _ hq)) ?_
   show ∀ j ∈ (bif a.contains k then prI l k ++ a else a),S j=true
   cases c:a.contains k with
   | false=>exact h
   | true =>
    intro j hj
    rcases nc.1 hj with hj | hj
    ·exact hdc k (hx k (.head _)) (h k (nN.1 c)) j hj
    ·exact h j hj
 exact this _ _ (fun k hk=>by have:=kV.1 (List.mem_reverse.1 hk);omega) hp
theorem wRK {B:Base} {U0:PHeap} {L0:List Res} {kn:List (Nat × Value)} {A:List Wp}:∀ {x:List Wp} {i:Nat},WpH N P l D B U0 L0 kn A x i->∀ (k:Nat) (a:Wp),x[k]?=some a->WpOK N P l D B U0 L0 kn A a (i + k)
 | [],_,_,k,a,h=>by simp at h
 | b :: x,i,⟨h1,_⟩,0,a,h=>by
  simp at h
  subst h
  exact h1
 | _ :: x,i,⟨_,h2⟩,k + 1,a,h=>by
  have:=wRK h2 k a (by simpa using h)
  rwa [show i + 1 + k=i + (k + 1) by omega] at this
def wUF (g:Nat->List Res):Nat->Nat->List Res->List Res
 | 0,_,L=>L
 | n + 1,i,L=>wUF g n (i + 1) (g i ++ L)
theorem wKf (g:Nat->List Res):∀ (n i:Nat) (L:List Res),(wUF g n i L).Perm ((aL i n).flatMap g ++ L)
 | 0,i,L=>.of_eq (by simp [wUF])
 | n + 1,i,L=>by
  refine (wKf g n (i + 1) (g i ++ L)).trans ?_
  rw [List.range'_succ,nJ,<- nK]
  exact nU.append_right L
theorem wRL {G:Env->List Res->Prop} {σ:Env}:∀ (x:List Wp) (f g:Nat->List Res) (i:Nat) (L:List Res),WpE G x σ L->(∀ (k:Nat) (a:Wp),x[k]?=some a->a.at σ (f (i + k))/\g (i + k)=bif a.tkn then [] else f (i + k))->G σ (wUF g x.length i L)
 | [],f,g,i,L,h,_=>h
 | a :: x,f,g,i,L,h,hp=>by
  have h0:=hp 0 a rfl
  have:=wRL x f g (i + 1) _ (h (f i) h0.1) fun k b hb=>by
   have:=hp (k + 1) b (by simpa using hb)
   rwa [show i + (k + 1)=i + 1 + k by omega] at this
  rw [kD,wUF,show g i=bif a.tkn then [] else f i from h0.2]
  exact this
def tkd (A:List Wp) (S:Nat->Bool) (k:Nat):Bool:=(nI A.length).any fun i=>S i && (A.getD i wp0).tk.contains k
def wHm (A:List Wp) (S:Nat->Bool) (f:Nat->List Res) (k:Nat):List Res:=bif S k then (bif tkd A S k then [] else f k) else (A.getD k wp0).pre
theorem wRr {A:List Wp} {g:Wp->List Nat} (h:(A.flatMap g).Nodup):(∀ a ∈ A,(g a).Nodup)/\∀ {i j:Nat} {a b:Wp} {t:Nat},A[i]?=some a->A[j]?=some b->t ∈ g a->t ∈ g b->i=j:=by
 induction A with
 | nil=>exact ⟨fun a h=>(nomatch h),fun h1=>by simp at h1⟩
 | cons c x ih =>
  rw [nJ,nz] at h
  obtain ⟨h1,h2,h3⟩:=h
  obtain ⟨i1,i2⟩:=ih h2
  refine ⟨fun a ha=>?_,?_⟩
  ·rcases nb.1 ha with rfl | ha
   ·exact h1
   ·exact i1 a ha
  ·intro i j a b t e1 e2 m1 m2
   have hc:∀ {q:Nat} {b:Wp},t ∈ g c->x[q]?=some b->t ∈ g b->False:=fun h5 h6 h7=>h3 t h5 t (List.mem_flatMap.2 ⟨_,nM h6,h7⟩) rfl
   cases i with
   | zero=>cases j with
    | zero=>rfl
    | succ j =>
     simp at e1 e2
     subst e1
     exact (hc m1 e2 m2).elim
   | succ i=>cases j with
    | zero =>
     simp at e1 e2
     subst e2
     exact (hc m2 e1 m1).elim
    | succ j =>
     simp at e1 e2
     rw [i2 e1 e2 m1 m2]
theorem CK.webp {id:Nat} {σ:Env} {w:World} {B:Base} {U0:PHeap} {L0:List Res} (hm:P.follows .mixedOrders=true) (A:List Wp) (fs:List Bool) (kn:List (Nat × Value)) (hc:wUE l A fs kn=true) (hk:Kn kn σ) (hS:St B U0 (A.flatMap (·.pre) ++ L0) w)
  (H:WpH N P l D B U0 L0 kn A A 0)
  (E:∀ (σ:Env) (w:World) (U:PHeap),Kn kn σ->PHeap.Le U0 U->WpE (fun σ L=>St B U (L ++ L0) w->OKS N P l Q D [] (wpS A.length fs) σ w) A σ []):CK r N P (.region id l.toArray true) Q D σ w:=by
 unfold wUE at hc
 simp only [nA,decide_eq_true_eq,nV,kV,nQ,beq_iff_eq] at hc
 obtain ⟨⟨⟨⟨⟨⟨⟨hl,hf0⟩,hpr⟩,hw⟩,hd⟩,htk⟩,hlast⟩,hkn⟩:=hc
 have one:∀ {Q:wDr} {s:Sch} {i:Nat} {fl:Bool} {σ:Env} {w:World},OKS N P l Q D [] (bif fl then .fl i s else .fx i s .stop) σ w->∃ o,l[i]?=some o/\(∀ d,o.dst=some d->d < N)/\Step1 P l o σ w fun v w'=>OKS N P l Q D [] s (put' σ o v) w':=by
  intro Q s i fl σ w h
  cases fl with
  | true =>
   obtain ⟨o,ho,hN,hf⟩:=h
   exact ⟨o,ho,hN,hf.step1.mono fun v w' ⟨e,q⟩=>e ▸ q⟩
  | false =>
   obtain ⟨⟨o,ho,hN,hf⟩,_⟩:=h
   exact ⟨o,ho,hN,hf.mono fun v w' ⟨_,q⟩=>q⟩
 have get:∀ k,k < A.length->∃ a,A[k]?=some a/\A.getD k wp0=a:=fun k hk=>⟨A[k],nE hk,by rw [kg,nE hk];rfl⟩
 have spec:∀ k,k < A.length->∃ o a,l[k]?=some o/\A[k]?=some a/\A.getD k wp0=a/\o.dst=a.d/\(∀ m ∈ a.need,∃ j ∈ prI l k,j=m \/ m ∈ (A.getD j wp0).need)/\(∀ t ∈ a.use,some t=a.d \/ ∃ j ∈ prI l k,(A.getD j wp0).d=some t \/ t ∈ (A.getD j wp0).use)/\(∀ j ∈ a.tk,j ∈ prI l k/\j < A.length)/\a.tkn=A.any fun b=>b.tk.contains k:=by
  intro k hk
  obtain ⟨a,h1,h2⟩:=get k hk
  have h:=hw k hk
  unfold wpI at h
  have hlk:k < l.length:=by omega
  rw [nE hlk,h1] at h
  simp only [nA,beq_iff_eq,nV,km,Bool.or_eq_true,nN,nQ] at h
  exact ⟨l[k],a,nE hlk,h1,h2,h.1.1.1.1,h.1.1.1.2,h.1.1.2,h.1.2,h.2⟩
 have dist:∀ i k t,i < A.length->k < A.length->(A.getD i wp0).d=some t->(A.getD k wp0).d=some t->i=k:=by
  intro i k t hi hk e1 e2
  obtain ⟨a,h1,h2⟩:=get i hi
  obtain ⟨b,h3,h4⟩:=get k hk
  rw [h2] at e1
  rw [h4] at e2
  exact (wRr hd).2 h1 h3 (t:=t) (by simp [e1]) (by simp [e2])
 have needs:∀ (S:Nat->Bool),(∀ k,k < l.length->S k=true->∀ j ∈ prI l k,S j=true)->∀ j,j < A.length->S j=true->∀ m ∈ (A.getD j wp0).need,m < j/\S m=true:=by
  intro S hdc j
  induction j using kq with
  | _ j ih =>
   intro hj hs m hm
   obtain ⟨o,a,h1,h2,h3,h4,h5,h6,_⟩:=spec j hj
   rw [h3] at hm
   obtain ⟨i,hi,e⟩:=h5 m hm
   have hij:=hpr j (by omega) i hi
   have hsi:=hdc j (by omega) hs i hi
   rcases e with rfl | e
   ·exact ⟨hij,hsi⟩
   ·have:=ih i hij (by omega) hsi m e
    exact ⟨by omega,this.2⟩
 have useS:∀ (S:Nat->Bool),(∀ k,k < l.length->S k=true->∀ j ∈ prI l k,S j=true)->∀ k,k < A.length->S k=true->∀ t ∈ (A.getD k wp0).use,∃ m,m < A.length/\S m=true/\(A.getD m wp0).d=some t:=by
  intro S hdc k
  induction k using kq with
  | _ k ih =>
   intro hk hs t ht
   obtain ⟨o,a,h1,h2,h3,h4,h5,h6,_⟩:=spec k hk
   rw [h3] at ht
   rcases h6 t ht with e | ⟨j,hj,e⟩
   ·exact ⟨k,hk,hs,by rw [h3];exact e.symm⟩
   ·have hjk:=hpr k (by omega) j hj
    have hsj:=hdc k (by omega) hs j hj
    rcases e with e | e
    ·exact ⟨j,by omega,hsj,e⟩
    ·exact ih j hjk (by omega) hsj t e
 have tkS:∀ {S:Nat->Bool} {k:Nat},tkd A S k=true ↔ ∃ i,i < A.length/\S i=true/\k ∈ (A.getD i wp0).tk:=by
  intro S k
  unfold tkd
  simp only [km,kV,nA,nN]
 refine CK.anyDone hm (fun i hi j hj=>hpr i hi j hj) (fun S σ w=>(∃ k,0 < k/\k <= fs.length/\(∀ i,i < A.length + k->S i=true)/\(∀ i,A.length + k <= i->S i=false)/\OKS N P l Q D [] (wpS (A.length + k) (fs.drop k)) σ w) \/ ((∀ i,A.length <= i->S i=false)/\∃ (U:PHeap) (f:Nat->List Res),Kn kn σ/\PHeap.Le U0 U/\(∀ k,k < A.length->S k=true->(A.getD k wp0).at σ (f k))/\St B U ((nI A.length).flatMap (wHm A S f) ++ L0) w)) (.inr ⟨fun _ _=>rfl,U0,fun _=>[],hk,PHeap.Le.refl _,(fun k _ h=>by cases h),?_⟩) ?_ ?_
 ·have e:(nI A.length).flatMap (wHm A (fun _=>false) fun _=>[])=A.flatMap (·.pre):=by
   have h1:∀ x:List Wp,x.flatMap (·.pre)=(nI x.length).flatMap fun k=>(x.getD k wp0).pre:=by
    intro x
    have h2:x=(nI x.length).map fun k=>x.getD k wp0:=by
     refine List.ext_getElem? fun i=>?_
     rw [List.getElem?_map]
     rcases kP i x.length with h | h
     ·rw [List.getElem?_range h,nE h]
      simp [nE h]
     ·rw [kJ h,kJ (by simpa using h)]
      rfl
    have h3:x.flatMap (·.pre)=((nI x.length).map fun k=>x.getD k wp0).flatMap (·.pre):=by rw [<- h2]
    rw [h3,List.flatMap_map]
   rw [h1]
   rfl
  rw [e]
  exact hS.drew
 ·intro S i σ w hi hs hp hdc hlt hJ
  rcases hJ with ⟨k,hk0,hk1,hk2,hk3,hO⟩ | ⟨hl2,U,f,hk,hle,hx,hS⟩
  ·have ik:A.length + k <= i:=by
    rcases kP i (A.length + k) with h | h
    ·rw [hk2 i h] at hs;cases hs
    ·exact h
   have ei:i=A.length + k:=by
    rcases kc ik with h | h
    ·have h1:=hlast (i - A.length) (by omega) (A.length + k) (by omega)
     rw [show A.length + (i - A.length)=i by omega] at h1
     have:=wLg (by omega) hp hdc _ (nN.1 h1)
     rw [hk3 _ (nS _)] at this
     cases this
    ·exact h.symm
   subst ei
   have hkf:k < fs.length:=by omega
   have e:wpS (A.length + k) (fs.drop k)=bif fs[k] then .fl (A.length + k) (wpS (A.length + (k + 1)) (fs.drop (k + 1))) else .fx (A.length + k) (wpS (A.length + (k + 1)) (fs.drop (k + 1))) .stop:=by
    rw [List.drop_eq_getElem_cons hkf]
    cases fs[k] <;> rfl
   rw [e] at hO
   obtain ⟨o,ho,hN,hst⟩:=one hO
   refine ⟨o,ho,hN,hst.mono fun v w' h=>.inl ⟨k + 1,by omega,hkf,fun j hj=>?_,fun j hj=>?_,h⟩⟩
   ·by_cases c:j=A.length + k
    ·simp [c]
    ·simp [c,hk2 j (by omega)]
   ·have:¬ j=A.length + k:=by omega
    simp [this,hk3 j (by omega)]
  ·by_cases e:A.length <= i
   ·have ei:i=A.length:=by
     rcases kc e with h | h
     ·have h1:=hlast (i - A.length) (by omega) A.length (by omega)
      rw [show A.length + (i - A.length)=i by omega] at h1
      have:=wLg (by omega) hp hdc _ (nN.1 h1)
      rw [hl2 _ (nS _)] at this
      cases this
     ·exact h.symm
    subst ei
    have all:∀ k,k < A.length->S k=true:=fun k hk=>wLg (by omega) hp hdc k (nN.1 (by have:=hlast 0 hf0 k (by omega);rwa [aH] at this))
    have h1:=wRL A f (wHm A S f) 0 [] (E σ w U hk hle) fun k a ha=>by
     have hk:k < A.length:=(nD.1 ha).1
     obtain ⟨o,b,_,h1,h2,_,_,_,_,h3⟩:=spec k hk
     rw [ha] at h1
     obtain rfl:=ku h1
     have:=hx k hk (all k hk)
     rw [h2] at this
     rw [nX]
     refine ⟨this,?_⟩
     unfold wHm
     rw [all k hk,cond_true]
     have ee:tkd A S k=a.tkn:=by
      rw [h3,kr,tkS,km]
      constructor
      ·rintro ⟨i,hi,_,h⟩
       obtain ⟨c,c1,c2⟩:=get i hi
       rw [c2] at h
       exact ⟨c,nM c1,nN.2 h⟩
      ·rintro ⟨c,hc,h⟩
       obtain ⟨i,hi,rfl⟩:=List.mem_iff_getElem.1 hc
       refine ⟨i,hi,all i hi,?_⟩
       rw [kg,nE hi]
       exact nN.1 h
     rw [ee]
    have h1:=fun hh=>h1 hh
    obtain ⟨b0,fs',rfl⟩:∃ b x,fs=b :: x:=by
     cases fs with
     | nil=>simp at hf0
     | cons b x=>exact ⟨b,x,rfl⟩
    have pm:=wKf (wHm A S f) A.length 0 []
    rw [kQ,<- kz] at pm
    have h2:=h1 (hS.permQ (pm.symm.append_right L0))
    have e2:wpS A.length (b0 :: fs')=bif b0 then .fl A.length (wpS (A.length + 1) fs') else .fx A.length (wpS (A.length + 1) fs') .stop:=by cases b0 <;> rfl
    rw [e2] at h2
    obtain ⟨o,ho,hN,hst⟩:=one h2
    refine ⟨o,ho,hN,hst.mono fun v w' h=>.inl ⟨1,by omega,by simp,fun j hj=>?_,fun j hj=>?_,h⟩⟩
    ·by_cases c:j=A.length
     ·simp [c]
     ·simp [c,all j (by omega)]
    ·have:¬ j=A.length:=by omega
     simp [this,hl2 j (by omega)]
   ·have hin:i < A.length:=by omega
    obtain ⟨o,a,h1,h2,h3,h4,h5,h6,h7,h8⟩:=spec i hin
    have ok:=wRK H i a h2
    rw [nX] at ok
    have hwd:WpD A a.need σ:=wRJ _ fun m hm=>by
     obtain ⟨j,hj,e⟩:=h5 m hm
     have hsj:=hp j hj
     have hji:=hpr i hi j hj
     have:m < A.length/\S m=true:=by
      rcases e with rfl | e
      ·exact ⟨by omega,hsj⟩
      ·have:=needs S hdc j (by omega) hsj m e
       exact ⟨by omega,this.2⟩
     exact ⟨_,hx m this.1 this.2⟩
    have nin:¬ i ∈ a.tk:=fun h=>absurd (hpr i hi i (h7 i h).1) (by omega)
    have notk:∀ j ∈ a.tk,tkd A S j=false:=by
     intro j hj
     rw [nj]
     intro h
     obtain ⟨q,q1,q2,q3⟩:=tkS.1 h
     obtain ⟨b,b1,b2⟩:=get q q1
     rw [b2] at q3
     have:=(wRr htk).2 b1 h2 q3 hj
     rw [this,hs] at q2
     cases q2
    let W:Nat->List Res:=fun k=>if k ∈ i :: a.tk then [] else wHm A S f k
    have nd:(i :: a.tk).Nodup:=List.nodup_cons.2 ⟨nin,(wRr htk).1 a (nM h2)⟩
    have lt:∀ j ∈ i :: a.tk,j < A.length:=fun j hj=>by
     rcases nb.1 hj with rfl | hj
     ·exact hin
     ·exact (h7 j hj).2
    have split:((nI A.length).flatMap (wHm A S f)).Perm (a.pre ++ (a.tk.flatMap f ++ (nI A.length).flatMap W)):=by
     refine (wMU (i :: a.tk) (wHm A S f) nd lt).trans (.of_eq ?_)
     have e1:wHm A S f i=a.pre:=by
      unfold wHm
      rw [hs,cond_false,h3]
     have e2:a.tk.flatMap (wHm A S f)=a.tk.flatMap f:=by
      rw [kG,kG]
      congr 1
      refine aF fun j hj=>?_
      unfold wHm
      rw [hp j (h7 j hj).1,notk j hj]
      rfl
     rw [nJ,e1,e2,nK]
    have hS0:St B U (a.pre ++ (a.tk.flatMap f ++ (L0 ++ (nI A.length).flatMap W))) w:=by
     refine hS.permQ ?_
     refine (split.append_right _).trans ?_
     rw [nK,nK]
     exact kK _ (kK _ nU)
    have st:=ok (fun _ _ σ' w'=>((i == i || S i)=true/\∃ (U:PHeap) (f:Nat->List Res),Kn kn σ'/\PHeap.Le U0 U/\(∀ k,k < A.length->(k == i || S k)=true->(A.getD k wp0).at σ' (f k))/\St B U ((nI A.length).flatMap (wHm A (fun k=>k == i || S k) f) ++ L0) w')) σ w U _ _ hk hle hwd (wRI a.tk fun j hj=>hx j (h7 j hj).2 (hp j (h7 j hj).1)) hS0 fun v w' U' R g1 g2 g3=>by
     refine ⟨by simp,U',fun k=>if k=i then R else f k,?_,hle.trans g1,fun k hk hs'=>?_,?_⟩
     ·cases ed:a.d with
      | none=>exact hk
      | some d=>exact hk.upd (nV.2 fun p hp=>by
        have:=hkn a (nM h2) p hp
        rw [ed] at this
        simp only [kh,beq_eq_false_iff_ne,ne_eq,ny] at this
        cases hb:nG p.1 d with
        | false=>rfl
        | true=>exact absurd (nB hb).symm this)
     ·by_cases ek:k=i
      ·subst ek
       show (A.getD k wp0).at _ (if k=k then R else f k)
       rw [if_pos rfl,h3]
       exact g3
      ·show (A.getD k wp0).at _ (if k=i then R else f k)
       rw [if_neg ek]
       have hsk:S k=true:=by simpa [ek] using hs'
       refine Wp.at_congr (hx k hk hsk) fun t ht=>?_
       cases ed:a.d with
       | none=>rfl
       | some d =>
        refine wOF ?_
        rintro rfl
        obtain ⟨m,m1,m2,m3⟩:=useS S hdc k hk hsk t ht
        rw [dist m i t m1 hin m3 (by rw [h3];exact ed),hs] at m2
        cases m2
     ·refine g2.permQ ?_
      have p3:=wLf (wHm A (fun k=>k == i || S k) fun k=>if k=i then R else f k) hin
      have e3:wHm A (fun k=>k == i || S k) (fun k=>if k=i then R else f k) i=R:=by
       unfold wHm
       have:tkd A (fun k=>k == i || S k) i=false:=by
        rw [nj]
        intro h
        obtain ⟨q,q1,q2,q3⟩:=tkS.1 h
        obtain ⟨_,b,_,_,b3,_,_,_,b7,_⟩:=spec q q1
        rw [b3] at q3
        have hiq:=hpr q (by omega) i (b7 i q3).1
        have:S q=true:=by
         have:¬ q=i:=by omega
         simpa [this] using q2
        have:=hdc q (by omega) this i (b7 i q3).1
        rw [hs] at this;cases this
       rw [this]
       simp
      have e4:(nI A.length).flatMap (fun k=>if k=i then [] else wHm A (fun k=>k == i || S k) (fun k=>if k=i then R else f k) k)=(nI A.length).flatMap W:=wJj fun k hk=>by
       show _=if k ∈ i :: a.tk then [] else wHm A S f k
       by_cases c:k=i
       ·simp [c]
       ·rw [if_neg c]
        by_cases c2:k ∈ a.tk
        ·rw [if_pos (.tail _ c2)]
         obtain ⟨j1,j2⟩:=h7 k c2
         unfold wHm
         have:tkd A (fun k=>k == i || S k) k=true:=tkS.2 ⟨i,hin,by simp,by rw [h3];exact c2⟩
         rw [this]
         simp [hp k j1]
        ·rw [if_neg fun h=>(nb.1 h).elim c c2]
         unfold wHm
         have:tkd A (fun k=>k == i || S k) k=tkd A S k:=by
          rw [kr,tkS,tkS]
          constructor
          ·rintro ⟨q,q1,q2,q3⟩
           have:¬ q=i:=by
            rintro rfl
            rw [h3] at q3
            exact c2 q3
           exact ⟨q,q1,by simpa [this] using q2,q3⟩
          ·rintro ⟨q,q1,q2,q3⟩
           exact ⟨q,q1,by simp [q2],q3⟩
         rw [this]
         show (bif k == i || S k then bif tkd A S k then [] else (if k=i then R else f k) else (A.getD k wp0).pre)=_
         rw [show (k == i)=false from beq_eq_false_iff_ne.2 c,Bool.false_or,if_neg c]
      rw [e3,e4] at p3
      refine aR ?_ (p3.symm.append_right L0)
      rw [nK]
      exact kK _ nU
    obtain ⟨o',ho,hN,hst⟩:=one st
    rw [h1] at ho
    obtain rfl:=ku ho
    refine ⟨o,h1,hN,hst.mono fun v w' h=>.inr ⟨fun j hj=>?_,(show _/\_ from h).2⟩⟩
    have:¬ j=i:=by omega
    simp [this,hl2 j hj]
 ·intro S σ w hall hJ
  rcases hJ with ⟨k,hk0,hk1,hk2,hk3,hO⟩ | ⟨h,_⟩
  ·have:k=fs.length:=by
    rcases kc hk1 with h | h
    ·have:=hall (A.length + k) (by omega)
     rw [hk3 _ (nS _)] at this
     cases this
    ·exact h
   subst this
   rw [List.drop_length] at hO
   exact hO
  ·have:=hall A.length (by omega)
   rw [h A.length (nS _)] at this
   cases this
end
open Go.KX (LoopAt Yd wNz Dfr wOB retM)
section
variable {r:Option Nat} {N:Nat} {P:Program} {Q:wDr} {D:List Deferred} {B:Base} {U:PHeap} {L:List Res} {σ:Env} {w:World} {X S E:Type} {ar:PHeap->X->List Value->Prop}
 {PY:S->PHeap->List Res->Prop} {PE:E->PHeap->List Res->Prop} {f:S->X->Option (S ⊕ E)}
end
section
variable {N:Nat} {P:Program} {Q:wDr} {D:List Deferred} {l:List Oper} {ks:List Nat} {B:Base} {U:PHeap} {L:List Res} {σ:Env} {w:World} {o:Oper} {d i:Nat} {s:Sch}
theorem wNL (vs:List Value):∀ (l:List Value) (off n:Nat),n <= off->(wEw l off vs).take n=l.take n:=by
 induction vs with
 | nil=>intro l off n _;rfl
 | cons v vs ih =>
  intro l off n h
  rw [wEw,ih _ _ _ (by omega),List.take_set_of_le h]
theorem wRM (z:Array Value) (n:Nat):(Builtin.zeroCells z n).toList.length=n * z.size:=by simp [Builtin.zeroCells]
theorem wUG {z:Array Value} (h0:0 < z.size) (h:z.toList.all one=true) (n:Nat):(Builtin.zeroCells z n).toList.all one=true:=by
 rw [nV] at h ⊢
 intro u hu
 simp only [Builtin.zeroCells,aN,Array.toList_range,nv] at hu
 obtain ⟨i,_,rfl⟩:=hu
 have hi:i % z.size < z.size:=Nat.mod_lt _ h0
 rw [getElem!_pos z _ hi]
 exact h _ (Array.getElem_mem_toList hi)
theorem OKS.clearTail {α:Type} {t e T sz j c:Nat} {a:Int} {A:Option Addr} {x:Operand} {z:Value} {f:α->List Value} {m zs:List α} (ho:l[i]?=some o) (hd:o.dst=none) (hw:wanted l σ o=true) (hop:o.op=.call { callee:=.builtin .clear,args:=#[x],argTypes:=#[t] }) (hS:St B U L w) (hk:L[j]?=some (.row A c T sz (nH f m)))
  (hf:∀ x,(f x).length=sz) (hz0:0 < sz) (hc:cut m 0 a=some zs) (hx:ev σ x=.slice (if c=a.toNat then A else A.map (fun q:Addr=>q.add (a.toNat * sz))) (((m.length:Nat):Int).toNat - a.toNat) (c - a.toNat)) (ht:∀ w,(underlying t).run P w=.ok (.slice e) w) (hz:∀ w,(zeroValue e).run P w=.ok z w) (hzs:z.cells.size=sz) (hz1:z.cells.toList.all one=true) (hne:wGD (kOf ks i)=false)
  (k:∀ w',St B U (L.set j (.row A c T sz (nH f zs))) w'->OKS N P l Q D ks s σ w'):OKS N P l Q D ks (.fx i s .stop) σ w:=by
 obtain ⟨_,ha0,ha1,rfl,_⟩:=wMS hc
 obtain ⟨a,rfl⟩:=na ha0
 have ha:a <= m.length:=by omega
 have hx:ev σ x=.slice (if c=a then A else A.map (fun q:Addr=>q.add (a * sz))) (m.length - a) (c - a):=hx
 have k:∀ w',St B U (L.set j (.row A c T sz (nH f (m.take a)))) w'->OKS N P l Q D ks s σ w':=k
 by_cases e0:m.length - a=0
 ·have hS2:St B U (L.set j (.row A c T sz (nH f (m.take a)))) w:=by
   refine hS.set hk (Keep.refl w _) ?_ fun b hb=>.inl hb
   rw [kC (by omega)]
   exact hS.at_ _ (nM hk)
  refine OKS.vn (v:=.tuple #[]) (w':=w) ho hd hw ⟨by rw [hop];rfl,?_⟩ (.inl hne) (k w hS2)
  rw [e0] at hx
  generalize (if c=a then A else A.map (fun q:Addr=>q.add (a * sz)))=A2 at hx
  cases A2 <;> simp [execOp,hop,resolve,invoke,builtin,hx,Builtin.clear_,ht,Result.andThen]
 ·obtain ⟨n,hn⟩:∃ n,m.length - a=n + 1:=⟨m.length - a - 1,by omega⟩
  have ml:(nH f m).length=m.length * sz:=wAF hf m
  have hR:=hS.at_ _ (nM hk)
  rcases hR with ⟨_,_,h0⟩ | ⟨b,cur,rfl,g1,g2,g3,g4,g5⟩
  ·rw [h0,kv] at ml
   have:0 < m.length * sz:=Nat.mul_pos (by omega) hz0
   omega
  rw [ml] at g2
  have mc:m.length <= c:=Nat.le_of_mul_le_mul_right g2 hz0
  rw [if_neg (by omega),hn] at hx
  have hx:ev σ x=.slice (some ⟨b,a * sz,none⟩) (n + 1) (c - a):=by
   rw [hx]
   simp [Addr.add]
   exact Eq.symm
  have vl:(Builtin.zeroCells z.cells (n + 1)).toList.length=(n + 1) * sz:=by rw [wRM,hzs]
  have hB:Blk w b T cur.toList:=by unfold Blk;rw [g1]
  have hlt:a * sz + (Builtin.zeroCells z.cells (n + 1)).toList.length <= cur.toList.length:=by
   rw [vl,<- aM,show a + (n + 1)=m.length by omega]
   have:cur.toList.length=c * sz:=by simpa using g4
   rw [this]
   exact g2
  obtain ⟨w',h2,h3,h4,h5⟩:=wDG (P:=P) (T:=T) (a * sz) (Builtin.zeroCells z.cells (n + 1)).toList 0 cur.toList w hB hlt (nV.1 (wUG (by rw [hzs];exact hz0) hz1 (n + 1)))
  have tl:(nH f (m.take a)).length=a * sz:=by rw [wAF hf,kE,nt ha]
  refine OKS.vn (v:=.tuple #[]) (w':=w') ho hd hw ⟨by rw [hop];rfl,?_⟩ (.inl hne) (k w' (hS.set hk (h4.weak fun x _ e=>by rw [e];rfl) (.inr ⟨b,(wEw cur.toList (a * sz + 0) (Builtin.zeroCells z.cells (n + 1)).toList).toArray,rfl,h3,?_,g3,?_,?_⟩) fun b hb=>.inl hb))
  ·simp [execOp,hop,resolve,invoke,builtin,hx,Builtin.clear_,ht,hz,storeCells,h2,Result.andThen]
  ·rw [tl];exact kR _ (by omega)
  ·simp [wCS,g4]
  ·rw [tl,aH]
   have e1:cur.toList.take (a * sz)=nH f (m.take a):=by
    have:=congrArg (List.take (a * sz)) g5
    rw [List.take_take,ml,nt (kR _ ha)] at this
    rw [this,wEh hf]
   rw [<- e1]
   exact wNL _ _ _ _ (nS _)
theorem OKS.append0 {α:Type} {t e sz j c2 bytes b:Nat} {A2:Option Addr} {inf:TypeInfo} {z:Value} {x y:Operand} {enc:α->List Value} {ys zs:List α}
  (ho:l[i]?=some o) (hd:o.dst=some d) (hN:nP d N=true) (hw:wanted l σ o=true) (hop:o.op=.call { callee:=.builtin .append,args:=#[x,y],argTypes:=#[t,t] })
  (ht:P.underlying t=some (.slice e)) (hi:P.info? e=some inf) (hz:inf.zero=some z) (hsize:inf.size=sz) (hzs:z.cells.size=sz) (hsz:nP 0 sz=true) (hby:inf.bytes=bytes) (hb0:nP 0 bytes=true)
  (hS:St B U L w) (hk:L[j]?=some (.row (some ⟨b,0,none⟩) 0 e sz [])) (hx:ev σ x=.slice (some ⟨b,0,none⟩) 0 0) (hy:ev σ y=.slice A2 ys.length c2)
  (hsrc:ys.length=0 \/ ∃ a,A2=some a/\∀ j u,(ys.flatMap enc)[j]?=some u->w.cell? (a.add j)=some u) (hel:∀ x,(enc x).length=sz)
  (happ:app bytes ([]:List α) ys=some zs)
  (k:∀ A' c' w',St B U (L.set j (.row A' c' e sz (zs.flatMap enc))) w'->OKS N P l Q D ks s (upd σ d (.slice A' zs.length c')) w'):OKS N P l Q D ks (.fx i s .stop) σ w:=by
 obtain ⟨e1,hb⟩:=wNt happ
 rw [kO] at e1
 subst zs
 subst hsize hby
 have hb0':0 < inf.bytes:=by simpa [nQ] using hb0
 have hsz':0 < inf.size:=by simpa [nQ] using hsz
 rw [kv,nX] at hb
 by_cases hm:ys.length=0
 ·have:ys=[]:=List.eq_nil_of_length_eq_zero hm
  subst this
  have hr:(Builtin.append_ #[t,t] o.type #[.slice (some ⟨b,0,none⟩) 0 0,.slice A2 0 c2]).run P w=.ok (.slice (some ⟨b,0,none⟩) 0 0) w:=by
   cases A2 <;> simp [Builtin.append_,run_underlying ht,sizeOf,typeInfo,hi,Builtin.lenOf,Builtin.firstCells,loadCells,loadCellsFrom,storeCells]
  refine OKS.v (v:=.slice (some ⟨b,0,none⟩) 0 0) (w':=w) ho hd hN hw ⟨by rw [hop];rfl,?_⟩ (.inr (Keep.refl w _)) (k _ _ _ (hS.set hk (Keep.refl w _) ?_ fun b hb=>.inl hb))
  ·simp only [kv] at hy
   simp [execOp,hop,resolve,invoke,builtin,hx,hy,hr,Result.andThen]
  ·exact hS.at_ _ (nM hk)
 ·obtain ⟨a,rfl,ha⟩:=hsrc.resolve_left hm
  have hl:(ys.flatMap enc).length=ys.length * inf.size:=wAF hel ys
  have hys:ys.length <= ys.length * inf.bytes:=Nat.le_mul_of_pos_right _ hb0'
  have hr:=run_append_grow (P:=P) w t o.type e inf z ht hi hz ⟨b,0,none⟩ 0 0 [] (by simp) (fun j v h=>by simp at h) a ys.length c2 (ys.flatMap enc) hl ha (by omega) (by omega) (growslice_fits (by omega) (by simpa using hb))
  have hG:=grownCap_ge w (0 + ys.length) 0 e
  have hG2:=grownCap_le_maxLen w (0 + ys.length) 0 e (by unfold maxLen;omega)
  generalize grownCap w (0 + ys.length) 0 e=G at hr hG hG2
  rw [nX] at hr hG
  have ec:(([]:List Value).toArray ++ (ys.flatMap enc).toArray ++ Builtin.zeroCells z.cells (G - ys.length))=(ys.flatMap enc ++ (Builtin.zeroCells z.cells (G - ys.length)).toList).toArray:=by
   apply aQ
   simp
  rw [ec] at hr
  have kp:=(Keep.drew w).trans' (wAq w.drew (.cells (ys.flatMap enc ++ (Builtin.zeroCells z.cells (G - ys.length)).toList).toArray e))
  have zl:(Builtin.zeroCells z.cells (G - ys.length)).toList.length=(G - ys.length) * inf.size:=by rw [wRM,hzs]
  refine OKS.v (v:=.slice (some ⟨w.heap.size,0,none⟩) ys.length G) (w':=w.drew.alloc (.cells (ys.flatMap enc ++ (Builtin.zeroCells z.cells (G - ys.length)).toList).toArray e)) ho hd hN hw ⟨by rw [hop];rfl,?_⟩ (.inr kp) (k _ _ _ (hS.set hk (kp.weak fun x _ h=>h.elim) (.inr ⟨_,(ys.flatMap enc ++ (Builtin.zeroCells z.cells (G - ys.length)).toList).toArray,rfl,wEg w.drew _ e,?_,hG2,?_,?_⟩) fun b hb=>.inr ?_))
  ·simp [execOp,hop,resolve,invoke,builtin,hx,hy,hr,Result.andThen]
  ·rw [hl];exact kR _ hG
  ·simp only [List.size_toArray,aJ,zl,hl,<- aM]
   rw [show ys.length + (G - ys.length)=G by omega]
  ·simp
  ·have hb:w.heap.size=b:=ku hb
   exact Nat.le_of_eq hb
end
section
variable {N:Nat} {P:Program} {l:List Oper} {Q:wDr} {D:List Deferred} {ks:List Nat} {s:Sch} {σ:Env} {w:World} {B:Base} {U:PHeap} {L:List Res} {i d:Nat} {o:Oper}
theorem wNM (v:Value) (k n:Nat) (hk:0 < k):madeCells (nY k v) n=(nO n v).toArray:=by
 apply aQ
 simp only [madeCells]
 apply List.ext_getElem
 ·simp
 ·intro i h1 h2
  simp at h1 ⊢
  have hm:i % k < (nY k v).size:=by simpa using Nat.mod_lt i hk
  rw [getElem!_pos (nY k v) (i % k) hm]
  simp
theorem wHF {α:Type} {enc:α->List Value} {z:α} {v:Value} {k:Nat} (h:enc z=nO k v) (n:Nat):nH enc (nO n z)=nO (n * k) v:=by
 induction n with
 | zero=>simp
 | succ n ih=>rw [nr,nJ,ih,h,List.replicate_append_replicate,aM,Nat.one_mul,aK]
theorem OKS.makeSliceZ {α:Type} {t e:TypeId} {inf:TypeInfo} {x y:Operand} {n:Int} {v u:Value} {enc:α->List Value} {z:α} {xs:List α} {sz:Nat} (ho:l[i]?=some o) (hd:o.dst=some d) (hN:nP d N=true) (hw:wanted l σ o=true) (hop:o.op=.makeSlice t x y)
  (ht:P.underlying t=some (.slice e)) (hi:P.info? e=some inf) (hz:inf.zero=some u) (hc:u.cells=nY sz v) (hs:inf.size=sz) (henc:enc z=nO sz v) (hsz:0 < sz) (hb:sz <= 16) (hx:ev σ x=.int .i64 n) (hy:ev σ y=.int .i64 n) (hm:mkz inf.bytes n z=some xs) (hS:St B U L w)
  (k:∀ w' b,St B U (.row (some ⟨b,0,none⟩) xs.length e sz (nH enc xs) :: L) w'->OKS N P l Q D ks s (upd σ d (.slice (some ⟨b,0,none⟩) xs.length xs.length)) w'):OKS N P l Q D ks (.fx i s .stop) σ w:=by
 unfold mkz at hm
 split at hm
 ·rename_i h
  obtain ⟨h0,h1,h2⟩:=h
  cases hm
  obtain ⟨m,rfl⟩:=na h0
  have hr:=run_make (P:=P) w t e inf _ ht hi hz .i64 .i64 (m:Int) (m:Int) (by omega) (by omega) h2 (by omega)
  simp only [hs,ni,hc,wNM v sz (m * sz) hsz] at hr
  simp only [ni,kH,wHF henc] at k
  have hmax:m <= maxLen:=by
   have h16:(16777216:Nat) <= maxLen:=by decide
   omega
  refine OKS.v (v:=.slice (some ⟨w.heap.size,0,none⟩) m m) (w':=w.alloc (.cells (nO (m * sz) v).toArray e)) ho hd hN hw ⟨by rw [hop];rfl,?_⟩ (.inr (wAq w _))
   (k _ _ (hS.new (wAq w _) (.inr ⟨_,(nO (m * sz) v).toArray,rfl,wEg w _ e,by simp,hmax,by simp,by simp⟩) rfl (nS _)))
  simp [execOp,hop,hx,hy,hr,Result.andThen]
 ·cases hm
end
end Go.KL
namespace Go.KX
noncomputable section
open Go.RowKit Go.KL
inductive Pos
 | H
 | O (p:Pos)
 | I (p:Pos)
 deriving DecidableEq
def Pos.succ (p:Pos):Pos:=Pos.rec (motive:=fun _=>Pos) (.O .H) (fun q _=>.I q) (fun _ s=>.O s) p
theorem Pos.succ_I (p:Pos):(Pos.I p).succ=.O p.succ:=rfl
def Pos.nat:Pos->Nat
 | .H=>1
 | .O p=>2 * p.nat
 | .I p=>2 * p.nat + 1
def Pos.beq:Pos->Pos->Bool
 | .H,.H=>true
 | .O p,.O q=>p.beq q
 | .I p,.I q=>p.beq q
 | _,_=>false
theorem Pos.nat_succ (p:Pos):p.succ.nat=p.nat + 1:=by
 induction p with
 | H=>rfl
 | O p _=>rfl
 | I p ih=>rw [Pos.succ_I];simp only [Pos.nat,ih];omega
theorem Pos.nat_pos (p:Pos):0 < p.nat:=by
 induction p with
 | H=>decide
 | O p ih=>simp only [Pos.nat];omega
 | I p ih=>simp only [Pos.nat];omega
theorem Pos.nat_inj:∀ {p q:Pos},p.nat=q.nat->p=q
 | .H,.H,_=>rfl
 | .H,.O q,h=>by have:=q.nat_pos;simp only [Pos.nat] at h;omega
 | .H,.I q,h=>by have:=q.nat_pos;simp only [Pos.nat] at h;omega
 | .O p,.H,h=>by have:=p.nat_pos;simp only [Pos.nat] at h;omega
 | .I p,.H,h=>by have:=p.nat_pos;simp only [Pos.nat] at h;omega
 | .O p,.O q,h=>by simp only [Pos.nat] at h;rw [Pos.nat_inj (p:=p) (q:=q) (by omega)]
 | .I p,.I q,h=>by simp only [Pos.nat] at h;rw [Pos.nat_inj (p:=p) (q:=q) (by omega)]
 | .O p,.I q,h=>by simp only [Pos.nat] at h;omega
 | .I p,.O q,h=>by simp only [Pos.nat] at h;omega
theorem Pos.beq_eq:∀ {p q:Pos},p.beq q=true->p=q
 | .H,.H,_=>rfl
 | .O p,.O q,h=>by rw [Pos.beq_eq (p:=p) (q:=q) h]
 | .I p,.I q,h=>by rw [Pos.beq_eq (p:=p) (q:=q) h]
 | .H,.O _,h=>by cases h
 | .H,.I _,h=>by cases h
 | .O _,.H,h=>by cases h
 | .I _,.H,h=>by cases h
 | .O _,.I _,h=>by cases h
 | .I _,.O _,h=>by cases h
def Pos.ltb (e:Bool):Pos->Pos->Bool
 | .H,.H=>e
 | .H,_=>true
 | _,.H=>false
 | .O p,.O q=>Pos.ltb e p q
 | .I p,.I q=>Pos.ltb e p q
 | .O p,.I q=>Pos.ltb true p q
 | .I p,.O q=>Pos.ltb false p q
theorem Pos.ltb_iff:∀ (p q:Pos) (e:Bool),Pos.ltb e p q=true ↔ p.nat < q.nat \/ (e=true/\p.nat=q.nat)
 | .H,.H,e=>by simp [Pos.ltb]
 | .H,.O q,e=>by have:=q.nat_pos;simp only [Pos.ltb,Pos.nat];exact ⟨fun _=>.inl (by omega),fun _=>trivial⟩
 | .H,.I q,e=>by have:=q.nat_pos;simp only [Pos.ltb,Pos.nat];exact ⟨fun _=>.inl (by omega),fun _=>trivial⟩
 | .O p,.H,e=>by have:=p.nat_pos;simp only [Pos.ltb,Pos.nat];constructor <;> intro h <;> first | cases h;done | (exfalso;omega)
 | .I p,.H,e=>by have:=p.nat_pos;simp only [Pos.ltb,Pos.nat];constructor <;> intro h <;> first | cases h;done | (exfalso;omega)
 | .O p,.O q,e=>by rw [Pos.ltb,Pos.ltb_iff p q e];simp only [Pos.nat];cases e <;> simp <;> omega
 | .I p,.I q,e=>by rw [Pos.ltb,Pos.ltb_iff p q e];simp only [Pos.nat];cases e <;> simp <;> omega
 | .O p,.I q,e=>by rw [Pos.ltb,Pos.ltb_iff p q true];simp only [Pos.nat];cases e <;> simp <;> omega
 | .I p,.O q,e=>by rw [Pos.ltb,Pos.ltb_iff p q false];simp only [Pos.nat];cases e <;> simp <;> omega
inductive Tr (α:Type)
 | e
 | n (l:Tr α) (v:Option α) (r:Tr α)
variable {α:Type}
def Tr.get (t:Tr α):Pos->Option α :=
 Tr.rec (motive:=fun _=>Pos->Option α) (fun _=>none) (fun _ v _ gl gr p=>Pos.rec (motive:=fun _=>Option α) v (fun q _=>gl q) (fun q _=>gr q) p) t
def Tr.one (p:Pos) (a:α):Tr α:=Pos.rec (motive:=fun _=>Tr α) (.n .e (some a) .e) (fun _ t=>.n t none .e) (fun _ t=>.n .e none t) p
def Tr.set (t:Tr α) (p:Pos) (a:α):Tr α :=
 Tr.rec (motive:=fun _=>Pos->Tr α) (fun p=>Tr.one p a) (fun l v r sl sr p=>Pos.rec (motive:=fun _=>Tr α) (.n l (some a) r) (fun q _=>.n (sl q) v r) (fun q _=>.n l v (sr q)) p) t p
theorem Tr.get_e (p:Pos):(Tr.e:Tr α).get p=none:=rfl
theorem Tr.get_H (l r:Tr α) (v:Option α):(Tr.n l v r).get .H=v:=rfl
theorem Tr.get_I (l r:Tr α) (v:Option α) (p:Pos):(Tr.n l v r).get (.I p)=r.get p:=rfl
theorem Tr.get_O (l r:Tr α) (v:Option α) (p:Pos):(Tr.n l v r).get (.O p)=l.get p:=rfl
theorem Tr.one_H (a:α):Tr.one .H a=.n .e (some a) .e:=rfl
theorem Tr.one_O (p:Pos) (a:α):Tr.one (.O p) a=.n (Tr.one p a) none .e:=rfl
theorem Tr.one_I (p:Pos) (a:α):Tr.one (.I p) a=.n .e none (Tr.one p a):=rfl
theorem Tr.set_e (p:Pos) (a:α):(Tr.e:Tr α).set p a=Tr.one p a:=rfl
theorem Tr.set_H (l r:Tr α) (v:Option α) (a:α):(Tr.n l v r).set .H a=.n l (some a) r:=rfl
theorem Tr.set_O (l r:Tr α) (v:Option α) (p:Pos) (a:α):(Tr.n l v r).set (.O p) a=.n (l.set p a) v r:=rfl
theorem Tr.set_I (l r:Tr α) (v:Option α) (p:Pos) (a:α):(Tr.n l v r).set (.I p) a=.n l v (r.set p a):=rfl
theorem Tr.get_one:∀ (p q:Pos) (a:α),(Tr.one p a).get q=if q=p then some a else none
 | .H,.H,a=>rfl
 | .H,.O q,a=>by simp [Tr.one_H,Tr.get_O,Tr.get_e]
 | .H,.I q,a=>by simp [Tr.one_H,Tr.get_I,Tr.get_e]
 | .O p,.H,a=>by simp [Tr.one_O,Tr.get_H]
 | .O p,.O q,a=>by simp only [Tr.one_O,Tr.get_O,Tr.get_one p q a,Pos.O.injEq]
 | .O p,.I q,a=>by simp [Tr.one_O,Tr.get_I,Tr.get_e]
 | .I p,.H,a=>by simp [Tr.one_I,Tr.get_H]
 | .I p,.O q,a=>by simp [Tr.one_I,Tr.get_O,Tr.get_e]
 | .I p,.I q,a=>by simp only [Tr.one_I,Tr.get_I,Tr.get_one p q a,Pos.I.injEq]
theorem Tr.get_set:∀ (t:Tr α) (p q:Pos) (a:α),(t.set p a).get q=if q=p then some a else t.get q
 | .e,p,q,a=>by simp only [Tr.set_e,Tr.get_one,Tr.get_e]
 | .n l v r,.H,.H,a=>rfl
 | .n l v r,.H,.O q,a=>by simp [Tr.set_H,Tr.get_O]
 | .n l v r,.H,.I q,a=>by simp [Tr.set_H,Tr.get_I]
 | .n l v r,.O p,.H,a=>by simp [Tr.set_O,Tr.get_H]
 | .n l v r,.O p,.O q,a=>by simp only [Tr.set_O,Tr.get_O,Tr.get_set l p q a,Pos.O.injEq]
 | .n l v r,.O p,.I q,a=>by simp [Tr.set_O,Tr.get_I]
 | .n l v r,.I p,.H,a=>by simp [Tr.set_I,Tr.get_H]
 | .n l v r,.I p,.O q,a=>by simp [Tr.set_I,Tr.get_O]
 | .n l v r,.I p,.I q,a=>by simp only [Tr.set_I,Tr.get_I,Tr.get_set r p q a,Pos.I.injEq]
inductive AV
 | int (k:IntKind) (n:Int)
 | bool (b:Bool)
 | ptr (b:Pos) (off:Nat)
 | pnil
 | sl (b:Pos) (off len cap:Nat)
 | rw (b:Pos) (eo co len:Nat)
 | rz (b:Pos) (eo:Nat)
 | snil
 | map (b:Pos)
 | mnil
 | fn (f:Pos) (fi ca:List AV)
 | yld (b:Pos)
 | fnil
 | agg (l:List AV)
 | tup (l:List AV)
inductive AOd
 | t (p:Pos)
 | c (v:AV)
inductive Sh
 | int
 | bool
 | str (fs:List (Nat × Nat × Sh))
inductive AOp
 | mv (x:AOd)
 | pick (c x y:AOd)
 | new (T:Nat) (z:List AV)
 | box (T:Nat) (x:AOd)
 | ld (x:AOd)
 | ldA (n:Nat) (x:AOd)
 | st (n:Nat) (x y:AOd)
 | nilc (x:AOd)
 | add (x y:AOd) | sub (x y:AOd) | mul (x y:AOd) | quo (x y:AOd) | rem (x y:AOd)
 | lss (x y:AOd) | leq (x y:AOd) | gtr (x y:AOd) | geq (x y:AOd) | eql (x y:AOd) | neq (x y:AOd)
 | eqb (ne:Bool) (x y:AOd)
 | eqn (k:Nat) (ne:Bool) (x y:AOd)
 | eqs (ne:Bool) (s:Sh) (x y:AOd)
 | neg (x:AOd) | not (x:AOd)
 | cvt (k:IntKind) (x:AOd)
 | mkf (f:Pos) (fi ca:List AOd)
 | mkm
 | mks (T sz bytes:Nat) (z:List AV) (x y:AOd)
 | slc (sz:Nat) (x:AOd) (lo hi mx:Option AOd)
 | slcA (sz n:Nat) (x:AOd) (lo hi:Option AOd)
 | fad (off:Nat) (x:AOd)
 | fld (off:Nat) (x:AOd) | fldA (off n:Nat) (x:AOd)
 | iad (sz:Nat) (x y:AOd) | iadA (sz n:Nat) (x y:AOd)
 | ix (n:Nat) (x y:AOd) | ixA (sz n:Nat) (x y:AOd)
 | lk (two:Bool) (k:IntKind) (ok:Bool) (z:AV) (x y:AOd)
 | mput (two:Bool) (k:IntKind) (x y z:AOd)
 | mdel (two:Bool) (k:IntKind) (x y:AOd)
 | ext (i:Nat) (x:AOd)
 | bld (z:List AV) (ps:List (Nat × Nat × AOd))
 | blds (T len:Nat) (z:List AV) (ps:List (Nat × Nat × AOd))
 | len (x:AOd) | lenM (x:AOd) | cap (x:AOd)
 | app (T sz bytes:Nat) (x y:AOd)
 | cpy (sz:Nat) (x y:AOd)
 | clr (z:List AV) (x:AOd)
 | min (x y:AOd) | max (x y:AOd)
 | call (x:AOd) (l:List AOd)
 | bad
 | and (x y:AOd) | shr (x y:AOd)
 | ixs (l:List Nat) (y:AOd)
 | apz (T sz bytes:Nat) (z:List AV) (x y:AOd)
structure AO where
 ix:Nat
 kd:Nat
 dst:Option Pos
 grd:Option (Pos × Bool)
 op:AOp
inductive Ex
 | nrm
 | exit (i:Nat)
 | ret
inductive AC
 | skip
 | rg (l:List AO)
 | seq (a b:AC)
 | cond (c:AOd) (a b:AC)
 | block (i:Nat) (a:AC)
 | loop (a:AC)
 | rf (g:AOd) (t:List Pos) (asg body:AC)
 | exit (i:Nat)
 | scope (a:AC)
 | ret
 | no
inductive AR
 | t (p:Pos)
 | c (p:Pos) (n:Option Nat)
structure AF where
 n:Nat
 res:List AR
 body:AC
inductive LS
 | ready
 | busy
 | done (e:Ex)
inductive AB
 | cells (T:Nat) (l:List AV)
 | row (T sz:Nat) (l:List AV)
 | mapI (k:IntKind) (l:List (Int × AV))
 | map2 (k:IntKind) (l:List ((Int × Int) × AV))
 | map0
 | loop (σ:Tr AV) (t:List Pos) (asg body:AC) (s:LS)
 | dead
structure AH where
 m:Tr AB
 nx:Pos
 fl:Pos
def AH.push (h:AH) (b:AB):AH:=⟨h.m.set h.nx b,h.nx.succ,h.fl⟩
def AH.put (h:AH) (p:Pos) (b:AB):Option AH:=match Pos.ltb false p h.fl with
 | true=>none
 | false=>some ⟨h.m.set p b,h.nx,h.fl⟩
def nth (l:List α):Nat->Option α :=
 nh (motive:=fun _=>Nat->Option α) (fun _=>none) (fun a _ ih n=>kM (motive:=fun _=>Option α) (some a) (fun m _=>ih m) n) l
def wLi (a:α) (o:Option (List α)):Option (List α):=nT (motive:=fun _=>Option (List α)) none (fun r=>some (a :: r)) o
def tk (l:List α):Nat->Option (List α) :=
 nh (motive:=fun _=>Nat->Option (List α)) (fun n=>kM (motive:=fun _=>Option (List α)) (some []) (fun _ _=>none) n)
 (fun a _ ih n=>kM (motive:=fun _=>Option (List α)) (some []) (fun m _=>wLi a (ih m)) n) l
def sub (l:List α) (off n:Nat):Option (List α) :=
 nh (motive:=fun _=>Nat->Option (List α)) (fun off=>kM (motive:=fun _=>Option (List α)) (tk [] n) (fun _ _=>none) off)
 (fun a l ih off=>kM (motive:=fun _=>Option (List α)) (tk (a :: l) n) (fun m _=>ih m) off) l off
def ov (l:List α):List α->Option (List α) :=
 nh (motive:=fun _=>List α->Option (List α)) (fun vs=>nh (motive:=fun _=>Option (List α)) (some []) (fun _ _ _=>none) vs)
 (fun a l ih vs=>nh (motive:=fun _=>Option (List α)) (some (a :: l)) (fun v vs _=>wLi v (ih vs)) vs) l
def wRs (l:List α) (off:Nat) (vs:List α):Option (List α) :=
 nh (motive:=fun _=>Nat->Option (List α)) (fun off=>kM (motive:=fun _=>Option (List α)) (ov [] vs) (fun _ _=>none) off)
 (fun a l ih off=>kM (motive:=fun _=>Option (List α)) (ov (a :: l) vs) (fun m _=>wLi a (ih m)) off) l off
def len (l:List α):Nat:=nh (motive:=fun _=>Nat) 0 (fun _ _ n=>Nat.succ n) l
def u:AV:=.tup []
def evA (σ:Tr AV) (x:AOd):AV :=
 AOd.rec (motive:=fun _=>AV) (fun p=>nT (motive:=fun _=>AV) u (fun v=>v) (σ.get p)) (fun v=>v) x
def evs (σ:Tr AV) (l:List AOd):List AV:=nh (motive:=fun _=>List AV) [] (fun x _ ih=>evA σ x :: ih) l
def AV.cells:AV->List AV
 | .agg l=>l
 | v=>[v]
def AV.one:AV->Bool
 | .agg _ | .tup _=>false
 | _=>true
def wRt:List AV->Bool
 | []=>true
 | v :: l=>v.one && wRt l
def zlt:Int->Int->Bool
 | .ofNat a,.ofNat b=>nP a b
 | .negSucc _,.ofNat _=>true
 | .ofNat _,.negSucc _=>false
 | .negSucc a,.negSucc b=>nP b a
def zle (a b:Int):Bool:=!zlt b a
def zeq:Int->Int->Bool
 | .ofNat a,.ofNat b=>nG a b
 | .negSucc a,.negSucc b=>nG a b
 | _,_=>false
def keq:IntKind->IntKind->Bool
 | .i64,.i64=>true
 | .u8,.u8=>true
 | .u32,.u32=>true
 | .u64,.u64=>true
 | .i32,.i32=>true
 | _,_=>false
def inK:IntKind->Int->Bool
 | .i64,.ofNat n=>nP n 9223372036854775808
 | .i64,.negSucc n=>nP n 9223372036854775808
 | .u8,.ofNat n=>nP n 256
 | .u32,.ofNat n=>nP n 4294967296
 | .u64,.ofNat n=>nP n 18446744073709551616
 | _,_=>false
def wLj (f:Int->Int->Int):AV->AV->Option AV
 | .int k a,.int k' b=>match keq k k' with
  | true=>match inK k (f a b) with
   | true=>some (.int k (f a b))
   | false=>none
  | false=>none
 | _,_=>none
def div (f:Int->Int->Int):AV->AV->Option AV
 | .int k a,.int k' b=>match keq k k' with
  | true=>match zeq b 0 with
   | true=>none
   | false=>match inK k (f a b) with
    | true=>some (.int k (f a b))
    | false=>none
  | false=>none
 | _,_=>none
def wQD (f:Int->Int->Bool):AV->AV->Option AV
 | .int k a,.int k' b=>match keq k k' with
  | true=>some (.bool (f a b))
  | false=>none
 | _,_=>none
def wNO (k:Nat) (x y:AV):Option Bool:=match k,x,y with
 | 0,.pnil,.pnil=>some true
 | 0,.pnil,.ptr _ _=>some false
 | 0,.ptr _ _,.pnil=>some false
 | 1,.snil,.snil=>some true
 | 1,.snil,.sl _ _ _ _=>some false
 | 1,.snil,.rw _ _ _ _=>some false
 | 1,.sl _ _ _ _,.snil=>some false
 | 1,.rw _ _ _ _,.snil=>some false
 | 1,.snil,.rz _ _=>some false
 | 1,.rz _ _,.snil=>some false
 | 2,.mnil,.mnil=>some true
 | 2,.mnil,.map _=>some false
 | 2,.map _,.mnil=>some false
 | 3,.fnil,.fnil=>some true
 | 3,.fnil,.fn _ _ _=>some false
 | 3,.fn _ _ _,.fnil=>some false
 | _,_,_=>none
def wQE (s:Sh) (l:List AV) (off sz:Nat):Option AV :=
 match s with
 | .str _=>match sub l off sz with
  | some r=>some (.agg r)
  | none=>none
 | _=>nth l off
mutual
def wQF:Sh->AV->AV->Option Bool
 | .int,.int k a,.int k' b=>match keq k k' with
  | true=>some (zeq a b)
  | false=>none
 | .bool,.bool a,.bool b=>some (a == b)
 | .str fs,.agg xs,.agg ys=>wUH fs xs ys
 | _,_,_=>none
def wUH:List (Nat × Nat × Sh)->List AV->List AV->Option Bool
 | [],_,_=>some true
 | (off,sz,s) :: fs,xs,ys=>match wQE s xs off sz,wQE s ys off sz with
  | some x,some y=>match wQF s x y with
   | some true=>wUH fs xs ys
   | r=>r
  | _,_=>none
end
def wJk (σ:Tr AV):List AV->List (Nat × Nat × AOd)->Option (List AV)
 | cs,[]=>some cs
 | cs,(off,n,x) :: ps=>match nG (len (evA σ x).cells) n with
  | true=>match wRs cs off (evA σ x).cells with
   | some cs'=>wJk σ cs' ps
   | none=>none
  | false=>none
def wIV:AV->Option Nat
 | .int .i64 (.ofNat n)=>some n
 | _=>none
def boundOf (σ:Tr AV) (d:Nat):Option AOd->Option Nat
 | none=>some d
 | some x=>wIV (evA σ x)
def rep:Nat->List α->List α
 | 0,_=>[]
 | n + 1,l=>l ++ rep n l
def wNP:List ((Int × Int) × AV)->Int->Int->Option AV
 | [],_,_=>none
 | ((a,b),v) :: l,x,y=>match zeq x a && zeq y b with
  | true=>some v
  | false=>wNP l x y
def wNQ:List (Int × AV)->Int->Option AV
 | [],_=>none
 | (a,v) :: l,x=>match zeq x a with
  | true=>some v
  | false=>wNQ l x
def wOM:List ((Int × Int) × AV)->Int->Int->AV->List ((Int × Int) × AV)
 | [],x,y,v=>[((x,y),v)]
 | ((a,b),w) :: l,x,y,v=>match zeq x a && zeq y b with
  | true=>((x,y),v) :: l
  | false=>((a,b),w) :: wOM l x y v
def wON:List (Int × AV)->Int->AV->List (Int × AV)
 | [],x,v=>[(x,v)]
 | (a,w) :: l,x,v=>match zeq x a with
  | true=>(x,v) :: l
  | false=>(a,w) :: wON l x v
def wOO:List ((Int × Int) × AV)->Int->Int->List ((Int × Int) × AV)
 | [],_,_=>[]
 | ((a,b),w) :: l,x,y=>match zeq x a && zeq y b with
  | true=>l
  | false=>((a,b),w) :: wOO l x y
def wOP:List (Int × AV)->Int->List (Int × AV)
 | [],_=>[]
 | (a,w) :: l,x=>match zeq x a with
  | true=>l
  | false=>(a,w) :: wOP l x
def wMW:AB->Option (List AV)
 | .cells _ l=>some l
 | .row _ _ l=>some l
 | _=>none
def wGJ (h:AH) (b:Pos):Option (List AV):=match h.m.get b with
 | some B=>wMW B
 | none=>none
def wLk (h:AH) (b:Pos) (off:Nat) (vs:List AV):Option AH:=match h.m.get b with
 | some (.cells T l)=>match wRs l off vs with
  | some l'=>h.put b (.cells T l')
  | none=>none
 | some (.row T sz l)=>match wRs l off vs with
  | some l'=>h.put b (.row T sz l')
  | none=>none
 | _=>none
def slice (h:AH) (sz:Nat):AV->Option (Nat × List AV)
 | .snil=>some (0,[])
 | .rz _ _=>some (0,[])
 | .sl b off n _=>match wGJ h b with
  | some l=>match sub l off (n * sz) with
   | some r=>some (n,r)
   | none=>none
  | none=>none
 | .rw b _ co n=>match wGJ h b with
  | some l=>match sub l co (n * sz) with
   | some r=>some (n,r)
   | none=>none
  | none=>none
 | _=>none
def ifO (b:Bool) (x:Option α):Option α:=match b with
 | true=>x
 | false=>none
def app (h:AH) (T sz by_:Nat) (m:Nat) (news:List AV) (x:AV):Option (AV × AH):=match m with
 | 0=>match x with
  | .snil=>some (.snil,h)
  | .sl b off n c=>some (.sl b off n c,h)
  | .rw b eo co n=>some (.rw b eo co n,h)
  | _=>none
 | m + 1=>match x with
  | .snil=>ifO (nR ((m + 1) * by_) 140737488355328) (some (.rw h.nx 0 0 (m + 1),h.push (.row T sz news)))
  | .sl b off n c=>match nR (n + (m + 1)) c with
   | true=>match wLk h b (off + n * sz) news with
    | some h'=>some (.sl b off (n + (m + 1)) c,h')
    | none=>none
   | false=>ifO (nR ((n + (m + 1)) * by_) 140737488355328) (match slice h sz (.sl b off n c) with
    | some (_,olds)=>some (.rw h.nx 0 0 (n + (m + 1)),h.push (.row T sz (olds ++ news)))
    | none=>none)
  | .rw b eo co n=>match h.m.get b with
   | some (.row T' sz' l)=>match nR ((n + (m + 1)) * sz) (len l) && (nG sz sz' && (nG eo 0 && nG co 0)) with
    | true=>match wLk h b (n * sz) news with
     | some h'=>some (.rw b 0 0 (n + (m + 1)),h')
     | none=>none
    | false=>ifO (nG T T' && nG sz sz' && nG eo 0 && nG co 0 && nG (n * sz) (len l) && nR ((n + (m + 1)) * by_) 140737488355328)
     (match h.put b .dead with
      | some h'=>some (.rw h.nx 0 0 (n + (m + 1)),h'.push (.row T sz (l ++ news)))
      | none=>none)
   | _=>none
  | _=>none
def wIW (two:Bool) (k:IntKind) (B:AB) (y:AV):Option (Option AV):=match two,B,y with
 | false,.map0,.int k' _=>ifO (keq k k') (some none)
 | true,.map0,.agg [.int k1 _,.int k2 _]=>ifO (keq k k1 && keq k k2) (some none)
 | false,.mapI k0 l,.int k' n=>ifO (keq k k0 && keq k k') (some (wNQ l n))
 | true,.map2 k0 l,.agg [.int k1 a,.int k2 b]=>ifO (keq k k0 && (keq k k1 && keq k k2)) (some (wNP l a b))
 | _,_,_=>none
def wPq (two:Bool) (k:IntKind) (B:AB) (y v:AV):Option AB:=match two,B,y with
 | false,.map0,.int k' n=>ifO (keq k k') (some (.mapI k [(n,v)]))
 | true,.map0,.agg [.int k1 a,.int k2 b]=>ifO (keq k k1 && keq k k2) (some (.map2 k [((a,b),v)]))
 | false,.mapI k0 l,.int k' n=>ifO (keq k k0 && keq k k') (some (.mapI k (wON l n v)))
 | true,.map2 k0 l,.agg [.int k1 a,.int k2 b]=>ifO (keq k k0 && (keq k k1 && keq k k2)) (some (.map2 k (wOM l a b v)))
 | _,_,_=>none
def wPr (two:Bool) (k:IntKind) (B:AB) (y:AV):Option AB:=match two,B,y with
 | false,.map0,.int k' _=>ifO (keq k k') (some .map0)
 | true,.map0,.agg [.int k1 _,.int k2 _]=>ifO (keq k k1 && keq k k2) (some .map0)
 | false,.mapI k0 l,.int k' n=>ifO (keq k k0 && keq k k') (some (.mapI k (wOP l n)))
 | true,.map2 k0 l,.agg [.int k1 a,.int k2 b]=>ifO (keq k k0 && (keq k k1 && keq k k2)) (some (.map2 k (wOO l a b)))
 | _,_,_=>none
def lenB:AB->Option Nat
 | .map0=>some 0
 | .mapI _ l=>some (len l)
 | .map2 _ l=>some (len l)
 | _=>none
def okV (h:AH):Option AV->Option (AV × AH)
 | some v=>some (v,h)
 | none=>none
def wJS:Option (List AV)->Option AV
 | some l=>some (.agg l)
 | none=>none
def orD (o:Option Nat) (d:Nat):Nat:=match o with
 | some n=>n
 | none=>d
theorem wOQ (o:Option Nat) (d:Nat):orD o d=o.getD d:=by cases o <;> rfl
def wUI (sz:Nat) (v:AV) (lo:Nat) (hi mx:Option Nat):Option AV:=match v with
 | .snil=>ifO (nG lo 0 && (match hi with | some n=>nG n 0 | none=>true) && (match mx with | some n=>nG n 0 | none=>true)) (some .snil)
 | .sl b off n c =>
  let m:=orD mx c
  let h:=orD hi n
  ifO (nR lo h && nR h m && nR m c) (some (.sl b (match nG m lo with | true=>off | false=>off + lo * sz) (h - lo) (m - lo)))
 | .rw b eo co n =>
  let h:=orD hi n
  match mx with
  | none=>ifO (nR lo h && nR h n) (match lo with
   | 0=>some (.rw b eo co h)
   | _=>match nP lo n with
    | true=>some (.rw b (eo + lo) (co + lo * sz) (h - lo))
    | false=>some (.rz b (eo + lo)))
  | some m=>ifO (nR lo h && nR h m && nR m n) (some (.sl b (match nG m lo with | true=>co | false=>co + lo * sz) (h - lo) (m - lo)))
 | _=>none
def clr (h:AH) (z:List AV) (b:Pos) (off n:Nat):Option (AV × AH):=match n with
 | 0=>some (u,h)
 | n + 1=>ifO (wRt z) (match wLk h b off (rep (n + 1) z) with
  | some h'=>some (u,h')
  | none=>none)
def bnd (σ:Tr AV):Option AOd->Option (Option Nat)
 | none=>some none
 | some x=>match wIV (evA σ x) with
  | some n=>some (some n)
  | none=>none
def o_mv (x:AOd) (σ:Tr AV) (h:AH):Option (AV × AH):=some (evA σ x,h)
def wKi (c:AOd) (x:AOd) (y:AOd) (σ:Tr AV) (h:AH):Option (AV × AH):=match evA σ c with
  | .bool true=>some (evA σ x,h)
  | .bool false=>some (evA σ y,h)
  | _=>none
def wUJ (T:Nat) (z:List AV) (σ:Tr AV) (h:AH):Option (AV × AH):=some (.ptr h.nx 0,h.push (.cells T z))
def wRu (T:Nat) (x:AOd) (σ:Tr AV) (h:AH):Option (AV × AH):=some (.ptr h.nx 0,h.push (.cells T (evA σ x).cells))
def o_ld (x:AOd) (σ:Tr AV) (h:AH):Option (AV × AH):=match evA σ x with
  | .ptr b off=>match wGJ h b with
   | some l=>okV h (nth l off)
   | none=>none
  | _=>none
def wQG (n:Nat) (x:AOd) (σ:Tr AV) (h:AH):Option (AV × AH):=match evA σ x with
  | .ptr b off=>match wGJ h b with
   | some l=>okV h (wJS (sub l off n))
   | none=>none
  | _=>none
def o_st (n:Nat) (x:AOd) (y:AOd) (σ:Tr AV) (h:AH):Option (AV × AH):=match evA σ x with
  | .ptr b off=>match nG (len (evA σ y).cells) n && wRt (evA σ y).cells with
   | true=>match wLk h b off (evA σ y).cells with
    | some h'=>some (u,h')
    | none=>none
   | false=>none
  | _=>none
def wKj (x:AOd) (σ:Tr AV) (h:AH):Option (AV × AH):=match evA σ x with
  | .ptr b off=>some (.ptr b off,h)
  | .fn f fi ca=>some (.fn f fi ca,h)
  | .yld b=>some (.yld b,h)
  | _=>none
def wRv (x:AOd) (y:AOd) (σ:Tr AV) (h:AH):Option (AV × AH):=okV h (wLj Int.add (evA σ x) (evA σ y))
def wRw (x:AOd) (y:AOd) (σ:Tr AV) (h:AH):Option (AV × AH):=okV h (wLj Int.sub (evA σ x) (evA σ y))
def wRx (x:AOd) (y:AOd) (σ:Tr AV) (h:AH):Option (AV × AH):=okV h (wLj Int.mul (evA σ x) (evA σ y))
def wRy (x:AOd) (y:AOd) (σ:Tr AV) (h:AH):Option (AV × AH):=okV h (div Int.tdiv (evA σ x) (evA σ y))
def wRz (x:AOd) (y:AOd) (σ:Tr AV) (h:AH):Option (AV × AH):=okV h (div Int.tmod (evA σ x) (evA σ y))
def wSA (x:AOd) (y:AOd) (σ:Tr AV) (h:AH):Option (AV × AH):=okV h (wQD zlt (evA σ x) (evA σ y))
def wSB (x:AOd) (y:AOd) (σ:Tr AV) (h:AH):Option (AV × AH):=okV h (wQD zle (evA σ x) (evA σ y))
def wSC (x:AOd) (y:AOd) (σ:Tr AV) (h:AH):Option (AV × AH):=okV h (wQD (fun a b=>zlt b a) (evA σ x) (evA σ y))
def wSD (x:AOd) (y:AOd) (σ:Tr AV) (h:AH):Option (AV × AH):=okV h (wQD (fun a b=>zle b a) (evA σ x) (evA σ y))
def wSE (x:AOd) (y:AOd) (σ:Tr AV) (h:AH):Option (AV × AH):=okV h (wQD zeq (evA σ x) (evA σ y))
def wSF (x:AOd) (y:AOd) (σ:Tr AV) (h:AH):Option (AV × AH):=okV h (wQD (fun a b=>!zeq a b) (evA σ x) (evA σ y))
def wOR (ne:Bool) (x:AOd) (y:AOd) (σ:Tr AV) (h:AH):Option (AV × AH):=match evA σ x,evA σ y with
  | .bool a,.bool b=>some (.bool (ne != (a == b)),h)
  | _,_=>none
def wOS (k:Nat) (ne:Bool) (x:AOd) (y:AOd) (σ:Tr AV) (h:AH):Option (AV × AH):=match wNO k (evA σ x) (evA σ y) with
  | some b=>some (.bool (ne != b),h)
  | none=>none
def wOT (ne:Bool) (s:Sh) (x:AOd) (y:AOd) (σ:Tr AV) (h:AH):Option (AV × AH):=match wQF s (evA σ x) (evA σ y) with
  | some b=>some (.bool (ne != b),h)
  | none=>none
def wSG (x:AOd) (σ:Tr AV) (h:AH):Option (AV × AH):=okV h (wLj Int.sub (match evA σ x with | .int k _=>.int k 0 | _=>u) (evA σ x))
def wOU (x:AOd) (σ:Tr AV) (h:AH):Option (AV × AH):=match evA σ x with
  | .bool b=>some (.bool (!b),h)
  | _=>none
def wOV (k:IntKind) (x:AOd) (σ:Tr AV) (h:AH):Option (AV × AH):=match evA σ x with
  | .int _ n=>ifO (inK k n) (some (.int k n,h))
  | _=>none
def wNR (f:Pos) (fi:List AOd) (ca:List AOd) (σ:Tr AV) (h:AH):Option (AV × AH):=some (.fn f (evs σ fi) (evs σ ca),h)
def wUK  (σ:Tr AV) (h:AH):Option (AV × AH):=some (.map h.nx,h.push .map0)
def wOW (T:Nat) (sz:Nat) (by_:Nat) (z:List AV) (x:AOd) (y:AOd) (σ:Tr AV) (h:AH):Option (AV × AH):=match wIV (evA σ x),wIV (evA σ y) with
  | some l,some c=>ifO (nR l c && nR (c * sz) 16777216 && nR (by_ * c) 281474976710656 && nR c 16777216) (some (.sl h.nx 0 l c,h.push (.cells T (rep c z))))
  | _,_=>none
def wLl (sz:Nat) (x:AOd) (lo:Option AOd) (hi:Option AOd) (mx:Option AOd) (σ:Tr AV) (h:AH):Option (AV × AH):=match bnd σ lo,bnd σ hi,bnd σ mx with
  | some l,some hh,some m=>okV h (wUI sz (evA σ x) (orD l 0) hh m)
  | _,_,_=>none
def wIX (sz:Nat) (n:Nat) (x:AOd) (lo:Option AOd) (hi:Option AOd) (σ:Tr AV) (h:AH):Option (AV × AH):=match bnd σ lo,bnd σ hi,evA σ x with
  | some l,some hh,.ptr b off=>okV h (wUI sz (.sl b off n n) (orD l 0) hh none)
  | _,_,_=>none
def wOX (off:Nat) (x:AOd) (σ:Tr AV) (h:AH):Option (AV × AH):=match evA σ x with
  | .ptr b o=>some (.ptr b (o + off),h)
  | _=>none
def wOY (off:Nat) (x:AOd) (σ:Tr AV) (h:AH):Option (AV × AH):=match evA σ x with
  | .agg l=>okV h (nth l off)
  | _=>none
def wKk (off:Nat) (n:Nat) (x:AOd) (σ:Tr AV) (h:AH):Option (AV × AH):=match evA σ x with
  | .agg l=>okV h (wJS (sub l off n))
  | _=>none
def wOZ (sz:Nat) (x:AOd) (y:AOd) (σ:Tr AV) (h:AH):Option (AV × AH):=match evA σ x,wIV (evA σ y) with
  | .sl b off n _,some i=>ifO (nP i n) (some (.ptr b (off + i * sz),h))
  | .rw b _ co n,some i=>ifO (nP i n) (some (.ptr b (co + i * sz),h))
  | _,_=>none
def wKl (sz:Nat) (n:Nat) (x:AOd) (y:AOd) (σ:Tr AV) (h:AH):Option (AV × AH):=match evA σ x,wIV (evA σ y) with
  | .ptr b off,some i=>ifO (nP i n) (some (.ptr b (off + i * sz),h))
  | _,_=>none
def wUL (n:Nat) (x:AOd) (y:AOd) (σ:Tr AV) (h:AH):Option (AV × AH):=match evA σ x,wIV (evA σ y) with
  | .agg l,some i=>ifO (nP i n) (okV h (nth l i))
  | _,_=>none
def wOa (sz:Nat) (n:Nat) (x:AOd) (y:AOd) (σ:Tr AV) (h:AH):Option (AV × AH):=match evA σ x,wIV (evA σ y) with
  | .agg l,some i=>ifO (nP i n) (okV h (wJS (sub l (i * sz) sz)))
  | _,_=>none
def o_lk (two:Bool) (k:IntKind) (ok:Bool) (z:AV) (x:AOd) (y:AOd) (σ:Tr AV) (h:AH):Option (AV × AH):=match evA σ x with
  | .map b=>match h.m.get b with
   | some B=>match wIW two k B (evA σ y) with
    | some (some v)=>some (match ok with | true=>.tup [v,.bool true] | false=>v,h)
    | some none=>some (match ok with | true=>.tup [z,.bool false] | false=>z,h)
    | none=>none
   | none=>none
  | _=>none
def wMX (two:Bool) (k:IntKind) (x:AOd) (y:AOd) (z:AOd) (σ:Tr AV) (h:AH):Option (AV × AH):=match evA σ x with
  | .map b=>match h.m.get b with
   | some B=>match wPq two k B (evA σ y) (evA σ z) with
    | some B'=>match h.put b B' with
     | some h'=>some (u,h')
     | none=>none
    | none=>none
   | none=>none
  | _=>none
def wMY (two:Bool) (k:IntKind) (x:AOd) (y:AOd) (σ:Tr AV) (h:AH):Option (AV × AH):=match evA σ x with
  | .map b=>match h.m.get b with
   | some B=>match wPr two k B (evA σ y) with
    | some B'=>match h.put b B' with
     | some h'=>some (u,h')
     | none=>none
    | none=>none
   | none=>none
  | _=>none
def wOb (i:Nat) (x:AOd) (σ:Tr AV) (h:AH):Option (AV × AH):=match evA σ x with
  | .tup l=>okV h (nth l i)
  | _=>none
def wOc (z:List AV) (ps:List (Nat × Nat × AOd)) (σ:Tr AV) (h:AH):Option (AV × AH):=okV h (wJS (wJk σ z ps))
def wIY (T:Nat) (n:Nat) (z:List AV) (ps:List (Nat × Nat × AOd)) (σ:Tr AV) (h:AH):Option (AV × AH):=match wJk σ z ps with
  | some l=>some (.sl h.nx 0 n n,h.push (.cells T l))
  | none=>none
def wOd (x:AOd) (σ:Tr AV) (h:AH):Option (AV × AH):=match evA σ x with
 | .snil=>some (.int .i64 0,h)
 | .sl _ _ n _=>some (.int .i64 (.ofNat n),h)
 | .rw _ _ _ n=>some (.int .i64 (.ofNat n),h)
 | .rz _ _=>some (.int .i64 0,h)
 | _=>none
def wMZ (x:AOd) (σ:Tr AV) (h:AH):Option (AV × AH):=match evA σ x with
 | .mnil=>some (.int .i64 0,h)
 | .map b=>match h.m.get b with
  | some B=>match lenB B with
   | some n=>some (.int .i64 (.ofNat n),h)
   | none=>none
  | none=>none
 | _=>none
def wOe (x:AOd) (σ:Tr AV) (h:AH):Option (AV × AH):=match evA σ x with
  | .snil=>some (.int .i64 0,h)
  | .sl _ _ _ c=>some (.int .i64 (.ofNat c),h)
  | _=>none
def wQH (T:Nat) (sz:Nat) (by_:Nat) (x:AOd) (y:AOd) (σ:Tr AV) (h:AH):Option (AV × AH):=match slice h sz (evA σ y) with
  | some (m,news)=>ifO (wRt news) (app h T sz by_ m news (evA σ x))
  | none=>none
def wQI (sz:Nat) (x:AOd) (y:AOd) (σ:Tr AV) (h:AH):Option (AV × AH):=match evA σ x,slice h sz (evA σ y) with
  | .sl b off n _,some (m,news)=>match sub news 0 ((if nR m n then m else n) * sz) with
   | some vs=>ifO (wRt vs) (match wLk h b off vs with
    | some h'=>some (.int .i64 (.ofNat (if nR m n then m else n)),h')
    | none=>none)
   | none=>none
  | _,_=>none
def wQJ (z:List AV) (x:AOd) (σ:Tr AV) (h:AH):Option (AV × AH):=match evA σ x with
  | .sl b off n _=>clr h z b off n
  | .rw b _ co n=>clr h z b co n
  | .rz _ _=>some (u,h)
  | .snil=>some (u,h)
  | _=>none
def wSH (x:AOd) (y:AOd) (σ:Tr AV) (h:AH):Option (AV × AH):=okV h (match evA σ x,evA σ y with
  | .int .i64 a,.int .i64 b=>some (.int .i64 (match zlt b a with | true=>b | false=>a))
  | _,_=>none)
def wSI (x:AOd) (y:AOd) (σ:Tr AV) (h:AH):Option (AV × AH):=okV h (match evA σ x,evA σ y with
  | .int .i64 a,.int .i64 b=>some (.int .i64 (match zlt a b with | true=>b | false=>a))
  | _,_=>none)
abbrev Run:=AC->Tr AV->AH->Option (Ex × Tr AV × AH)
def wOf:List AV->Pos->Tr AV->Tr AV
 | [],_,t=>t
 | v :: l,p,t=>wOf l p.succ (t.set p v)
def res1 (σ:Tr AV) (h:AH):AR->Option AV
 | .t p=>some (evA σ (.t p))
 | .c p n=>match evA σ (.t p) with
  | .ptr b off=>match wGJ h b with
   | some l=>match n with
    | none=>nth l off
    | some n=>wJS (sub l off n)
   | none=>none
  | _=>none
def wTk (σ:Tr AV) (h:AH):List AR->Option (List AV)
 | []=>some []
 | r :: l=>match res1 σ h r with
  | some v=>match wTk σ h l with
   | some vs=>some (v :: vs)
   | none=>none
  | none=>none
def tupA:List AV->AV
 | [v]=>v
 | l=>.tup l
def wUM (σ:Tr AV) (h:AH) (l:List AR):Option (AV × AH):=match wTk σ h l with
 | some vs=>some (tupA vs,h)
 | none=>none
def wNS (tb:Tr AF) (ex:Run) (f:Pos) (args:List AV) (h:AH):Option (AV × AH):=match tb.get f with
 | some af=>match nR (len args) af.n with
  | true=>match ex af.body (wOf args .H .e) h with
   | some (.nrm,σ,h')=>wUM σ h' af.res
   | some (.ret,σ,h')=>wUM σ h' af.res
   | _=>none
  | false=>none
 | none=>none
def Ex.done:Ex->LS
 | .nrm=>.ready
 | e=>.done e
def Ex.go:Ex->Bool
 | .nrm=>true
 | _=>false
def wSJ:Tr AV->List Pos->List AV->Option (Tr AV)
 | σ,[],[]=>some σ
 | σ,t :: ts,v :: vs=>wSJ (σ.set t v) ts vs
 | _,_,_=>none
def wOg (ex:Run) (b:Pos) (args:List AV) (h:AH):Option (AV × AH):=match h.m.get b with
 | some (.loop σ t asg body .ready)=>match wSJ σ t args with
  | none=>none
  | some σ0=>match ex asg σ0 h with
  | some (.nrm,σ1,h1)=>match h1.m.get b with
   | some (.loop _ _ _ _ .ready)=>match h1.put b (.loop σ t asg body .busy) with
    | some h2=>match ex body σ1 h2 with
     | some (e,_,h3)=>match h3.m.get b with
      | some (.loop _ _ _ _ .busy)=>match h3.put b (.loop σ t asg body e.done) with
       | some h4=>some (.bool e.go,h4)
       | none=>none
      | _=>none
     | none=>none
    | none=>none
   | _=>none
  | _=>none
 | _=>none
def wJT (x:AOd) (l:List AOd) (tb:Tr AF) (ex exY:Run) (σ:Tr AV) (h:AH):Option (AV × AH):=match evA σ x with
 | .fn f fi ca=>wNS tb ex f (fi ++ (evs σ l ++ ca)) h
 | .yld b=>wOg exY b (evs σ l) h
 | _=>none
def andI (k:IntKind) (a b:Int):Int:=k.wrap (BitVec.ofInt k.bits a &&& BitVec.ofInt k.bits b).toNat
def wSK (x:AOd) (y:AOd) (σ:Tr AV) (h:AH):Option (AV × AH):=okV h (match evA σ x,evA σ y with
 | .int k a,.int k' b=>match keq k k' with
  | true=>some (.int k (andI k a b))
  | false=>none
 | _,_=>none)
def wSL (x:AOd) (y:AOd) (σ:Tr AV) (h:AH):Option (AV × AH):=okV h (match evA σ x,evA σ y with
 | .int k a,.int _ (.ofNat b)=>some (.int k (a.fdiv (2 ^ min b k.bits)))
 | _,_=>none)
def wOh (l:List Nat) (y:AOd) (σ:Tr AV) (h:AH):Option (AV × AH):=match evA σ y with
 | .int _ (.ofNat i)=>okV h (match nth l i with
  | some b=>some (.int .u8 (.ofNat b))
  | none=>none)
 | _=>none
def wQK (T sz by_:Nat) (z:List AV) (x y:AOd) (σ:Tr AV) (h:AH):Option (AV × AH):=match evA σ x,wIV (evA σ y) with
 | .snil,some n=>match n with
  | 0=>some (.snil,h)
  | m + 1=>ifO (nR ((m + 1) * by_) 140737488355328) (some (.rw h.nx 0 0 (m + 1),h.push (.row T sz (rep (m + 1) z))))
 | _,_=>none
def wSM (_:Tr AV) (_:AH):Option (AV × AH):=none
def opY (op:AOp):Tr AF->Run->Run->Tr AV->AH->Option (AV × AH) :=
 AOp.rec (motive:=fun _=>Tr AF->Run->Run->Tr AV->AH->Option (AV × AH))
 (fun x _ _ _=>o_mv x)
 (fun c x y _ _ _=>wKi c x y)
 (fun T z _ _ _=>wUJ T z)
 (fun T x _ _ _=>wRu T x)
 (fun x _ _ _=>o_ld x)
 (fun n x _ _ _=>wQG n x)
 (fun n x y _ _ _=>o_st n x y)
 (fun x _ _ _=>wKj x)
 (fun x y _ _ _=>wRv x y)
 (fun x y _ _ _=>wRw x y)
 (fun x y _ _ _=>wRx x y)
 (fun x y _ _ _=>wRy x y)
 (fun x y _ _ _=>wRz x y)
 (fun x y _ _ _=>wSA x y)
 (fun x y _ _ _=>wSB x y)
 (fun x y _ _ _=>wSC x y)
 (fun x y _ _ _=>wSD x y)
 (fun x y _ _ _=>wSE x y)
 (fun x y _ _ _=>wSF x y)
 (fun ne x y _ _ _=>wOR ne x y)
 (fun k ne x y _ _ _=>wOS k ne x y)
 (fun ne s x y _ _ _=>wOT ne s x y)
 (fun x _ _ _=>wSG x)
 (fun x _ _ _=>wOU x)
 (fun k x _ _ _=>wOV k x)
 (fun f fi ca _ _ _=>wNR f fi ca)
 (fun _ _ _=>wUK)
 (fun T sz bytes z x y _ _ _=>wOW T sz bytes z x y)
 (fun sz x lo hi mx _ _ _=>wLl sz x lo hi mx)
 (fun sz n x lo hi _ _ _=>wIX sz n x lo hi)
 (fun off x _ _ _=>wOX off x)
 (fun off x _ _ _=>wOY off x)
 (fun off n x _ _ _=>wKk off n x)
 (fun sz x y _ _ _=>wOZ sz x y)
 (fun sz n x y _ _ _=>wKl sz n x y)
 (fun n x y _ _ _=>wUL n x y)
 (fun sz n x y _ _ _=>wOa sz n x y)
 (fun two k ok z x y _ _ _=>o_lk two k ok z x y)
 (fun two k x y z _ _ _=>wMX two k x y z)
 (fun two k x y _ _ _=>wMY two k x y)
 (fun i x _ _ _=>wOb i x)
 (fun z ps _ _ _=>wOc z ps)
 (fun T len z ps _ _ _=>wIY T len z ps)
 (fun x _ _ _=>wOd x)
 (fun x _ _ _=>wMZ x)
 (fun x _ _ _=>wOe x)
 (fun T sz bytes x y _ _ _=>wQH T sz bytes x y)
 (fun sz x y _ _ _=>wQI sz x y)
 (fun z x _ _ _=>wQJ z x)
 (fun x y _ _ _=>wSH x y)
 (fun x y _ _ _=>wSI x y)
 wJT
 (fun _ _ _=>wSM)
 (fun x y _ _ _=>wSK x y)
 (fun x y _ _ _=>wSL x y)
 (fun l y _ _ _=>wOh l y)
 (fun T sz bytes z x y _ _ _=>wQK T sz bytes z x y) op
def wTl (op:AOp) (tb:Tr AF) (ex exY:Run) (σ:Tr AV) (h:AH):Option (AV × AH) :=
 match opY op tb ex exY σ ⟨h.m,h.nx,h.nx⟩ with
 | some (v,h')=>some (v,⟨h'.m,h'.nx,h.fl⟩)
 | none=>none
def opK (k:Nat) (op:AOp):Tr AF->Run->Run->Tr AV->AH->Option (AV × AH) :=
 kW (motive:=fun _=>Tr AF->Run->Run->Tr AV->AH->Option (AV × AH)) (opY op) (wTl op) (nG k 2)
def wHG (d:Option Pos) (σ:Tr AV) (v:AV):Tr AV:=nT (motive:=fun _=>Tr AV) σ (fun p=>σ.set p v) d
def isB (b:Bool) (v:AV):Bool:=match v with
 | .bool b'=>b' == b
 | _=>false
def wNT (σ:Tr AV) (g:Option (Pos × Bool)):Bool:=nT (motive:=fun _=>Bool) true (fun q=>isB q.2 (evA σ (.t q.1))) g
def adv (p:Pos) (n:Nat):Pos:=kM (motive:=fun _=>Pos) p (fun _ q=>q.succ) n
def putN (h:AH) (q:Pos) (r:AV × AH):Option (AV × AH):=nT (motive:=fun _=>Option (AV × AH)) none (fun B=>some (r.1,⟨h.m.set q B,h.nx,h.fl⟩)) (r.2.m.get q)
def opN (q:Pos) (op:AOp) (tb:Tr AF) (ex exY:Run) (σ:Tr AV) (h:AH):Option (AV × AH) :=
 nT (motive:=fun _=>Option (AV × AH)) none (putN h q) (opY op tb ex exY σ ⟨.e,q,h.fl⟩)
def opP (b:Pos) (o:AO) (tb:Tr AF) (ex exY:Run) (σ:Tr AV) (h:AH):Option (AV × AH) :=
 kW (motive:=fun _=>Option (AV × AH)) (opK o.kd o.op tb ex exY σ h) (opN (adv b (Nat.sub o.kd 8)) o.op tb ex exY σ h) (nR 8 o.kd)
def eqv:AV->AV->Bool
 | .int k n,.int k' n'=>keq k k' && zeq n n'
 | .ptr b o,.ptr c p=>b.beq c && nG o p
 | .map b,.map c=>b.beq c
 | _,_=>false
def wRN (c:AO) (tb:Tr AF) (ex exY:Run) (σ:Tr AV) (h:AH):Bool:=match c.dst,opY c.op tb ex exY σ h with
 | some p,some (v,_)=>eqv v (evA σ (.t p))
 | _,_=>false
def wQL (k:Nat):Bool:=nG k 0 || nG k 2
def wLm (k:Nat) (os acc:List AO) (tb:Tr AF) (ex exY:Run) (σ:Tr AV) (h:AH):Bool :=
 !wQL k || ((os.all fun x=>nP x.kd 8) && acc.all fun c=>wRN c tb ex exY σ h)
def wLn (o:AO) (acc:List AO):List AO:=bif nG o.kd 5 then o :: acc else acc
def goOn (o:AO) (os acc:List AO) (k:List AO->Tr AV->AH->Option (Tr AV × AH)) (tb:Tr AF) (ex exY:Run) (σ:Tr AV) (r:AV × AH):Option (Tr AV × AH) :=
 kW (motive:=fun _=>Option (Tr AV × AH)) none (k (wLn o acc) (wHG o.dst σ r.1) r.2) (wLm o.kd os acc tb ex exY (wHG o.dst σ r.1) r.2)
def wKm (b:Pos) (tb:Tr AF) (ex exY:Run) (l:List AO):List AO->Tr AV->AH->Option (Tr AV × AH) :=
 nh (motive:=fun _=>List AO->Tr AV->AH->Option (Tr AV × AH)) (fun _ σ h=>some (σ,h)) (fun o os ih acc σ h =>
 kW (motive:=fun _=>Option (Tr AV × AH)) (ih acc (wHG o.dst σ u) h) (nT (motive:=fun _=>Option (Tr AV × AH)) none (goOn o os acc ih tb ex exY σ) (opP b o tb ex exY σ h)) (wNT σ o.grd)) l
theorem wDW {b:Pos} {tb:Tr AF} {ex exY:Run} {o:AO} {os acc:List AO} {σ:Tr AV} {h:AH} {r:Tr AV × AH}:wKm b tb ex exY (o :: os) acc σ h=some r ↔
  (wNT σ o.grd=false/\wKm b tb ex exY os acc (wHG o.dst σ u) h=some r) \/ (wNT σ o.grd=true/\∃ v h1,opP b o tb ex exY σ h=some (v,h1)/\wLm o.kd os acc tb ex exY (wHG o.dst σ v) h1=true/\wKm b tb ex exY os (wLn o acc) (wHG o.dst σ v) h1=some r):=by
 have e:wKm b tb ex exY (o :: os) acc σ h=kW (motive:=fun _=>Option (Tr AV × AH)) (wKm b tb ex exY os acc (wHG o.dst σ u) h) (nT (motive:=fun _=>Option (Tr AV × AH)) none (goOn o os acc (wKm b tb ex exY os) tb ex exY σ) (opP b o tb ex exY σ h)) (wNT σ o.grd):=rfl
 rw [e]
 cases wNT σ o.grd with
 | false=>simp
 | true =>
  cases opP b o tb ex exY σ h with
  | none=>simp
  | some q =>
   obtain ⟨v,h1⟩:=q
   show goOn o os acc _ tb ex exY σ (v,h1)=_ ↔ _
   unfold goOn
   cases hs:wLm o.kd os acc tb ex exY (wHG o.dst σ v) h1 with
   | false=>exact ⟨fun q=>(by cases q),fun q=>(by
     rcases q with ⟨q,_⟩ | ⟨_,v',h',e,q,_⟩
     ·cases q
     ·cases e;rw [hs] at q;cases q)⟩
   | true=>exact ⟨fun q=>.inr ⟨rfl,v,h1,rfl,hs,q⟩,fun q=>(by
     rcases q with ⟨q,_⟩ | ⟨_,v',h',e,_,q⟩
     ·cases q
     ·cases e;exact q)⟩
def wUN (l:List AO):Nat:=nh (motive:=fun _=>Nat) 0 (fun o _ n=>kW (motive:=fun _=>Nat) n (Nat.succ n) (nR 8 o.kd)) l
abbrev R:=Option (Ex × Tr AV × AH)
def sNrm (σ:Tr AV) (h:AH):R:=some (.nrm,σ,h)
def sRg (l:List AO) (tb:Tr AF) (ex exY:Run) (σ:Tr AV) (h:AH):R :=
 nT (motive:=fun _=>R) none (fun r=>some (.nrm,r.1,r.2)) (wKm h.nx tb ex exY l [] σ ⟨h.m,adv h.nx (wUN l),h.fl⟩)
def seqK (b:AC) (exR:Run) (r:Ex × Tr AV × AH):R:=Ex.rec (motive:=fun _=>Tr AV->AH->R) (fun σ h=>exR b σ h) (fun i σ h=>some (.exit i,σ,h)) (fun σ h=>some (.ret,σ,h)) r.1 r.2.1 r.2.2
def sSeq (a b:AC) (exR:Run) (σ:Tr AV) (h:AH):R:=nT (motive:=fun _=>R) none (seqK b exR) (exR a σ h)
def wSN (c:AOd) (a b:AC) (exR:Run) (σ:Tr AV) (h:AH):R:=match evA σ c with
 | .bool true=>exR a σ h
 | .bool false=>exR b σ h
 | _=>none
def wUO (i:Nat) (r:Ex × Tr AV × AH):R:=Ex.rec (motive:=fun _=>Tr AV->AH->R) (fun σ h=>some (.nrm,σ,h))
 (fun j σ h=>kW (motive:=fun _=>R) (some (.exit j,σ,h)) (some (.nrm,σ,h)) (nG j i)) (fun σ h=>some (.ret,σ,h)) r.1 r.2.1 r.2.2
def wRO (i:Nat) (a:AC) (exR:Run) (σ:Tr AV) (h:AH):R:=nT (motive:=fun _=>R) none (wUO i) (exR a σ h)
def wSO (a:AC) (exR:Run) (σ:Tr AV) (h:AH):R:=nT (motive:=fun _=>R) none (seqK (.loop a) exR) (exR a σ h)
def sRf (f:Bool) (g:AOd) (t:List Pos) (asg body:AC) (tb:Tr AF) (ex:Run) (σ:Tr AV) (h:AH):R:=match f,evA σ g with
 | true,.fn f fi ca=>match wNS tb ex f (fi ++ (.yld h.nx :: ca)) (h.push (.loop σ t asg body .ready)) with
  | some (_,h2)=>match h2.m.get h.nx with
   | some (.loop _ _ _ _ .ready)=>match h2.put h.nx .dead with
    | some h3=>some (.nrm,σ,h3)
    | none=>none
   | some (.loop _ _ _ _ (.done e))=>match h2.put h.nx .dead with
    | some h3=>some (e,σ,h3)
    | none=>none
   | _=>none
  | none=>none
 | _,_=>none
def step (c:AC):Bool->Tr AF->Run->Run->Run->Tr AV->AH->R :=
 AC.rec (motive:=fun _=>Bool->Tr AF->Run->Run->Run->Tr AV->AH->R)
 (fun _ _ _ _ _=>sNrm)
 (fun l _ tb ex exY _=>sRg l tb ex exY)
 (fun a b _ _ _ _ _ _ exR=>sSeq a b exR)
 (fun c a b _ _ _ _ _ _ exR=>wSN c a b exR)
 (fun i a _ _ _ _ _ exR=>wRO i a exR)
 (fun a _ _ _ _ _ exR=>wSO a exR)
 (fun g t asg body _ _ f tb ex _ _=>sRf f g t asg body tb ex)
 (fun i _ _ _ _ _ σ h=>some (.exit i,σ,h))
 (fun a _ _ _ _ _ exR=>exR a)
 (fun _ _ _ _ _ σ h=>some (.ret,σ,h))
 (fun _ _ _ _ _ _ _=>none) c
def exec (tb:Tr AF) (n:Nat):Bool->Run :=
 kM (motive:=fun _=>Bool->Run) (fun _ _ _ _=>none) (fun _ ih r c=>step c (!r) tb (ih false) (ih true) (ih r)) n
theorem wOi (tb:Tr AF) (n:Nat) (r:Bool) (c:AC):exec tb (n + 1) r c=step c (!r) tb (exec tb n false) (exec tb n true) (exec tb n r):=rfl
end
open Go.RowKit Go.KL
structure Gh where
 N:Nat
 σ:Env
 t:List Nat
 ac:Code
 bc:Code
 rb:Nat
 fn:FuncId
def g0:Gh:=⟨0,fun _=>undef,[],.skip,.skip,0,0⟩
structure Cl where
 b:Nat
 c:Nat
 g:Gh
abbrev Mu:=Pos->Option Cl
mutual
def Rv (μ:Mu):AV->Value->Prop
 | .int k n,v=>v=.int k n
 | .bool b,v=>v=.bool b
 | .ptr b off,v=>∃ c,μ b=some c/\v=.pointer (some ⟨c.1,off,none⟩)
 | .pnil,v=>v=.pointer none
 | .sl b off n c,v=>∃ d,μ b=some d/\n <= c/\v=.slice (some ⟨d.1,off,none⟩) n c
 | .rw b eo co n,v=>∃ d,μ b=some d/\eo + n <= d.2/\v=.slice (some ⟨d.1,co,none⟩) n (d.2 - eo)
 | .rz b eo,v=>∃ d,μ b=some d/\∃ o,v=.slice (some ⟨d.1,o,none⟩) 0 (d.2 - eo)
 | .snil,v=>v=.slice none 0 0
 | .map b,v=>∃ c,μ b=some c/\v=.map (some c.1)
 | .mnil,v=>v=.map none
 | .fn f fi ca,v=>∃ fv cv,RvL μ fi fv/\RvL μ ca cv/\v=.func (.func (f.nat - 1)) fv.toArray cv.toArray
 | .yld b,v=>∃ c,μ b=some c/\v=.func (.yield c.1) #[] #[]
 | .fnil,v=>v=.nilFunc
 | .agg l,v=>∃ vs,RvL μ l vs/\v=.agg vs.toArray
 | .tup l,v=>∃ vs,RvL μ l vs/\v=.tuple vs.toArray
def RvL (μ:Mu):List AV->List Value->Prop
 | [],vs=>vs=[]
 | a :: l,vs=>∃ v ws,Rv μ a v/\RvL μ l ws/\vs=v :: ws
end
def Mu.Le (μ μ':Mu):Prop:=∀ p c,μ p=some c->μ' p=some c
theorem Mu.Le.refl (μ:Mu):μ.Le μ:=fun _ _ h=>h
theorem Mu.Le.trans {a b c:Mu} (h:a.Le b) (k:b.Le c):a.Le c:=fun p x hx=>k p x (h p x hx)
mutual
theorem Rv.mono {μ μ':Mu} (hm:μ.Le μ'):∀ {a:AV} {v:Value},Rv μ a v->Rv μ' a v
 | .int _ _,_,h=>h
 | .bool _,_,h=>h
 | .ptr _ _,_,⟨c,h1,h2⟩=>⟨c,hm _ _ h1,h2⟩
 | .pnil,_,h=>h
 | .sl _ _ _ _,_,⟨c,h1,h2⟩=>⟨c,hm _ _ h1,h2⟩
 | .rw _ _ _ _,_,⟨c,h1,h2⟩=>⟨c,hm _ _ h1,h2⟩
 | .rz _ _,_,⟨c,h1,h2⟩=>⟨c,hm _ _ h1,h2⟩
 | .snil,_,h=>h
 | .map _,_,⟨c,h1,h2⟩=>⟨c,hm _ _ h1,h2⟩
 | .mnil,_,h=>h
 | .fn _ _ _,_,⟨fv,cv,h1,h2,h3⟩=>⟨fv,cv,RvL.mono hm h1,RvL.mono hm h2,h3⟩
 | .yld _,_,⟨c,h1,h2⟩=>⟨c,hm _ _ h1,h2⟩
 | .fnil,_,h=>h
 | .agg _,_,⟨vs,h1,h2⟩=>⟨vs,RvL.mono hm h1,h2⟩
 | .tup _,_,⟨vs,h1,h2⟩=>⟨vs,RvL.mono hm h1,h2⟩
theorem RvL.mono {μ μ':Mu} (hm:μ.Le μ'):∀ {l:List AV} {vs:List Value},RvL μ l vs->RvL μ' l vs
 | [],_,h=>h
 | _ :: _,_,⟨v,ws,h1,h2,h3⟩=>⟨v,ws,Rv.mono hm h1,RvL.mono hm h2,h3⟩
end
theorem wIZ {μ:Mu}:RvL μ [] []:=rfl
theorem wCF {μ:Mu} {a:AV} {l:List AV} {v:Value} {vs:List Value} (h:Rv μ a v) (h':RvL μ l vs):RvL μ (a :: l) (v :: vs):=⟨v,vs,h,h',rfl⟩
theorem wEp {μ:Mu}:∀ {l:List AV} {vs:List Value},RvL μ l vs->vs.length=l.length
 | [],_,h=>by cases h;rfl
 | _ :: _,_,⟨_,_,_,h2,h3⟩=>by subst h3;simp [wEp h2]
theorem wFh {μ:Mu}:∀ {l k:List AV} {vs ws:List Value},RvL μ l vs->RvL μ k ws->RvL μ (l ++ k) (vs ++ ws)
 | [],_,_,_,h,h'=>by cases h;exact h'
 | _ :: _,_,_,_,⟨v,ws,h1,h2,h3⟩,h'=>by subst h3;exact wCF h1 (wFh h2 h')
theorem wGo {μ:Mu}:∀ {l:List AV} {vs:List Value},RvL μ l vs->∀ {i:Nat} {a:AV},l[i]?=some a->∃ v,vs[i]?=some v/\Rv μ a v
 | [],_,_,i,a,hi=>by simp at hi
 | b :: l,_,⟨v,ws,h1,h2,h3⟩,i,a,hi=>by
  subst h3
  cases i with
  | zero=>simp at hi;subst hi;exact ⟨v,rfl,h1⟩
  | succ i=>simpa using wGo h2 (i:=i) (by simpa using hi)
theorem wJl {μ:Mu}:∀ {l:List AV} {vs:List Value} (n:Nat),RvL μ l vs->RvL μ (l.drop n) (vs.drop n)
 | _,_,0,h=>h
 | [],_,n + 1,h=>by cases h;exact rfl
 | _ :: _,_,n + 1,⟨_,_,_,h2,h3⟩=>by subst h3;exact wJl n h2
theorem wJm {μ:Mu}:∀ {l:List AV} {vs:List Value} (n:Nat),RvL μ l vs->RvL μ (l.take n) (vs.take n)
 | _,_,0,_=>rfl
 | [],_,n + 1,h=>by cases h;exact rfl
 | _ :: _,_,n + 1,⟨_,_,h1,h2,h3⟩=>by subst h3;exact wCF h1 (wJm n h2)
theorem wJn {μ:Mu} {l:List AV} {vs:List Value} (h:RvL μ l vs):∀ n,RvL μ (rep n l) (nO n vs).flatten
 | 0=>rfl
 | n + 1=>by rw [nr,kA];exact wFh h (wJn h n)
section
variable {α:Type}
theorem wHn:∀ (l:List α) (n:Nat),nth l n=l[n]?
 | [],_=>rfl
 | _ :: _,0=>rfl
 | _ :: l,n + 1=>by show nth l n=_;rw [wHn l n];simp
theorem wGf:∀ (l:List α),len l=l.length
 | []=>rfl
 | _ :: l=>by show Nat.succ (len l)=_;rw [wGf l];rfl
theorem wHf {a:α} {o:Option (List α)} {r:List α} (h:wLi a o=some r):∃ r',o=some r'/\r=a :: r':=by
 cases o with
 | none=>cases h
 | some r'=>cases h;exact ⟨r',rfl,rfl⟩
theorem wLo:∀ {l:List α} {n:Nat} {r:List α},tk l n=some r->r=l.take n/\n <= l.length
 | [],0,r,h=>by cases h;simp
 | [],n + 1,r,h=>by cases h
 | a :: l,0,r,h=>by cases h;simp
 | a :: l,n + 1,r,h=>by
  obtain ⟨r',h1,rfl⟩:=wHf (show wLi a (tk l n)=some r from h)
  obtain ⟨h2,h3⟩:=wLo h1
  simp [h2,h3]
theorem wMa:∀ {l:List α} {off n:Nat} {r:List α},sub l off n=some r->r=(l.drop off).take n/\off + n <= l.length
 | [],0,n,r,h=>by have:=wLo (l:=[]) (n:=n) h;simpa using this
 | [],off + 1,n,r,h=>by cases h
 | a :: l,0,n,r,h=>by have:=wLo (l:=a :: l) (n:=n) h;simpa using this
 | a :: l,off + 1,n,r,h=>by
  obtain ⟨h1,h2⟩:=wMa (show sub l off n=some r from h)
  exact ⟨by simpa using h1,by simp;omega⟩
theorem wLp:∀ {l vs r:List α},ov l vs=some r->vs.length <= l.length/\r=vs ++ l.drop vs.length
 | [],[],r,h=>by cases h;simp
 | [],v :: vs,r,h=>by cases h
 | a :: l,[],r,h=>by cases h;simp
 | a :: l,v :: vs,r,h=>by
  obtain ⟨r',h1,rfl⟩:=wHf (show wLi v (ov l vs)=some r from h)
  obtain ⟨h2,h3⟩:=wLp h1
  subst h3
  exact ⟨by simpa using h2,by simp⟩
theorem wKn:∀ {l:List α} {off:Nat} {vs r:List α},wRs l off vs=some r->off + vs.length <= l.length/\r=l.take off ++ vs ++ l.drop (off + vs.length)
 | [],0,vs,r,h=>by have:=wLp (l:=[]) h;simp at this;simp [this]
 | [],off + 1,vs,r,h=>by cases h
 | a :: l,0,vs,r,h=>by have:=wLp (l:=a :: l) h;simp at this;simp [this]
 | a :: l,off + 1,vs,r,h=>by
  obtain ⟨r',h1,rfl⟩:=wHf (show wLi a (wRs l off vs)=some r from h)
  obtain ⟨h2,h3⟩:=wKn h1
  subst h3
  refine ⟨by simp;omega,?_⟩
  rw [show off + 1 + vs.length=(off + vs.length) + 1 from by omega]
  simp
end
theorem setN_eq:∀ (vs l:List Value) (off:Nat),off + vs.length <= l.length->wEw l off vs=l.take off ++ vs ++ l.drop (off + vs.length)
 | [],l,off,_=>by simp [wEw]
 | v :: vs,l,off,h=>by
  simp only [kD] at h
  have hlt:off < l.length:=by omega
  rw [wEw,setN_eq vs (l.set off v) (off + 1) (by simp;omega)]
  have h1:(l.set off v).take (off + 1)=l.take off ++ [v]:=by
   rw [List.take_set,List.take_add_one,nE hlt]
   rw [List.set_append_right _ _ (by simp;omega)]
   simp [nt (Nat.le_of_lt hlt)]
  rw [h1,List.drop_set_of_lt (by omega)]
  rw [show off + 1 + vs.length=off + (v :: vs).length from by simp;omega]
  simp
theorem wJo {μ:Mu} {l vs r:List AV} {L V:List Value} {off:Nat} (h:wRs l off vs=some r) (hl:RvL μ l L) (hv:RvL μ vs V):off + V.length <= L.length/\RvL μ r (wEw L off V):=by
 obtain ⟨h1,rfl⟩:=wKn h
 have e1:=wEp hl
 have e2:=wEp hv
 have h2:off + V.length <= L.length:=by omega
 refine ⟨h2,?_⟩
 rw [setN_eq V L off h2,e2]
 exact wFh (wFh (wJm off hl) hv) (wJl _ hl)
theorem wGp {μ:Mu} {l r:List AV} {L:List Value} {off n:Nat} (h:sub l off n=some r) (hl:RvL μ l L):RvL μ r ((L.drop off).take n)/\off + n <= L.length:=by
 obtain ⟨rfl,h1⟩:=wMa h
 have e1:=wEp hl
 exact ⟨wJm n (wJl off hl),by omega⟩
theorem wUP {μ:Mu} {a:AV} {v:Value} (h:Rv μ a v) (h1:a.one=true):one v=true:=by
 cases a <;> simp only [Rv] at h <;> first | (cases h1;done) | (subst h;rfl) | (obtain ⟨_,_,_,_,_,rfl⟩:=h;rfl) | (obtain ⟨_,_,_,_,rfl⟩:=h;rfl) | (obtain ⟨_,_,_,rfl⟩:=h;rfl) | (obtain ⟨_,_,rfl⟩:=h;rfl)
theorem wFi {μ:Mu}:∀ {l:List AV} {vs:List Value},RvL μ l vs->wRt l=true->∀ v ∈ vs,one v=true
 | [],_,h,_=>by cases h;simp
 | a :: l,_,⟨v,ws,h1,h2,h3⟩,ho=>by
  subst h3
  have ho:(a.one && wRt l)=true:=ho
  rw [nA] at ho
  intro u hu
  rcases nb.1 hu with rfl | hu
  ·exact wUP h1 ho.1
  ·exact wFi h2 ho.2 u hu
theorem wJp {μ:Mu} {a:AV} {v:Value} (h:Rv μ a v):∃ vs,RvL μ a.cells vs/\v.cells=vs.toArray:=by
 cases a with
 | agg l=>obtain ⟨vs,h1,rfl⟩:=h;exact ⟨vs,h1,rfl⟩
 | tup l=>obtain ⟨vs,h1,rfl⟩:=h;exact ⟨[_],wCF ⟨vs,h1,rfl⟩ wIZ,rfl⟩
 | _ =>
  refine ⟨[v],wCF h wIZ,?_⟩
  simp only [Rv] at h
  first | (subst h;rfl) | (obtain ⟨_,_,_,_,_,rfl⟩:=h;rfl) | (obtain ⟨_,_,_,_,rfl⟩:=h;rfl) | (obtain ⟨_,_,_,rfl⟩:=h;rfl) | (obtain ⟨_,_,rfl⟩:=h;rfl)
noncomputable section
open Go.RowKit Go.KL
def EnvR (μ:Mu) (σA:Tr AV) (σ:Env):Prop:=∀ p:Pos,Rv μ (evA σA (.t p)) (σ (p.nat - 1))
theorem wSP (σA:Tr AV) (p:Pos):evA σA (.t p)=(σA.get p).getD u:=by
 show nT (motive:=fun _=>AV) u (fun v=>v) (σA.get p)=_
 cases σA.get p <;> rfl
theorem EnvR.mono {μ μ':Mu} {σA:Tr AV} {σ:Env} (h:EnvR μ σA σ) (hm:μ.Le μ'):EnvR μ' σA σ:=fun p=>(h p).mono hm
theorem EnvR.put {μ:Mu} {σA:Tr AV} {σ:Env} (h:EnvR μ σA σ) {p:Pos} {a:AV} {v:Value} (hv:Rv μ a v):EnvR μ (σA.set p a) (upd σ (p.nat - 1) v):=by
 intro q
 rw [wSP,Tr.get_set]
 by_cases e:q=p
 ·subst e;rw [if_pos rfl,wEI];exact hv
 ·rw [if_neg e,wEU,<- wSP]
  ·exact h q
  ·intro e2
   have:=p.nat_pos;have:=q.nat_pos
   exact e (Pos.nat_inj (by omega))
theorem wTm (μ:Mu):Rv μ u undef:=⟨[],rfl,rfl⟩
theorem wMb {μ:Mu}:∀ {args:List AV} {vs:List Value},RvL μ args vs->∀ {p:Pos} {t:Tr AV} {σ σ':Env},EnvR μ t σ->(∀ i,i < p.nat - 1->σ' i=σ i)->(∀ j v,vs[j]?=some v->σ' (p.nat - 1 + j)=v) ->
  (∀ i,p.nat - 1 + vs.length <= i->σ' i=σ i)->EnvR μ (wOf args p t) σ'
 | [],_,h,p,t,σ,σ',hE,h1,_,h3=>by
  cases h
  intro q
  have:=hE q
  by_cases e:q.nat - 1 < p.nat - 1
  ·rw [h1 _ e];exact this
  ·rw [h3 _ (by simp;omega)];exact this
 | a :: l,_,⟨v,ws,h1,h2,h3⟩,p,t,σ,σ',hE,g1,g2,g3=>by
  subst h3
  have hp:=p.nat_pos
  refine wMb h2 (p:=p.succ) (hE.put (p:=p) h1) ?_ ?_ ?_
  ·intro i hi
   rw [Pos.nat_succ] at hi
   by_cases e:i=p.nat - 1
   ·subst e;rw [wEI];exact g2 0 v rfl
   ·rw [wEU _ _ e];exact g1 i (by omega)
  ·intro j x hx
   rw [Pos.nat_succ]
   have:=g2 (j + 1) x (by simpa using hx)
   rw [<- this];congr 1;omega
  ·intro i hi
   rw [Pos.nat_succ] at hi
   rw [wEU _ _ (by omega)]
   exact g3 i (by simp;omega)
theorem wSQ {μ:Mu} {args:List AV} {vs:List Value} (h:RvL μ args vs):EnvR μ (wOf args .H .e) (wQx vs):=by
 have h0:EnvR μ .e (fun _=>undef):=by intro p;rw [wSP,Tr.get_e];exact wTm μ
 refine wMb h (p:=.H) h0 (fun i hi=>by simp [Pos.nat] at hi) (fun j v hv=>?_) (fun i hi=>?_)
 ·simp [wQx,Pos.nat,hv]
 ·simp only [Pos.nat] at hi
  simp [wQx,kJ (by omega:vs.length <= i)]
mutual
def okc:AV->Value->Bool
 | .int k n,.int k' n'=>keq k k' && zeq n n'
 | .bool b,.bool b'=>b == b'
 | .pnil,.pointer none=>true
 | .snil,.slice none 0 0=>true
 | .mnil,.map none=>true
 | .fnil,.nilFunc=>true
 | .agg l,.agg vs=>wQM l vs.toList
 | .tup l,.tuple vs=>wQM l vs.toList
 | _,_=>false
def wQM:List AV->List Value->Bool
 | [],[]=>true
 | a :: l,v :: vs=>okc a v && wQM l vs
 | _,_=>false
end
theorem wKo:∀ {a b:Int},zeq a b=true ↔ a=b
 | .ofNat a,.ofNat b=>by simp [zeq];omega
 | .negSucc a,.negSucc b=>by simp [zeq]
 | .ofNat a,.negSucc b=>by simp [zeq]
 | .negSucc a,.ofNat b=>by simp [zeq]
theorem wFj (a b:Int):zeq a b=decide (a=b):=by
 by_cases h:a=b
 ·rw [wKo.2 h];simp [h]
 ·have:zeq a b ≠ true:=fun e=>h (wKo.1 e)
  simp [h,nj.2 this]
theorem wIa:∀ (a b:Int),zlt a b=decide (a < b)
 | .ofNat a,.ofNat b=>by
  simp only [zlt,nq,Int.ofNat_lt]
  by_cases h:a < b
  ·simp [h,nQ]
  ·simp [h,nj,nQ]
 | .negSucc a,.negSucc b=>by
  simp only [zlt,kX]
  by_cases h:b < a
  ·have h2:-((a:Int) + 1) < -((b:Int) + 1):=by omega
   simp [h2,nQ];exact h
  ·have h2:¬ -((a:Int) + 1) < -((b:Int) + 1):=by omega
   simp [h2,nj,nQ];omega
 | .ofNat a,.negSucc b=>by
  simp only [zlt,kX,nq]
  have h2:¬ (a:Int) < -((b:Int) + 1):=by omega
  simp [h2]
 | .negSucc a,.ofNat b=>by
  simp only [zlt,kX,nq]
  have h2:-((a:Int) + 1) < (b:Int):=by omega
  simp [h2]
theorem wOj (a b:Int):zle a b=decide (a <= b):=by
 rw [zle,wIa]
 by_cases h:a <= b
 ·simp [h,Int.not_lt.2 h]
 ·simp [h,Int.not_le.1 h]
theorem wCG {a b:IntKind} (h:keq a b=true):a=b:=by cases a <;> cases b <;> first | rfl | cases h
mutual
theorem wOk (μ:Mu):∀ {a:AV} {v:Value},okc a v=true->Rv μ a v
 | .int k n,v,h=>by
  cases v <;> simp only [okc,nA,nW] at h
  rw [wCG h.1,wKo.1 h.2];rfl
 | .bool b,v,h=>by
  cases v <;> simp only [okc,beq_iff_eq,nW] at h
  subst h;rfl
 | .pnil,v,h=>by
  unfold okc at h
  split at h <;> first | rfl | (exfalso;simp_all;done) | simp_all [Rv]
 | .snil,v,h=>by
  unfold okc at h
  split at h <;> first | rfl | (exfalso;simp_all;done) | simp_all [Rv]
 | .mnil,v,h=>by
  unfold okc at h
  split at h <;> first | rfl | (exfalso;simp_all;done) | simp_all [Rv]
 | .fnil,v,h=>by
  cases v <;> simp only [okc,nW] at h
  rfl
 | .agg l,v,h=>by
  cases v <;> simp only [okc,nW] at h
  exact ⟨_,wIb μ h,by simp⟩
 | .tup l,v,h=>by
  cases v <;> simp only [okc,nW] at h
  exact ⟨_,wIb μ h,by simp⟩
 | .ptr _ _,v,h=>by simp [okc] at h
 | .sl _ _ _ _,v,h=>by simp [okc] at h
 | .rw _ _ _ _,v,h=>by simp [okc] at h
 | .rz _ _,v,h=>by simp [okc] at h
 | .map _,v,h=>by simp [okc] at h
 | .fn _ _ _,v,h=>by simp [okc] at h
 | .yld _,v,h=>by simp [okc] at h
theorem wIb (μ:Mu):∀ {l:List AV} {vs:List Value},wQM l vs=true->RvL μ l vs
 | [],[],_=>rfl
 | a :: l,v :: vs,h=>by
  simp only [wQM,nA] at h
  exact wCF (wOk μ h.1) (wIb μ h.2)
 | [],_ :: _,h=>by simp [wQM] at h
 | _ :: _,[],h=>by simp [wQM] at h
end
def wCt:AOd->Operand->Bool
 | .t p,.tmp t=>nG p.nat (t + 1)
 | .c a,.const v=>okc a v
 | .c (.fn f [] []),.func g=>nG f.nat (g + 1)
 | _,_=>false
def wKp:List AOd->List Operand->Bool
 | [],[]=>true
 | x :: l,y :: k=>wCt x y && wKp l k
 | _,_=>false
theorem wAO {μ:Mu} {σA:Tr AV} {σ:Env} {x:AOd} {y:Operand} (h:wCt x y=true) (hE:EnvR μ σA σ):Rv μ (evA σA x) (ev σ y):=by
 unfold wCt at h
 split at h
 ·rename_i p t
  have:=nB h
  have h2:=hE p
  rw [this] at h2
  exact h2
 ·exact wOk μ h
 ·rename_i f g
  have:=nB h
  exact ⟨[],[],rfl,rfl,by show Value.func (.func g) #[] #[]=_;rw [this];rfl⟩
 ·cases h
theorem wIH {μ:Mu} {σA:Tr AV} {σ:Env}:∀ {l:List AOd} {k:List Operand},wKp l k=true->EnvR μ σA σ->RvL μ (evs σA l) (k.map (ev σ))
 | [],[],_,_=>rfl
 | x :: l,y :: k,h,hE=>by
  simp only [wKp,nA] at h
  exact wCF (wAO h.1 hE) (wIH h.2 hE)
 | [],_ :: _,h,_=>by simp [wKp] at h
 | _ :: _,[],h,_=>by simp [wKp] at h
def MR {K:Type} (μ:Mu) (l:List (K × AV)) (t:List (K × Value)):Prop:=l.map (·.1)=t.map (·.1)/\RvL μ (l.map (·.2)) (t.map (·.2))
def mk2 (k:IntKind) (x:Int × Int):Value:=.agg #[.int k x.1,.int k x.2]
def exC:Ex->Exit
 | .nrm=>.normal
 | .exit i=>.exit i
 | .ret=>.ret
def lsC:LS->LoopState × Option Code
 | .ready=>(.ready,none)
 | .busy=>(.busy,none)
 | .done .ret=>(.done,some .ret)
 | .done (.exit i)=>(.done,some (.exit i))
 | .done .nrm=>(.ready,none)
abbrev Chk:=AC->Code->Nat->Prop
structure wNU (C:Chk) (μ:Mu) (w:World) (c:Cl) (σA:Tr AV) (t:List Pos) (asg body:AC) (s:LS):Prop where
 at_:LoopAt w c.1 c.g.N c.g.σ c.g.t c.g.ac c.g.bc c.g.rb c.g.fn (lsC s).1 (lsC s).2
 env:EnvR μ σA c.g.σ
 ht:t.map Pos.nat=c.g.t.map (· + 1)
 tN:∀ x ∈ c.g.t,x < c.g.N
 asg:C asg c.g.ac c.g.N
 body:C body c.g.bc c.g.N
def AbR (C:Chk) (P:Program) (μ:Mu) (w:World) (c:Cl):AB->Prop
 | .cells T l=>∃ vs,RvL μ l vs/\Blk w c.1 T vs
 | .row T sz l=>∃ vs,RvL μ l vs/\RowAt w (some ⟨c.1,0,none⟩) c.2 T sz vs
 | .map0=>∃ ck,w.heap[c.1]?=some (.map #[] ck)
 | .mapI k l=>∃ es ck t,w.heap[c.1]?=some (.map es ck)/\MpR es (fun n:Int=>nu k n) id t/\MR μ l t
 | .map2 k l=>∃ es ck t,w.heap[c.1]?=some (.map es ck)/\MpR es (mk2 k) id t/\MR μ l t
 | .loop σA t asg body s=>wNU C μ w c σA t asg body s
 | .dead=>True
def wNl:AB->Prop
 | .dead=>False
 | _=>True
variable {C:Chk} {P:Program} {μ μ' μ'':Mu} {w w' w'':World} {h h' h'':AH}
theorem MR.mono {K:Type} {l:List (K × AV)} {t:List (K × Value)} (h:MR μ l t) (hm:μ.Le μ'):MR μ' l t:=⟨h.1,h.2.mono hm⟩
theorem AbR.mono {c:Cl} {B:AB} (h:AbR C P μ w c B) (hm:μ.Le μ'):AbR C P μ' w c B:=by
 cases B with
 | cells T l=>obtain ⟨vs,h1,h2⟩:=h;exact ⟨vs,h1.mono hm,h2⟩
 | row T sz l=>obtain ⟨vs,h1,h2⟩:=h;exact ⟨vs,h1.mono hm,h2⟩
 | map0=>exact h
 | mapI k l=>obtain ⟨es,ck,t,h1,h2,h3⟩:=h;exact ⟨es,ck,t,h1,h2,h3.mono hm⟩
 | map2 k l=>obtain ⟨es,ck,t,h1,h2,h3⟩:=h;exact ⟨es,ck,t,h1,h2,h3.mono hm⟩
 | loop σA t asg body s=>exact ⟨h.at_,h.env.mono hm,h.ht,h.tN,h.asg,h.body⟩
 | dead=>trivial
theorem AbR.keep {c:Cl} {B:AB} {X:Nat->Prop} (h:AbR C P μ w c B) (k:Keep w w' X) (hx:¬ X c.1):AbR C P μ w' c B:=by
 cases B with
 | cells T l=>obtain ⟨vs,h1,h2⟩:=h;exact ⟨vs,h1,h2.keep k hx⟩
 | row T sz l =>
  obtain ⟨vs,h1,h2⟩:=h
  refine ⟨vs,h1,?_⟩
  obtain ⟨cur,h3,h4⟩:=RowAt.cells h2
  exact .inr ⟨c.1,cur,rfl,(k.block _ (wAi h3) hx).trans h3,h4⟩
 | map0=>obtain ⟨ck,h1⟩:=h;exact ⟨ck,(k.block _ (wAi h1) hx).trans h1⟩
 | mapI _ l=>obtain ⟨es,ck,t,h1,h2⟩:=h;exact ⟨es,ck,t,(k.block _ (wAi h1) hx).trans h1,h2⟩
 | map2 _ l=>obtain ⟨es,ck,t,h1,h2⟩:=h;exact ⟨es,ck,t,(k.block _ (wAi h1) hx).trans h1,h2⟩
 | loop σA t asg body s=>exact ⟨h.at_.keep k hx,h.env,h.ht,h.tN,h.asg,h.body⟩
 | dead=>trivial
def img (μ:Mu) (fl:Nat) (c:Nat):Prop:=∃ p d,μ p=some d/\d.1=c/\fl <= p.nat
structure Ext (μ:Mu) (fl:Nat) (w:World) (μ':Mu) (w':World):Prop where
 mono:μ.Le μ'
 new:∀ p c,μ' p=some c->μ p=some c \/ img μ fl c.1 \/ w.heap.size <= c.1
 keep:Keep w w' (img μ fl)
theorem Ext.refl (μ:Mu) (fl:Nat) (w:World):Ext μ fl w μ w:=⟨Mu.Le.refl μ,fun _ _ h=>.inl h,Keep.refl w _⟩
theorem Ext.img {fl:Nat} {c:Nat} (E:Ext μ fl w μ' w') (hi:img μ' fl c):KX.img μ fl c \/ w.heap.size <= c:=by
 obtain ⟨p,d,h1,rfl,h2⟩:=hi
 rcases E.new p _ h1 with h3 | h3 | h3
 ·exact .inl ⟨p,d,h3,rfl,h2⟩
 ·exact .inl h3
 ·exact .inr h3
theorem Ext.trans {fl:Nat} (E:Ext μ fl w μ' w') (E':Ext μ' fl w' μ'' w''):Ext μ fl w μ'' w'':=by
 refine ⟨E.mono.trans E'.mono,fun p c hp=>?_,E.keep.step E'.keep fun i hi hm=>?_⟩
 ·rcases E'.new p c hp with h1 | h1 | h1
  ·exact E.new p c h1
  ·exact .inr (E.img h1)
  ·exact .inr (.inr (kl E.keep.size h1))
 ·rcases E.img hm with h1 | h1
  ·exact h1
  ·omega
structure Sim (C:Chk) (P:Program) (μ:Mu) (h:AH) (w:World):Prop where
 nx:∀ p,h.nx.nat <= p.nat->μ p=none
 lt:∀ p c,μ p=some c->c.1 < w.heap.size
 inj:∀ p q a b c d,h.m.get p=some a->h.m.get q=some b->wNl a->wNl b->μ p=some c->μ q=some d->c.1=d.1->p=q
 at_:∀ p b,h.m.get p=some b->∃ c,μ p=some c/\AbR C P μ w c b
theorem Sim.keep (S:Sim C P μ h w) (k:Keep w w' Non):Sim C P μ h w' :=
 ⟨S.nx,fun p c hp=>nw (S.lt p c hp) k.size,S.inj,fun p b hb=>let ⟨c,h1,h2⟩:=S.at_ p b hb;⟨c,h1,h2.keep k id⟩⟩
theorem Sim.floor (S:Sim C P μ h w) (f:Pos):Sim C P μ ⟨h.m,h.nx,f⟩ w:=⟨S.nx,S.lt,S.inj,S.at_⟩
theorem Sim.non (S:Sim C P μ h w) (E:Ext μ h.nx.nat w μ' w') (fl:Nat):Keep w w' Non/\Ext μ fl w μ' w':=by
 have hn:∀ c,¬ img μ h.nx.nat c:=fun c ⟨p,k,h1,_,h2⟩=>by rw [S.nx p h2] at h1;cases h1
 refine ⟨E.keep.weak fun i _ hi=>hn i hi,E.mono,fun p c hp=>?_,E.keep.weak fun i _ hi=>(hn i hi).elim⟩
 rcases E.new p c hp with h1 | h1 | h1
 ·exact .inl h1
 ·exact (hn _ h1).elim
 ·exact .inr (.inr h1)
theorem wMc {h h':AH} {p:Pos} {B:AB} (hp:h.put p B=some h'):h.fl.nat <= p.nat/\h'=⟨h.m.set p B,h.nx,h.fl⟩:=by
 unfold AH.put at hp
 split at hp
 ·cases hp
 ·rename_i hf
  cases hp
  refine ⟨?_,rfl⟩
  rcases kP p.nat h.fl.nat with hlt | hge
  ·rw [(Pos.ltb_iff p h.fl false).2 (.inl hlt)] at hf;cases hf
  ·exact hge
theorem Sim.put {p:Pos} {B B':AB} {c:Cl} (S:Sim C P μ h w) (hp:h.put p B'=some h') (hB:h.m.get p=some B) (hl:wNl B) (hc:μ p=some c) (K:Keep w w' (·=c.1)) (hB':AbR C P μ w' c B') :
  Sim C P μ h' w'/\Ext μ h.fl.nat w μ w'/\h'.fl=h.fl:=by
 obtain ⟨hf,rfl⟩:=wMc hp
 refine ⟨⟨S.nx,fun p c hp=>nw (S.lt p c hp) K.size,?_,?_⟩,⟨Mu.Le.refl μ,fun _ _ h=>.inl h,K.weak fun i _ e=>⟨p,c,hc,e.symm,hf⟩⟩,rfl⟩
 ·intro q r a b d e hq hr la lb hd he hde
  simp only [Tr.get_set] at hq hr
  split at hq <;> split at hr
  ·rename_i h1 h2;rw [h1,h2]
  ·rename_i h1 h2;exact (S.inj q r B b d e (h1 ▸ hB) hr hl lb hd he hde)
  ·rename_i h1 h2;exact (S.inj q r a B d e hq (h2 ▸ hB) la hl hd he hde)
  ·exact S.inj q r a b d e hq hr la lb hd he hde
 ·intro q b hq
  simp only [Tr.get_set] at hq
  split at hq
  ·rename_i h1;subst h1;cases hq;exact ⟨c,hc,hB'⟩
  ·rename_i h1
   obtain ⟨d,h2,h3⟩:=S.at_ q b hq
   refine ⟨d,h2,?_⟩
   by_cases lb:wNl b
   ·exact h3.keep K fun e=>h1 (S.inj q p b B d c hq hB lb hl h2 hc e)
   ·cases b <;> first | trivial | exact (lb trivial).elim
def Mu.add (μ:Mu) (p:Pos) (c:Cl):Mu:=fun q=>if q=p then some c else μ q
theorem Mu.add_le {p:Pos} {c:Cl} (hn:μ p=none):μ.Le (μ.add p c):=by
 intro q d hq
 unfold Mu.add
 by_cases e:q=p
 ·subst e;rw [hn] at hq;cases hq
 ·rw [if_neg e];exact hq
theorem Mu.add_same (μ:Mu) (p:Pos) (c:Cl):μ.add p c p=some c:=by simp [Mu.add]
theorem Sim.pushAt {q0 n':Pos} {c:Cl} {B:AB} (S:Sim C P μ h w) (hn:μ q0=none) (hnn:h.nx.nat <= n'.nat) (hqn:q0.nat < n'.nat) (K:Keep w w' Non) (hc:w.heap.size <= c.1) (hlt:c.1 < w'.heap.size) (hB:AbR C P (μ.add q0 c) w' c B) :
  Sim C P (μ.add q0 c) ⟨h.m.set q0 B,n',h.fl⟩ w'/\Ext μ h.fl.nat w (μ.add q0 c) w'/\(μ.add q0 c) q0=some c:=by
 have hle:=Mu.add_le (c:=c) hn
 refine ⟨⟨?_,?_,?_,?_⟩,⟨hle,?_,K.weak fun _ _ h=>h.elim⟩,Mu.add_same _ _ _⟩
 ·intro p hp
  have hp:n'.nat <= p.nat:=hp
  unfold Mu.add
  rw [if_neg (fun e=>by subst e;omega)]
  exact S.nx p (by omega)
 ·intro p d hd
  unfold Mu.add at hd
  split at hd
  ·cases hd;exact hlt
  ·exact nw (S.lt p d hd) K.size
 ·intro p q a b d e hp hq la lb hd he hde
  simp only [Tr.get_set] at hp hq
  unfold Mu.add at hd he
  split at hd <;> split at he
  ·rename_i h1 h2;rw [h1,h2]
  ·cases hd;have:=S.lt _ _ he;omega
  ·cases he;have:=S.lt _ _ hd;omega
  ·rename_i h1 h2
   rw [if_neg h1] at hp
   rw [if_neg h2] at hq
   exact S.inj p q a b d e hp hq la lb hd he hde
 ·intro p b hb
  simp only [Tr.get_set] at hb
  split at hb
  ·rename_i h1;subst h1;cases hb;exact ⟨c,Mu.add_same _ _ _,hB⟩
  ·obtain ⟨d,h2,h3⟩:=S.at_ p b hb
   exact ⟨d,hle _ _ h2,(h3.mono hle).keep K id⟩
 ·intro p d hd
  unfold Mu.add at hd
  split at hd
  ·cases hd;exact .inr (.inr hc)
  ·exact .inl hd
theorem Sim.push {c:Cl} {B:AB} (S:Sim C P μ h w) (K:Keep w w' Non) (hc:w.heap.size <= c.1) (hlt:c.1 < w'.heap.size) (hB:AbR C P (μ.add h.nx c) w' c B) :
  Sim C P (μ.add h.nx c) (h.push B) w'/\Ext μ h.fl.nat w (μ.add h.nx c) w'/\(h.push B).fl=h.fl/\(μ.add h.nx c) h.nx=some c:=by
 have:=S.pushAt (n':=h.nx.succ) (S.nx h.nx (nS _)) (by rw [Pos.nat_succ];omega) (by rw [Pos.nat_succ];omega) K hc hlt hB
 exact ⟨this.1,this.2.1,rfl,this.2.2⟩
theorem Sim.move {p:Pos} {B B':AB} {c d:Cl} (S:Sim C P μ h w) (hp:h.put p .dead=some h') (hB:h.m.get p=some B) (hl:wNl B) (hc:μ p=some c) (K:Keep w w' (·=c.1)) (hd:d.1=c.1 \/ w.heap.size <= d.1) (hlt:d.1 < w'.heap.size)
  (hB':AbR C P (μ.add h.nx d) w' d B'):Sim C P (μ.add h.nx d) (h'.push B') w'/\Ext μ h.fl.nat w (μ.add h.nx d) w'/\(h'.push B').fl=h.fl/\(μ.add h.nx d) h.nx=some d:=by
 obtain ⟨hf,rfl⟩:=wMc hp
 have hn:=S.nx h.nx (nS _)
 have hle:=Mu.add_le (c:=d) hn
 have hpn:p ≠ h.nx:=fun e=>by rw [e,hn] at hc;cases hc
 refine ⟨⟨?_,?_,?_,?_⟩,⟨hle,?_,K.weak fun i _ e=>⟨p,c,hc,e.symm,hf⟩⟩,rfl,Mu.add_same _ _ _⟩
 ·intro q hq
  have hq:h.nx.succ.nat <= q.nat:=hq
  rw [Pos.nat_succ] at hq
  unfold Mu.add
  rw [if_neg (fun e=>by subst e;omega)]
  exact S.nx q (by omega)
 ·intro q e he
  unfold Mu.add at he
  split at he
  ·cases he;exact hlt
  ·exact nw (S.lt q e he) K.size
 ·have key:∀ q b e,q ≠ h.nx->((h.m.set p .dead).set h.nx B').get q=some b->wNl b->(μ.add h.nx d) q=some e->e.1 ≠ d.1:=by
   intro q b e hq hb lb he hed
   simp only [Tr.get_set,if_neg hq] at hb
   unfold Mu.add at he
   rw [if_neg hq] at he
   split at hb
   ·cases hb;exact lb
   ·rename_i hqp
    rcases hd with h1 | h1
    ·exact hqp (S.inj q p b B e c hb hB lb hl he hc (hed.trans h1))
    ·have:=S.lt _ _ he;omega
  intro q r a b e f hq hr la lb he hf hef
  by_cases e1:q=h.nx <;> by_cases e2:r=h.nx
  ·rw [e1,e2]
  ·subst e1;rw [Mu.add_same] at he;cases he;exact absurd hef.symm (key r b f e2 hr lb hf)
  ·subst e2;rw [Mu.add_same] at hf;cases hf;exact absurd hef (key q a e e1 hq la he)
  ·simp only [AH.push,Tr.get_set,if_neg e1,if_neg e2] at hq hr
   unfold Mu.add at he hf
   rw [if_neg e1] at he
   rw [if_neg e2] at hf
   split at hq
   ·cases hq;exact la.elim
   ·split at hr
    ·cases hr;exact lb.elim
    ·exact S.inj q r a b e f hq hr la lb he hf hef
 ·intro q b hb
  simp only [AH.push,Tr.get_set] at hb
  split at hb
  ·rename_i h1;subst h1;cases hb;exact ⟨d,Mu.add_same _ _ _,hB'⟩
  ·split at hb
   ·rename_i h1 h2;subst h2;cases hb;exact ⟨c,hle _ _ hc,trivial⟩
   ·rename_i h1 h2
    obtain ⟨e,h3,h4⟩:=S.at_ q b hb
    refine ⟨e,hle _ _ h3,?_⟩
    by_cases lb:wNl b
    ·exact (h4.mono hle).keep K fun e'=>h2 (S.inj q p b B e c hb hB lb hl h3 hc e')
    ·cases b <;> first | trivial | exact (lb trivial).elim
 ·intro q e he
  unfold Mu.add at he
  split at he
  ·cases he
   rcases hd with h1 | h1
   ·exact .inr (.inl ⟨p,c,hc,h1.symm,hf⟩)
   ·exact .inr (.inr h1)
  ·exact .inl he
end
noncomputable section
open Go.RowKit Go.KL
def aggD:TypeDesc->Bool
 | .struct _ | .array _ _=>true
 | _=>false
def wFx (P:Program) (t:TypeId) (f:TypeDesc->Bool):Bool:=match P.underlying t with
 | some d=>f d
 | none=>false
def szT (P:Program) (t n:Nat):Bool:=match P.info? t with
 | some i=>nG i.size n
 | none=>false
def byT (P:Program) (t n:Nat):Bool:=match P.info? t with
 | some i=>nG i.bytes n
 | none=>false
def zT (P:Program) (t:TypeId) (z:List AV):Bool:=match P.info? t with
 | some i=>match i.zero with
  | some v=>wQM z v.cells.toList
  | none=>false
 | none=>false
section
variable {C:Chk} {P:Program} {μ μ':Mu} {w w':World} {h h':AH} {σ:Env} {σA:Tr AV} {t e:TypeId} {o:Oper}
theorem wBF {f:TypeDesc->Bool} (hc:wFx P t f=true):∃ d,P.underlying t=some d/\f d=true:=by
 unfold wFx at hc
 split at hc
 ·exact ⟨_,by assumption,hc⟩
 ·cases hc
theorem wBP {d:TypeDesc} (hu:P.underlying t=some d) (w:World):(underlying t).run P w=.ok d w:=run_underlying hu w
theorem wFL {n:Nat} (hc:szT P t n=true) (w:World):(sizeOf t).run P w=.ok n w:=by
 unfold szT at hc
 split at hc
 ·rename_i i hi
  rw [<- nB hc]
  simp [sizeOf,typeInfo,hi]
 ·cases hc
theorem wJq {n:Nat} (hc:szT P t n=true):∃ i,P.info? t=some i/\i.size=n:=by
 unfold szT at hc
 split at hc
 ·rename_i i hi;exact ⟨i,hi,nB hc⟩
 ·cases hc
theorem wJr {n:Nat} (hc:byT P t n=true):∃ i,P.info? t=some i/\i.bytes=n:=by
 unfold byT at hc
 split at hc
 ·rename_i i hi;exact ⟨i,hi,nB hc⟩
 ·cases hc
theorem wIc {z:List AV} (hc:zT P t z=true):∃ i v,P.info? t=some i/\i.zero=some v/\∀ μ,RvL μ z v.cells.toList:=by
 unfold zT at hc
 split at hc
 ·rename_i i hi
  split at hc
  ·rename_i v hv;exact ⟨i,v,hi,hv,fun μ=>wIb μ hc⟩
  ·cases hc
 ·cases hc
theorem wGW {i:TypeInfo} {z:Value} (hi:P.info? t=some i) (hz:i.zero=some z) (w:World):(zeroValue t).run P w=.ok z w:=by
 simp [zeroValue,typeInfo,hi,hz]
theorem wId {d:TypeDesc} (hu:P.underlying t=some d) (w:World):(isAgg t).run P w=.ok (aggD d) w:=by
 simp only [isAgg,Sem.run_bind,wBP hu,Result.andThen_ok]
 cases d <;> rfl
def wQN (P:Program) (t:TypeId) (b:Bool):Bool:=wFx P t fun d=>aggD d == b
theorem wGK {b:Bool} (hc:wQN P t b=true) (w:World):(isAgg t).run P w=.ok b w:=by
 obtain ⟨d,h1,h2⟩:=wBF hc
 rw [wId h1,eq_of_beq h2]
def OkP (P:Program) (op:Op) (f:Tr AV->AH->Option (AV × AH)):Prop :=
 ∀ σA h v h',f σA h=some (v,h')->h'=h/\∀ μ σ,EnvR μ σA σ->∃ cv,Rv μ v cv/\∀ (o:Oper) (w:World),o.op=op->Runs P σ w o cv w
def c_mv (x:AOd):Op->Bool
 | .move y | .assign y=>wCt x y
 | _=>false
theorem p_mv {x:AOd} {op:Op} (hc:c_mv x op=true):OkP P op (o_mv x):=by
 intro σA h v h' hr
 cases hr
 refine ⟨rfl,fun μ σ hE=>?_⟩
 unfold c_mv at hc
 split at hc
 ·exact ⟨_,wAO hc hE,fun o w ho=>Runs.mv ho rfl⟩
 ·exact ⟨_,wAO hc hE,fun o w ho=>Runs.as ho rfl⟩
 ·cases hc
def wOl (c x y:AOd):Op->Bool
 | .pick c' x' y'=>wCt c c' && (wCt x x' && wCt y y')
 | _=>false
theorem wUQ {c x y:AOd} {op:Op} (hc:wOl c x y op=true):OkP P op (wKi c x y):=by
 intro σA h v h' hr
 unfold wOl at hc
 split at hc
 ·rename_i c' x' y'
  simp only [nA] at hc
  unfold wKi at hr
  split at hr
  ·rename_i hb;cases hr
   exact ⟨rfl,fun μ σ hE=>⟨_,wAO hc.2.1 hE,fun o w ho=>Runs.pickT ho (by have:=wAO hc.1 hE;rw [hb] at this;exact this) rfl⟩⟩
  ·rename_i hb;cases hr
   exact ⟨rfl,fun μ σ hE=>⟨_,wAO hc.2.2 hE,fun o w ho=>Runs.pickF ho (by have:=wAO hc.1 hE;rw [hb] at this;exact this) rfl⟩⟩
  ·cases hr
 ·cases hc
def wOm (x:AOd):Op->Bool
 | .nilCheck y=>wCt x y
 | _=>false
theorem wUR {x:AOd} {op:Op} (hc:wOm x op=true):OkP P op (wKj x):=by
 intro σA h v h' hr
 unfold wOm at hc
 split at hc
 ·unfold wKj at hr
  split at hr
  ·rename_i hb;cases hr
   refine ⟨rfl,fun μ σ hE=>?_⟩
   have:=wAO hc hE;rw [hb] at this
   refine ⟨_,this,fun o w ho=>?_⟩
   obtain ⟨c,h1,h2⟩:=this
   rw [h2];exact Runs.nilp ho h2
  ·rename_i hb;cases hr
   refine ⟨rfl,fun μ σ hE=>?_⟩
   have:=wAO hc hE;rw [hb] at this
   refine ⟨_,this,fun o w ho=>?_⟩
   obtain ⟨fv,cv,_,_,h2⟩:=this
   rw [h2];exact Runs.nilf ho h2
  ·rename_i hb;cases hr
   refine ⟨rfl,fun μ σ hE=>?_⟩
   have:=wAO hc hE;rw [hb] at this
   refine ⟨_,this,fun o w ho=>?_⟩
   obtain ⟨c,h1,h2⟩:=this
   rw [h2];exact Runs.nily ho h2
  ·cases hr
 ·cases hc
theorem wJs {k:IntKind} {n:Int} (hk:inK k n=true):k.wrap n=n:=by
 unfold inK at hk
 split at hk <;> (try simp only [nQ] at hk) <;> (try simp only [IntKind.wrap_i64,IntKind.wrap_u8,IntKind.wrap_u32,Go.IntKind.wrap_u64,kX,nq]) <;> first | omega | cases hk
theorem wCM {x:Option AV} {v:AV} (hr:okV h x=some (v,h')):x=some v/\h'=h:=by
 cases x <;> cases hr;exact ⟨rfl,rfl⟩
theorem wCN {α:Type} {b:Bool} {x:Option α} {v:α} (hr:ifO b x=some v):b=true/\x=some v:=by
 cases b
 ·cases hr
 ·exact ⟨rfl,hr⟩
theorem wJU {f:Int->Int->Int} {x y v:AV} (hr:wLj f x y=some v):∃ k a b,x=.int k a/\y=.int k b/\v=.int k (f a b)/\k.wrap (f a b)=f a b:=by
 unfold wLj at hr
 split at hr
 ·rename_i k a k' b
  split at hr
  ·rename_i hk
   split at hr
   ·rename_i hi;cases hr;exact ⟨k,a,b,rfl,by rw [wCG hk],rfl,wJs hi⟩
   ·cases hr
  ·cases hr
 ·cases hr
theorem wQO {f:Int->Int->Int} {x y v:AV} (hr:div f x y=some v):∃ k a b,x=.int k a/\y=.int k b/\v=.int k (f a b)/\k.wrap (f a b)=f a b/\b ≠ 0:=by
 unfold div at hr
 split at hr
 ·rename_i k a k' b
  split at hr
  ·rename_i hk
   split at hr
   ·cases hr
   ·rename_i hz
    split at hr
    ·rename_i hi;cases hr
     exact ⟨k,a,b,rfl,by rw [wCG hk],rfl,wJs hi,fun e=>by rw [wKo.2 e] at hz;cases hz⟩
    ·cases hr
  ·cases hr
 ·cases hr
theorem wOn {f:Int->Int->Bool} {x y v:AV} (hr:wQD f x y=some v):∃ k a b,x=.int k a/\y=.int k b/\v=.bool (f a b):=by
 unfold wQD at hr
 split at hr
 ·rename_i k a k' b
  split at hr
  ·rename_i hk;cases hr;exact ⟨k,a,b,rfl,by rw [wCG hk],rfl⟩
  ·cases hr
 ·cases hr
def wDy (b:BinOp) (x y:AOd):Op->Bool
 | .binOp b' _ x' y' _=>(b' == b) && (wCt x x' && wCt y y')
 | _=>false
theorem wHH {b:BinOp} {x y:AOd} {op:Op} (hc:wDy b x y op=true):∃ t x' y' t',op=.binOp b t x' y' t'/\wCt x x'=true/\wCt y y'=true:=by
 unfold wDy at hc
 split at hc
 ·rename_i b' t x' y' t'
  simp only [nA,beq_iff_eq] at hc
  obtain ⟨rfl,h1,h2⟩:=hc
  exact ⟨t,x',y',t',rfl,h1,h2⟩
 ·cases hc
theorem wLq {b:BinOp} {f:Int->Int->Int} {x y:AOd} {op:Op} (hc:wDy b x y op=true)
  (hrun:∀ (o:Oper) (σ:Env) (w:World) t x' y' t' k m n,o.op=.binOp b t x' y' t'->ev σ x'=.int k m->ev σ y'=.int k n->Runs P σ w o (.int k (k.wrap (f m n))) w) :
  OkP P op (fun σ h=>okV h (wLj f (evA σ x) (evA σ y))):=by
 intro σA h v h' hr
 obtain ⟨t,x',y',t',rfl,h1,h2⟩:=wHH hc
 obtain ⟨hr2,rfl⟩:=wCM hr
 obtain ⟨k,m,n,e1,e2,rfl,e3⟩:=wJU hr2
 refine ⟨rfl,fun μ σ hE=>⟨_,rfl,fun o w ho=>?_⟩⟩
 have g1:=wAO h1 hE;rw [e1] at g1
 have g2:=wAO h2 hE;rw [e2] at g2
 have:=hrun o σ w t x' y' t' k m n ho g1 g2
 rwa [e3] at this
theorem p_add {x y:AOd} {op:Op} (hc:wDy .add x y op=true):OkP P op (wRv x y) :=
 wLq hc fun o σ w t x' y' t' k m n ho h1 h2=>⟨by rw [ho];rfl,by simp [execOp,ho,h1,h2,binOp,eqGuard,Op.intArith]⟩
theorem p_sub {x y:AOd} {op:Op} (hc:wDy .sub x y op=true):OkP P op (wRw x y) :=
 wLq hc fun o σ w t x' y' t' k m n ho h1 h2=>⟨by rw [ho];rfl,by simp [execOp,ho,h1,h2,binOp,eqGuard,Op.intArith];rfl⟩
theorem p_mul {x y:AOd} {op:Op} (hc:wDy .mul x y op=true):OkP P op (wRx x y) :=
 wLq hc fun o σ w t x' y' t' k m n ho h1 h2=>⟨by rw [ho];rfl,by simp [execOp,ho,h1,h2,binOp,eqGuard,Op.intArith]⟩
theorem wUS {b:BinOp} {f:Int->Int->Int} {x y:AOd} {op:Op} (hc:wDy b x y op=true)
  (hrun:∀ (o:Oper) (σ:Env) (w:World) t x' y' t' k m n,o.op=.binOp b t x' y' t'->ev σ x'=.int k m->ev σ y'=.int k n->n ≠ 0->k.wrap (f m n)=f m n->Runs P σ w o (.int k (f m n)) w) :
  OkP P op (fun σ h=>okV h (div f (evA σ x) (evA σ y))):=by
 intro σA h v h' hr
 obtain ⟨t,x',y',t',rfl,h1,h2⟩:=wHH hc
 obtain ⟨hr2,rfl⟩:=wCM hr
 obtain ⟨k,m,n,e1,e2,rfl,e3,e4⟩:=wQO hr2
 refine ⟨rfl,fun μ σ hE=>⟨_,rfl,fun o w ho=>?_⟩⟩
 have g1:=wAO h1 hE;rw [e1] at g1
 have g2:=wAO h2 hE;rw [e2] at g2
 exact hrun o σ w t x' y' t' k m n ho g1 g2 e4 e3
theorem p_quo {x y:AOd} {op:Op} (hc:wDy .quo x y op=true):OkP P op (wRy x y) :=
 wUS hc fun o σ w t x' y' t' k m n ho h1 h2 h3 h4=>⟨by rw [ho];rfl,by simp [execOp,ho,h1,h2,binOp,eqGuard,Op.intDiv,h3,h4]⟩
theorem p_rem {x y:AOd} {op:Op} (hc:wDy .rem x y op=true):OkP P op (wRz x y) :=
 wUS hc fun o σ w t x' y' t' k m n ho h1 h2 h3 h4=>⟨by rw [ho];rfl,by simp [execOp,ho,h1,h2,binOp,eqGuard,Op.intDiv,h3]⟩
theorem wNV {b:BinOp} {f:Int->Int->Bool} {x y:AOd} {op:Op} (hc:wDy b x y op=true)
  (hrun:∀ (o:Oper) (σ:Env) (w:World) t x' y' t' k m n,o.op=.binOp b t x' y' t'->ev σ x'=.int k m->ev σ y'=.int k n->Runs P σ w o (.bool (f m n)) w) :
  OkP P op (fun σ h=>okV h (wQD f (evA σ x) (evA σ y))):=by
 intro σA h v h' hr
 obtain ⟨t,x',y',t',rfl,h1,h2⟩:=wHH hc
 obtain ⟨hr2,rfl⟩:=wCM hr
 obtain ⟨k,m,n,e1,e2,rfl⟩:=wOn hr2
 refine ⟨rfl,fun μ σ hE=>⟨_,rfl,fun o w ho=>?_⟩⟩
 have g1:=wAO h1 hE;rw [e1] at g1
 have g2:=wAO h2 hE;rw [e2] at g2
 exact hrun o σ w t x' y' t' k m n ho g1 g2
theorem p_lss {x y:AOd} {op:Op} (hc:wDy .lss x y op=true):OkP P op (wSA x y) :=
 wNV hc fun o σ w t x' y' t' k m n ho h1 h2=>(Runs.lss ho h1 h2).to (by rw [wIa])
theorem p_leq {x y:AOd} {op:Op} (hc:wDy .leq x y op=true):OkP P op (wSB x y) :=
 wNV hc fun o σ w t x' y' t' k m n ho h1 h2=>(Runs.leq ho h1 h2).to (by rw [wOj])
theorem p_gtr {x y:AOd} {op:Op} (hc:wDy .gtr x y op=true):OkP P op (wSC x y) :=
 wNV hc fun o σ w t x' y' t' k m n ho h1 h2=>(Runs.gtr ho h1 h2).to (by rw [wIa])
theorem p_geq {x y:AOd} {op:Op} (hc:wDy .geq x y op=true):OkP P op (wSD x y) :=
 wNV hc fun o σ w t x' y' t' k m n ho h1 h2=>(Runs.geq ho h1 h2).to (by rw [wOj])
theorem p_eql {x y:AOd} {op:Op} (hc:wDy .eql x y op=true):OkP P op (wSE x y) :=
 wNV hc fun o σ w t x' y' t' k m n ho h1 h2=>(Runs.eql ho h1 h2).to (by rw [wFj])
theorem p_neq {x y:AOd} {op:Op} (hc:wDy .neq x y op=true):OkP P op (wSF x y) :=
 wNV hc fun o σ w t x' y' t' k m n ho h1 h2=>(Runs.neq ho h1 h2).to (by rw [wFj];simp)
def wSR (x:AOd):Op->Bool
 | .unOp .neg _ y=>wCt x y
 | _=>false
theorem p_neg {x:AOd} {op:Op} (hc:wSR x op=true):OkP P op (wSG x):=by
 intro σA h v h' hr
 unfold wSR at hc
 split at hc
 ·obtain ⟨hr2,rfl⟩:=wCM hr
  obtain ⟨k,m,n,e1,e2,rfl,e3⟩:=wJU hr2
  rw [e2] at e1
  simp only at e1
  cases e1
  refine ⟨rfl,fun μ σ hE=>⟨_,rfl,fun o w ho=>?_⟩⟩
  have g2:=wAO hc hE;rw [e2] at g2
  refine ⟨by rw [ho];rfl,?_⟩
  have:ev σ _=.int k n:=g2
  simp only [execOp,ho,this,Op.unary,Op.intArith,Sem.run_bind,Sem.run_pure,Result.andThen_ok]
  rw [show (0:Int) - n=Int.sub 0 n from rfl,e3]
 ·cases hc
def wSS (x:AOd):Op->Bool
 | .unOp .not _ y=>wCt x y
 | _=>false
theorem p_not {x:AOd} {op:Op} (hc:wSS x op=true):OkP P op (wOU x):=by
 intro σA h v h' hr
 unfold wSS at hc
 split at hc
 ·unfold wOU at hr
  split at hr
  ·rename_i hb;cases hr
   refine ⟨rfl,fun μ σ hE=>⟨_,rfl,fun o w ho=>?_⟩⟩
   have g:=wAO hc hE;rw [hb] at g
   exact Runs.not ho g
  ·cases hr
 ·cases hc
def wOo:TypeDesc->Option IntKind
 | .int k=>some k
 | _=>none
def wST (k:IntKind) (x:AOd):Op->Bool
 | .convert s t y=>wFx P s (fun d=>(wOo d).isSome) && (wFx P t (fun d=>match wOo d with | some k'=>keq k k' | none=>false) && wCt x y)
 | _=>false
theorem p_cvt {k:IntKind} {x:AOd} {op:Op} (hc:wST (P:=P) k x op=true):OkP P op (wOV k x):=by
 intro σA h v h' hr
 unfold wST at hc
 split at hc
 ·simp only [nA] at hc
  obtain ⟨c1,c2,c3⟩:=hc
  unfold wOV at hr
  split at hr
  ·rename_i k0 n hb
   obtain ⟨hi,hr⟩:=wCN hr
   cases hr
   refine ⟨rfl,fun μ σ hE=>⟨_,rfl,fun o w ho=>?_⟩⟩
   have g:=wAO c3 hE;rw [hb] at g
   obtain ⟨d,d1,d2⟩:=wBF c1
   obtain ⟨e,e1,e2⟩:=wBF c2
   cases d <;> first | (cases d2;done) | skip
   cases e <;> first | (cases e2;done) | skip
   have:=wCG e2
   subst this
   have g':ev σ _=.int k0 n:=g
   exact ⟨by rw [ho];rfl,by simp [execOp,ho,g',convert,wBP d1,wBP e1,Conv.intToInt,wJs hi]⟩
  ·cases hr
 ·cases hc
def wSU (f:Pos) (fi ca:List AOd):Op->Bool
 | .makeFunc (.func g) fi' ca'=>nG f.nat (g + 1) && (wKp fi fi'.toList && wKp ca ca'.toList)
 | _=>false
theorem p_mkf {f:Pos} {fi ca:List AOd} {op:Op} (hc:wSU f fi ca op=true):OkP P op (wNR f fi ca):=by
 intro σA h v h' hr
 cases hr
 unfold wSU at hc
 split at hc
 ·simp only [nA] at hc
  obtain ⟨c1,c2,c3⟩:=hc
  refine ⟨rfl,fun μ σ hE=>⟨_,⟨_,_,wIH c2 hE,wIH c3 hE,rfl⟩,fun o w ho=>?_⟩⟩
  have e:=nB c1
  refine ⟨by rw [ho];rfl,?_⟩
  simp [execOp,ho,Instr.makeFunc,e,<- aN]
 ·cases hc
def wSV (i:Nat) (x:AOd):Op->Bool
 | .extract y j=>nG i j && wCt x y
 | _=>false
theorem p_ext {i:Nat} {x:AOd} {op:Op} (hc:wSV i x op=true):OkP P op (wOb i x):=by
 intro σA h v h' hr
 unfold wSV at hc
 split at hc
 ·simp only [nA] at hc
  have e:=nB hc.1
  subst e
  unfold wOb at hr
  split at hr
  ·rename_i l hb
   obtain ⟨hr2,rfl⟩:=wCM hr
   refine ⟨rfl,fun μ σ hE=>?_⟩
   have g:=wAO hc.2 hE;rw [hb] at g
   obtain ⟨vs,g1,g2⟩:=g
   rw [wHn] at hr2
   obtain ⟨cv,g3,g4⟩:=wGo g1 hr2
   exact ⟨cv,g4,fun o w ho=>Runs.ext ho g2 (by simpa using g3)⟩
  ·cases hr
 ·cases hc
end
end
noncomputable section
open Go.RowKit Go.KL
section
variable {C:Chk} {P:Program} {μ μ':Mu} {w w':World} {h h':AH} {σ:Env} {σA:Tr AV} {t e:TypeId} {o:Oper}
def wSW (P:Program) (ne:Bool) (x y:AOd):Op->Bool
 | .binOp b t x' y' _=>(match ne with | true=>b == .neq | false=>b == .eql) && (wFx P t (fun d=>match d with | .bool=>true | _=>false) && (wCt x x' && wCt y y'))
 | _=>false
theorem wJV (ne b:Bool):(ne != b)=(match ne with | true=>!b | false=>b):=by cases ne <;> cases b <;> rfl
theorem p_eqb {ne:Bool} {x y:AOd} {op:Op} (hc:wSW P ne x y op=true):OkP P op (wOR ne x y):=by
 intro σA h v h' hr
 unfold wSW at hc
 split at hc
 ·simp only [nA] at hc
  obtain ⟨c0,c1,c2,c3⟩:=hc
  unfold wOR at hr
  split at hr
  ·rename_i a b e1 e2
   cases hr
   refine ⟨rfl,fun μ σ hE=>⟨_,rfl,fun o w ho=>?_⟩⟩
   have g1:=wAO c2 hE;rw [e1] at g1
   have g2:=wAO c3 hE;rw [e2] at g2
   obtain ⟨d,d1,d2⟩:=wBF c1
   cases d <;> first | (cases d2;done) | skip
   cases ne
   ·have:=eq_of_beq c0;subst this
    exact (Runs.eqB ho g1 g2 (wBP d1)).to (by rw [wJV])
   ·have:=eq_of_beq c0;subst this
    exact (Runs.neB ho g1 g2 (wBP d1)).to (by rw [wJV])
  ·cases hr
 ·cases hc
def nilD (k:Nat) (d:TypeDesc):Bool:=match k,d with
 | 0,.pointer _=>true
 | 1,.slice _=>true
 | 2,.map _ _=>true
 | 3,.func _ _ _=>true
 | _,_=>false
theorem wOp {k:Nat} {d:TypeDesc} {a b:AV} {r:Bool} {x y:Value} (hu:P.underlying t=some d) (hd:nilD k d=true) (hr:wNO k a b=some r) (hx:Rv μ a x) (hy:Rv μ b y) (w:World):(Op.equal t x y).run P w=.ok r w:=by
 unfold Op.equal Op.maxDepth
 rw [show (10000:Nat)=9999 + 1 from rfl,Op.equalIn]
 unfold wNO at hr
 split at hr <;> cases hr <;> simp only [Rv] at hx hy <;> (cases d <;> first | (cases hd;done) | skip) <;>
  (try obtain ⟨_,_,_,_,_,rfl⟩:=hx) <;> (try obtain ⟨_,_,_,_,rfl⟩:=hx) <;> (try obtain ⟨_,_,_,rfl⟩:=hx) <;> (try obtain ⟨_,_,rfl⟩:=hx) <;> (try subst hx) <;>
  (try obtain ⟨_,_,_,_,_,rfl⟩:=hy) <;> (try obtain ⟨_,_,_,_,rfl⟩:=hy) <;> (try obtain ⟨_,_,_,rfl⟩:=hy) <;> (try obtain ⟨_,_,rfl⟩:=hy) <;> (try subst hy) <;>
  simp only [Sem.run_bind,wBP hu,Result.andThen_ok,Sem.run_pure] <;> rfl
theorem wLr {k:Nat} {a b:AV} {r:Bool} {x y:Value} (hr:wNO k a b=some r) (hx:Rv μ a x) (hy:Rv μ b y) (op:BinOp) (p q:Operand) (w:World):(eqGuard op t p q x y).run P w=.ok () w:=by
 unfold wNO at hr
 split at hr <;> cases hr <;> simp only [Rv] at hx hy <;>
  (try obtain ⟨_,_,_,_,_,rfl⟩:=hx) <;> (try obtain ⟨_,_,_,_,rfl⟩:=hx) <;> (try obtain ⟨_,_,_,rfl⟩:=hx) <;> (try obtain ⟨_,_,rfl⟩:=hx) <;> (try subst hx) <;>
  (try obtain ⟨_,_,_,_,_,rfl⟩:=hy) <;> (try obtain ⟨_,_,_,_,rfl⟩:=hy) <;> (try obtain ⟨_,_,_,rfl⟩:=hy) <;> (try obtain ⟨_,_,rfl⟩:=hy) <;> (try subst hy) <;>
  simp only [eqGuard] <;> (cases op <;> rfl)
def wSX (P:Program) (k:Nat) (ne:Bool) (x y:AOd):Op->Bool
 | .binOp b t x' y' _=>(match ne with | true=>b == .neq | false=>b == .eql) && (wFx P t (nilD k) && (wCt x x' && wCt y y'))
 | _=>false
theorem p_eqn {k:Nat} {ne:Bool} {x y:AOd} {op:Op} (hc:wSX P k ne x y op=true):OkP P op (wOS k ne x y):=by
 intro σA h v h' hr
 unfold wSX at hc
 split at hc
 ·rename_i b t x' y' t'
  simp only [nA] at hc
  obtain ⟨c0,c1,c2,c3⟩:=hc
  unfold wOS at hr
  split at hr
  ·rename_i r e1
   cases hr
   refine ⟨rfl,fun μ σ hE=>⟨_,rfl,fun o w ho=>?_⟩⟩
   have g1:=wAO c2 hE
   have g2:=wAO c3 hE
   obtain ⟨d,d1,d2⟩:=wBF c1
   have g3:=wOp d1 d2 e1 g1 g2
   have g4:=fun op=>wLr (P:=P) (t:=t) e1 g1 g2 op x' y'
   refine ⟨by rw [ho];rfl,?_⟩
   generalize hX:ev σ x'=X at g1 g3 g4
   generalize hY:ev σ y'=Y at g2 g3 g4
   have nint:(∀ k n,X ≠ .int k n)/\(∀ k n,X ≠ .float k n)/\(∀ k n m,X ≠ .complex k n m)/\(∀ s,X ≠ .string s):=by
    unfold wNO at e1
    split at e1 <;> cases e1 <;> rename_i e2 e3 <;> rw [e2] at g1 <;> simp only [Rv] at g1 <;>
     (try obtain ⟨_,_,_,_,_,rfl⟩:=g1) <;> (try obtain ⟨_,_,_,_,rfl⟩:=g1) <;> (try obtain ⟨_,_,_,rfl⟩:=g1) <;> (try obtain ⟨_,_,rfl⟩:=g1) <;> (try subst g1) <;>
     exact ⟨by simp,by simp,by simp,by simp⟩
   obtain ⟨n1,n2,n3,n4⟩:=nint
   cases ne
   ·have:=eq_of_beq c0;subst this
    simp only [execOp,ho,Sem.run_bind,hX,hY,g4 .eql w,Result.andThen_ok]
    have:(binOp .eql t X Y).run P w=.ok (.bool r) w:=by
     cases X <;> first | exact absurd rfl (n1 _ _) | exact absurd rfl (n2 _ _) | exact absurd rfl (n3 _ _ _) | exact absurd rfl (n4 _) | (simp only [binOp,Sem.run_bind,g3 w,Result.andThen_ok];rfl)
    rw [this]
    simp [wJV]
   ·have:=eq_of_beq c0;subst this
    simp only [execOp,ho,Sem.run_bind,hX,hY,g4 .neq w,Result.andThen_ok]
    have:(binOp .neq t X Y).run P w=.ok (.bool (!r)) w:=by
     cases X <;> first | exact absurd rfl (n1 _ _) | exact absurd rfl (n2 _ _) | exact absurd rfl (n3 _ _ _) | exact absurd rfl (n4 _) | (simp only [binOp,Sem.run_bind,g3 w,Result.andThen_ok];rfl)
    rw [this]
    simp [wJV]
  ·cases hr
 ·cases hc
mutual
def Sh.depth:Sh->Nat
 | .int=>1
 | .bool=>1
 | .str fs=>wMd fs + 1
def wMd:List (Nat × Nat × Sh)->Nat
 | []=>0
 | (_,_,s) :: fs=>Nat.max s.depth (wMd fs)
end
mutual
def wLs (P:Program):Sh->TypeId->Bool
 | .int,t=>wFx P t fun d=>(wOo d).isSome
 | .bool,t=>wFx P t fun d=>match d with | .bool=>true | _=>false
 | .str fs,t=>(!P.stoodInHeld t) && wFx P t fun d=>match d with | .struct gs=>wNW P fs gs.toList | _=>false
def wNW (P:Program):List (Nat × Nat × Sh)->List Field->Bool
 | [],[]=>true
 | (off, sz, s) :: fs, g :: gs => (g.name != "_") && (nG g.offset off && (szT P g.type sz && (wLs P s g.type && wNW P fs gs)))
 | _,_=>false
end
theorem wOq {s:Sh} (hc:wLs P s t=true) (w:World):(isAgg t).run P w=.ok (match s with | .str _=>true | _=>false) w:=by
 cases s with
 | int =>
  obtain ⟨d,h1,h2⟩:=wBF hc
  rw [wId h1];cases d <;> first | rfl | cases h2
 | bool =>
  obtain ⟨d,h1,h2⟩:=wBF hc
  rw [wId h1];cases d <;> first | rfl | cases h2
 | str fs =>
  simp only [wLs,nA] at hc
  obtain ⟨d,h1,h2⟩:=wBF hc.2
  rw [wId h1];cases d <;> first | rfl | cases h2
theorem wKq {s:Sh} {l:List AV} {vs:List Value} {off sz:Nat} {a:AV} (hc:wLs P s t=true) (hz:szT P t sz=true) (hp:wQE s l off sz=some a) (hl:RvL μ l vs):∃ v,Rv μ a v/\∀ w,(part t vs.toArray off).run P w=.ok v w:=by
 have hag:=wOq hc
 unfold wQE at hp
 split at hp
 ·split at hp
  ·rename_i r hs
   cases hp
   obtain ⟨h1,h2⟩:=wGp hs hl
   exact ⟨_,⟨_,h1,rfl⟩,fun w=>wEx hag (wFL hz) rfl⟩
  ·cases hp
 ·rename_i hne
  rw [wHn] at hp
  obtain ⟨v,h1,h2⟩:=wGo hl hp
  refine ⟨v,h2,fun w=>wEJ (fun w=>?_) h1⟩
  rw [hag w]
  cases s <;> first | rfl | exact absurd rfl (hne _)
mutual
theorem wMe:∀ (s:Sh) (t:TypeId) (d:Nat) (a b:AV) (x y:Value) (r:Bool),wLs P s t=true->s.depth <= d->wQF s a b=some r->Rv μ a x->Rv μ b y->∀ w,(Op.equalIn d t x y).run P w=.ok r w
 | .int,t,d,a,b,x,y,r,hc,hd,hr,hx,hy,w=>by
  obtain ⟨d,rfl⟩:∃ e,d=e + 1:=⟨d - 1,by simp only [Sh.depth] at hd;omega⟩
  unfold wQF at hr
  split at hr <;> first | (cases hr;done) | skip
  all_goals (try (rename_i h0;cases h0))
  split at hr <;> cases hr
  rename_i hk
  obtain ⟨dd,d1,d2⟩:=wBF hc
  cases dd <;> first | (cases d2;done) | skip
  simp only [Rv] at hx hy
  subst hx hy
  have:=wCG hk;subst this
  simp [Op.equalIn,wBP d1,wFj,wLX]
 | .bool,t,d,a,b,x,y,r,hc,hd,hr,hx,hy,w=>by
  obtain ⟨d,rfl⟩:∃ e,d=e + 1:=⟨d - 1,by simp only [Sh.depth] at hd;omega⟩
  unfold wQF at hr
  split at hr <;> first | (cases hr;done) | skip
  all_goals (try (rename_i h0;cases h0))
  cases hr
  obtain ⟨dd,d1,d2⟩:=wBF hc
  cases dd <;> first | (cases d2;done) | skip
  simp only [Rv] at hx hy
  subst hx hy
  simp [Op.equalIn,wBP d1]
 | .str fs,t,d,a,b,x,y,r,hc,hd,hr,hx,hy,w=>by
  simp only [Sh.depth] at hd
  obtain ⟨d,rfl⟩:∃ e,d=e + 1:=⟨d - 1,by omega⟩
  unfold wQF at hr
  split at hr <;> first | (cases hr;done) | skip
  all_goals (try (rename_i h0;cases h0))
  simp only [wLs,nA,kh] at hc
  obtain ⟨dd,d1,d2⟩:=wBF hc.2
  cases dd <;> first | (cases d2;done) | skip
  rename_i gs
  obtain ⟨xs,h1,rfl⟩:=hx
  obtain ⟨ys,h2,rfl⟩:=hy
  have hf:P.fieldsOf t=gs:=by unfold Program.fieldsOf;rw [d1]
  rw [run_equalIn_agg w d t _ _ (by rw [hf];exact d1) hc.1,hf]
  exact wMf fs gs.toList d _ _ xs ys r d2 (by omega) hr h1 h2 w
theorem wMf:∀ (fs:List (Nat × Nat × Sh)) (gs:List Field) (d:Nat) (l k:List AV) (xs ys:List Value) (r:Bool),wNW P fs gs=true->wMd fs <= d->wUH fs l k=some r->RvL μ l xs->RvL μ k ys ->
  ∀ w,(Op.eqFields d xs.toArray ys.toArray gs).run P w=.ok r w
 | [],[],d,l,k,xs,ys,r,hc,hd,hr,hx,hy,w=>by
  simp only [wUH] at hr;cases hr;rfl
 | (off,sz,s) :: fs,g :: gs,d,l,k,xs,ys,r,hc,hd,hr,hx,hy,w=>by
  simp only [wNW,nA] at hc
  obtain ⟨c1,c2,c3,c4,c5⟩:=hc
  have e:=nB c2
  subst e
  simp only [wUH] at hr
  split at hr
  ·rename_i a b ha hb
   obtain ⟨u,u1,u2⟩:=wKq c4 c3 ha hx
   obtain ⟨v,v1,v2⟩:=wKq c4 c3 hb hy
   have hne : g.name ≠ "_" := by simpa using c1
   have hd1:s.depth <= d:=kl (Nat.le_max_left _ _) hd
   have hd2:wMd fs <= d:=kl (Nat.le_max_right _ _) hd
   cases hq:wQF s a b with
   | none=>rw [hq] at hr;cases hr
   | some q =>
    have hE:=wMe s g.type d a b u v q c4 hd1 hq u1 v1
    rw [hq] at hr
    cases q with
    | true =>
     simp only at hr
     have hF:=wMf fs gs d l k xs ys r c5 hd2 hr hx hy
     simp [Op.eqFields,hne,u2,v2,hE,hF,Result.andThen]
    | false =>
     simp only [ny] at hr
     subst hr
     simp [Op.eqFields,hne,u2,v2,hE,Result.andThen]
  ·cases hr
 | [],_ :: _,d,l,k,xs,ys,r,hc,hd,hr,hx,hy,w=>by simp [wNW] at hc
 | _ :: _,[],d,l,k,xs,ys,r,hc,hd,hr,hx,hy,w=>by simp [wNW] at hc
end
theorem wQP {fs:List (Nat × Nat × Sh)} {r:Bool}:∀ {a b:AV},wQF (.str fs) a b=some r->∃ l k,a=.agg l/\b=.agg k:=by
 intro a b h
 cases a <;> cases b <;> first | exact ⟨_,_,rfl,rfl⟩ | (simp [wQF] at h;done)
def wSY (P:Program) (ne:Bool) (s:Sh) (x y:AOd):Op->Bool
 | .binOp b t x' y' _=>(match ne with | true=>b == .neq | false=>b == .eql) && (nR s.depth 10000 && (wLs P s t && ((match s with | .str _=>true | _=>false) && ((!P.eqGuardType P.depth t) && (wCt x x' && wCt y y')))))
 | _=>false
theorem p_eqs {ne:Bool} {s:Sh} {x y:AOd} {op:Op} (hc:wSY P ne s x y op=true):OkP P op (wOT ne s x y):=by
 intro σA h v h' hr
 unfold wSY at hc
 split at hc
 ·rename_i b t x' y' t'
  simp only [nA,kh] at hc
  obtain ⟨c0,c1,c2,c3,c4,c5,c6⟩:=hc
  unfold wOT at hr
  split at hr
  ·rename_i r e1
   cases hr
   refine ⟨rfl,fun μ σ hE=>⟨_,rfl,fun o w ho=>?_⟩⟩
   have g1:=wAO c5 hE
   have g2:=wAO c6 hE
   have g3:∀ w,(Op.equal t (ev σ x') (ev σ y')).run P w=.ok r w:=wMe s t 10000 _ _ _ _ r c2 (Nat.le_of_ble_eq_true c1) e1 g1 g2
   cases s <;> first | (cases c3;done) | skip
   obtain ⟨l,k,h1,h2⟩:=wQP e1
   rw [h1] at g1;rw [h2] at g2
   obtain ⟨xs,_,g1⟩:=g1
   obtain ⟨ys,_,g2⟩:=g2
   rw [g1,g2] at g3
   refine ⟨by rw [ho];rfl,?_⟩
   cases ne
   ·have:=eq_of_beq c0;subst this
    simp [execOp,ho,g1,g2,binOp,eqGuard,c4,g3,wJV]
   ·have:=eq_of_beq c0;subst this
    simp [execOp,ho,g1,g2,binOp,eqGuard,c4,g3,wJV]
  ·cases hr
 ·cases hc
end
end
noncomputable section
open Go.RowKit Go.KL
section
variable {C:Chk} {P:Program} {μ μ':Mu} {w w':World} {h h':AH} {σ:Env} {σA:Tr AV} {t e:TypeId} {o:Oper}
def wSZ (P:Program) (off:Nat) (x:AOd):Op->Bool
 | .fieldAddr t y i=>wFx P t (fun d=>match d with
   | .struct fs=>match fs[i]? with
    | some f=>nG f.offset off && (match P.info? f.type with | some j=>nP 0 j.size | none=>false)
    | none=>false
   | _=>false) && wCt x y
 | _=>false
theorem p_fad {off:Nat} {x:AOd} {op:Op} (hc:wSZ P off x op=true):OkP P op (wOX off x):=by
 intro σA h v h' hr
 unfold wSZ at hc
 split at hc
 ·rename_i t y i
  simp only [nA] at hc
  obtain ⟨c1,c2⟩:=hc
  unfold wOX at hr
  split at hr
  ·rename_i b oo hb
   cases hr
   refine ⟨rfl,fun μ σ hE=>?_⟩
   have g:=wAO c2 hE;rw [hb] at g
   obtain ⟨c,g1,g2⟩:=g
   refine ⟨_,⟨c,g1,rfl⟩,fun o w ho=>?_⟩
   obtain ⟨d,d1,d2⟩:=wBF c1
   split at d2
   ·rename_i fs
    split at d2
    ·rename_i f hf
     simp only [nA] at d2
     have e:=nB d2.1
     subst e
     have d3:=d2.2
     split at d3
     ·rename_i j hj
      have hpos:0 < j.size:=by simpa [nQ] using d3
      obtain ⟨n,hn⟩:∃ n,j.size=n + 1:=⟨j.size - 1,by omega⟩
      exact Runs.fa (n:=n) ho g2 (wBP d1) hf (fun w=>by rw [<- hn];simp [sizeOf,typeInfo,hj])
     ·cases d3
    ·cases d2
   ·cases d2
  ·cases hr
 ·cases hc
def wSa (P:Program) (off:Nat) (x:AOd):Op->Bool
 | .field t y i=>wFx P t (fun d=>match d with
   | .struct fs=>match fs[i]? with
    | some f=>nG f.offset off && wQN P f.type false
    | none=>false
   | _=>false) && wCt x y
 | _=>false
def wOr (P:Program) (off n:Nat) (x:AOd):Op->Bool
 | .field t y i=>wFx P t (fun d=>match d with
   | .struct fs=>match fs[i]? with
    | some f=>nG f.offset off && (wQN P f.type true && szT P f.type n)
    | none=>false
   | _=>false) && wCt x y
 | _=>false
theorem p_fld {off:Nat} {x:AOd} {op:Op} (hc:wSa P off x op=true):OkP P op (wOY off x):=by
 intro σA h v h' hr
 unfold wSa at hc
 split at hc
 ·rename_i t y i
  simp only [nA] at hc
  obtain ⟨c1,c2⟩:=hc
  unfold wOY at hr
  split at hr
  ·rename_i l hb
   obtain ⟨hr2,rfl⟩:=wCM hr
   refine ⟨rfl,fun μ σ hE=>?_⟩
   have g:=wAO c2 hE;rw [hb] at g
   obtain ⟨vs,g1,g2⟩:=g
   rw [wHn] at hr2
   obtain ⟨cv,g3,g4⟩:=wGo g1 hr2
   refine ⟨cv,g4,fun o w ho=>?_⟩
   obtain ⟨d,d1,d2⟩:=wBF c1
   split at d2
   ·split at d2
    ·rename_i f hf
     simp only [nA] at d2
     have e:=nB d2.1
     subst e
     exact Runs.fld ho g2 (wBP d1) hf (wEJ (wGK d2.2) g3)
    ·cases d2
   ·cases d2
  ·cases hr
 ·cases hc
theorem wFB {x:Option (List AV)} {v:AV} (hr:wJS x=some v):∃ l,x=some l/\v=.agg l:=by
 cases x <;> cases hr;exact ⟨_,rfl,rfl⟩
theorem wUT {off n:Nat} {x:AOd} {op:Op} (hc:wOr P off n x op=true):OkP P op (wKk off n x):=by
 intro σA h v h' hr
 unfold wOr at hc
 split at hc
 ·rename_i t y i
  simp only [nA] at hc
  obtain ⟨c1,c2⟩:=hc
  unfold wKk at hr
  split at hr
  ·rename_i l hb
   obtain ⟨hr2,rfl⟩:=wCM hr
   obtain ⟨r,hr3,rfl⟩:=wFB hr2
   refine ⟨rfl,fun μ σ hE=>?_⟩
   have g:=wAO c2 hE;rw [hb] at g
   obtain ⟨vs,g1,g2⟩:=g
   obtain ⟨g3,g4⟩:=wGp hr3 g1
   refine ⟨_,⟨_,g3,rfl⟩,fun o w ho=>?_⟩
   obtain ⟨d,d1,d2⟩:=wBF c1
   split at d2
   ·split at d2
    ·rename_i f hf
     simp only [nA] at d2
     have e:=nB d2.1
     subst e
     exact Runs.fld ho g2 (wBP d1) hf (wEx (wGK d2.2.1) (wFL d2.2.2) rfl)
    ·cases d2
   ·cases d2
  ·cases hr
 ·cases hc
theorem wDi {a:AV} {n:Nat} (hr:wIV a=some n):a=.int .i64 n:=by
 unfold wIV at hr
 split at hr
 ·cases hr;rfl
 ·cases hr
def wSb (P:Program) (sz:Nat) (x y:AOd):Op->Bool
 | .indexAddr t x' y'=>wFx P t (fun d=>match d with
   | .slice e=>szT P e sz
   | _=>false) && (wCt x x' && wCt y y')
 | _=>false
theorem p_iad {sz:Nat} {x y:AOd} {op:Op} (hc:wSb P sz x y op=true):OkP P op (wOZ sz x y):=by
 intro σA h v h' hr
 unfold wSb at hc
 split at hc
 ·rename_i t x' y'
  simp only [nA] at hc
  obtain ⟨c1,c2,c3⟩:=hc
  obtain ⟨d,d1,d2⟩:=wBF c1
  split at d2
  ·rename_i e
   unfold wOZ at hr
   split at hr
   ·rename_i b off n c i hb hi
    obtain ⟨hlt,hr⟩:=wCN hr
    cases hr
    have hlt:i < n:=by simpa [nQ] using hlt
    have hi:=wDi hi
    refine ⟨rfl,fun μ σ hE=>?_⟩
    have g:=wAO c2 hE;rw [hb] at g
    have k:=wAO c3 hE;rw [hi] at k
    obtain ⟨m,g1,g2,g3⟩:=g
    refine ⟨_,⟨m,g1,rfl⟩,fun o w ho=>?_⟩
    have:=Runs.ia (P:=P) (o:=o) (w:=w) (i:=(i:Int)) ho g3 k (wBP d1) (wFL d2) (by omega) (by omega)
    simpa using this
   ·rename_i b eo co n i hb hi
    obtain ⟨hlt,hr⟩:=wCN hr
    cases hr
    have hlt:i < n:=by simpa [nQ] using hlt
    have hi:=wDi hi
    refine ⟨rfl,fun μ σ hE=>?_⟩
    have g:=wAO c2 hE;rw [hb] at g
    have k:=wAO c3 hE;rw [hi] at k
    obtain ⟨m,g1,g2,g3⟩:=g
    refine ⟨_,⟨m,g1,rfl⟩,fun o w ho=>?_⟩
    have:=Runs.ia (P:=P) (o:=o) (w:=w) (i:=(i:Int)) ho g3 k (wBP d1) (wFL d2) (by omega) (by omega)
    simpa using this
   ·cases hr
  ·cases d2
 ·cases hc
def wOs (P:Program) (sz n:Nat) (x y:AOd):Op->Bool
 | .indexAddr t x' y'=>wFx P t (fun d=>match d with
   | .array m e=>nG m n && szT P e sz
   | _=>false) && (wCt x x' && wCt y y')
 | _=>false
theorem wUU {sz n:Nat} {x y:AOd} {op:Op} (hc:wOs P sz n x y op=true):OkP P op (wKl sz n x y):=by
 intro σA h v h' hr
 unfold wOs at hc
 split at hc
 ·rename_i t x' y'
  simp only [nA] at hc
  obtain ⟨c1,c2,c3⟩:=hc
  obtain ⟨d,d1,d2⟩:=wBF c1
  split at d2
  ·rename_i m e
   simp only [nA] at d2
   have em:=nB d2.1
   subst em
   unfold wKl at hr
   split at hr
   ·rename_i b off i hb hi
    obtain ⟨hlt,hr⟩:=wCN hr
    cases hr
    have hlt:i < m:=by simpa [nQ] using hlt
    have hi:=wDi hi
    refine ⟨rfl,fun μ σ hE=>?_⟩
    have g:=wAO c2 hE;rw [hb] at g
    have k:=wAO c3 hE;rw [hi] at k
    obtain ⟨q,g1,g3⟩:=g
    refine ⟨_,⟨q,g1,rfl⟩,fun o w ho=>?_⟩
    have:=Runs.iaA (P:=P) (o:=o) (w:=w) (i:=(i:Int)) ho g3 k (wBP d1) (wFL d2.2) (by omega) (by omega)
    simpa using this
   ·cases hr
  ·cases d2
 ·cases hc
def c_ix (P:Program) (n:Nat) (x y:AOd):Op->Bool
 | .index t x' y'=>wFx P t (fun d=>match d with
   | .array m e=>nG m n && (szT P e 1 && wQN P e false)
   | _=>false) && (wCt x x' && wCt y y')
 | _=>false
theorem p_ix {n:Nat} {x y:AOd} {op:Op} (hc:c_ix P n x y op=true):OkP P op (wUL n x y):=by
 intro σA h v h' hr
 unfold c_ix at hc
 split at hc
 ·rename_i t x' y'
  simp only [nA] at hc
  obtain ⟨c1,c2,c3⟩:=hc
  obtain ⟨d,d1,d2⟩:=wBF c1
  split at d2
  ·rename_i m e
   simp only [nA] at d2
   have em:=nB d2.1
   subst em
   unfold wUL at hr
   split at hr
   ·rename_i l i hb hi
    obtain ⟨hlt,hr⟩:=wCN hr
    obtain ⟨hr2,rfl⟩:=wCM hr
    have hlt:i < m:=by simpa [nQ] using hlt
    have hi:=wDi hi
    refine ⟨rfl,fun μ σ hE=>?_⟩
    have g:=wAO c2 hE;rw [hb] at g
    have k:=wAO c3 hE;rw [hi] at k
    obtain ⟨vs,g1,g2⟩:=g
    rw [wHn] at hr2
    obtain ⟨cv,g3,g4⟩:=wGo g1 hr2
    refine ⟨cv,g4,fun o w ho=>?_⟩
    exact Runs.ixA (P:=P) (o:=o) (w:=w) (i:=(i:Int)) ho g2 k (wBP d1) (wFL d2.2.1) (by omega) (by omega) (wEJ (wGK d2.2.2) (by simpa using g3))
   ·cases hr
  ·cases d2
 ·cases hc
def wSc (P:Program) (sz n:Nat) (x y:AOd):Op->Bool
 | .index t x' y'=>wFx P t (fun d=>match d with
   | .array m e=>nG m n && (szT P e sz && wQN P e true)
   | _=>false) && (wCt x x' && wCt y y')
 | _=>false
theorem p_ixA {sz n:Nat} {x y:AOd} {op:Op} (hc:wSc P sz n x y op=true):OkP P op (wOa sz n x y):=by
 intro σA h v h' hr
 unfold wSc at hc
 split at hc
 ·rename_i t x' y'
  simp only [nA] at hc
  obtain ⟨c1,c2,c3⟩:=hc
  obtain ⟨d,d1,d2⟩:=wBF c1
  split at d2
  ·rename_i m e
   simp only [nA] at d2
   have em:=nB d2.1
   subst em
   unfold wOa at hr
   split at hr
   ·rename_i l i hb hi
    obtain ⟨hlt,hr⟩:=wCN hr
    obtain ⟨hr2,rfl⟩:=wCM hr
    obtain ⟨r,hr3,rfl⟩:=wFB hr2
    have hlt:i < m:=by simpa [nQ] using hlt
    have hi:=wDi hi
    refine ⟨rfl,fun μ σ hE=>?_⟩
    have g:=wAO c2 hE;rw [hb] at g
    have k:=wAO c3 hE;rw [hi] at k
    obtain ⟨vs,g1,g2⟩:=g
    obtain ⟨g3,g4⟩:=wGp hr3 g1
    refine ⟨_,⟨_,g3,rfl⟩,fun o w ho=>?_⟩
    exact Runs.ixA (P:=P) (o:=o) (w:=w) (i:=(i:Int)) ho g2 k (wBP d1) (wFL d2.2.1) (by omega) (by omega) (wEx (wGK d2.2.2) (wFL d2.2.1) (by simp))
   ·cases hr
  ·cases d2
 ·cases hc
def wRP:Option AOd->Option Operand->Bool
 | none,none=>true
 | some x,some y=>wCt x y
 | _,_=>false
theorem wOt {x:Option AOd} {y:Option Operand} {r:Option Nat} (hr:bnd σA x=some r) (hc:wRP x y=true) (hE:EnvR μ σA σ):(r=none/\y=none) \/ ∃ n z,r=some n/\y=some z/\ev σ z=.int .i64 n:=by
 cases x with
 | none =>
  cases y with
  | none=>cases hr;exact .inl ⟨rfl,rfl⟩
  | some _=>cases hc
 | some x =>
  cases y with
  | none=>cases hc
  | some y =>
   simp only [bnd] at hr
   split at hr
   ·rename_i n hn
    cases hr
    have:=wAO (show wCt x y=true from hc) hE
    rw [wDi hn] at this
    exact .inr ⟨n,y,rfl,rfl,this⟩
   ·cases hr
def vI (n:Nat):Value:=.int .i64 (n:Int)
theorem wIe {P:Program} {n y:Nat} {code:BoundsCode} (hle:n <= y) (w:World):(Instr.sliceBound (vI n) y code).run P w=.ok n w:=by
 have h1:(n:Int) <= y:=by omega
 simp [Instr.sliceBound,vI,asIntOf,h1]
theorem wGX {P:Program} {s:Bool} {len cap:Nat} {lo hi mx:Option Nat} {l hh m:Nat} (hm:m=mx.getD cap) (hh':hh=hi.getD len) (hl:l=lo.getD 0) (h1:l <= hh) (h2:hh <= m) (h3:m <= cap) (hmh:mx.isSome=true->hi.isSome=true) (w:World) :
  (Instr.sliceBounds s len cap (lo.map vI) (hi.map vI) (mx.map vI)).run P w=.ok (l,hh,m) w:=by
 subst hm hh' hl
 unfold Instr.sliceBounds
 cases mx <;> cases hi <;> cases lo <;> simp only [aO,aP] at h1 h2 h3 <;> (try (simp at hmh;done)) <;> simp [wIe h1,wIe h2,wIe h3]
theorem wIf {x:Option AOd} {y:Option Operand} {r:Option Nat} (hr:bnd σA x=some r) (hc:wRP x y=true) (hE:EnvR μ σA σ):y.map (ev σ)=r.map vI:=by
 rcases wOt hr hc hE with ⟨rfl,rfl⟩ | ⟨n,z,rfl,rfl,h1⟩
 ·rfl
 ·simp [h1,vI]
theorem wGq (b off n:Nat):(Addr.add ⟨b,off,none⟩ n)=⟨b,off + n,none⟩:=wFa b off n
theorem wOu {P:Program} {sz:Nat} {a v:AV} {x:Value} {lo hi mx:Option Nat} (hr0:wUI sz a (orD lo 0) hi mx=some v) (hx:Rv μ a x) (hmh:mx.isSome=true->hi.isSome=true) :
  ∃ A len cap cv l hh m,x=.slice A len cap/\Rv μ v cv/\(∀ s w,(Instr.sliceBounds s len cap (lo.map vI) (hi.map vI) (mx.map vI)).run P w=.ok (l,hh,m) w) /\
   cv=.slice (if m=l then A else A.map (·.add (l * sz))) (hh - l) (m - l):=by
 obtain ⟨l,hl,hr⟩:∃ l,lo.getD 0=l/\wUI sz a l hi mx=some v:=⟨_,rfl,by rw [<- wOQ];exact hr0⟩
 clear hr0
 unfold wUI at hr
 split at hr
 ·obtain ⟨hb,hr⟩:=wCN hr
  cases hr
  simp only [nA] at hb
  obtain ⟨⟨b1,b2⟩,b3⟩:=hb
  have l0:=nB b1
  have hx:x=.slice none 0 0:=hx
  subst hx
  have h2:hi.getD 0=0:=by cases hi with | none=>rfl | some n=>exact nB b2
  have h3:mx.getD 0=0:=by cases mx with | none=>rfl | some n=>exact nB b3
  refine ⟨none,0,0,_,0,0,0,rfl,(rfl:Rv μ .snil _),fun s w=>wGX h3.symm h2.symm (by rw [hl,l0]) (nS _) (nS _) (nS _) hmh w,by simp⟩
 ·rename_i b off n c
  obtain ⟨d,g1,g2,rfl⟩:=hx
  simp only [wOQ] at hr
  obtain ⟨hb,hr⟩:=wCN hr
  cases hr
  simp only [nA,aS] at hb
  obtain ⟨⟨b1,b2⟩,b3⟩:=hb
  refine ⟨_,n,c,_,l,hi.getD n,mx.getD c,rfl,⟨d,g1,by omega,rfl⟩,fun s w=>wGX rfl rfl hl.symm b1 b2 b3 hmh w,?_⟩
  by_cases e:mx.getD c=l
  ·simp [e]
  ·have:nG (mx.getD c) l=false:=by
    cases hq:nG (mx.getD c) l with
    | false=>rfl
    | true=>exact absurd (nB hq) e
   simp [e,this,wGq]
 ·rename_i b eo co n
  obtain ⟨d,g1,g2,rfl⟩:=hx
  simp only [wOQ] at hr
  split at hr
  ·obtain ⟨hb,hr⟩:=wCN hr
   simp only [nA,aS] at hb
   obtain ⟨b1,b2⟩:=hb
   have fin:∀ cv,cv=Value.slice (if d.2 - eo=l then some ⟨d.1,co,none⟩ else (some (⟨d.1,co,none⟩:Addr)).map (·.add (l * sz))) (hi.getD n - l) (d.2 - eo - l)->Rv μ v cv ->
     ∃ A len cap cv l hh m,Value.slice (some ⟨d.1,co,none⟩) n (d.2 - eo)=.slice A len cap/\Rv μ v cv/\(∀ s w,(Instr.sliceBounds s len cap (lo.map vI) (hi.map vI) ((none:Option Nat).map vI)).run P w=.ok (l,hh,m) w) /\
      cv=.slice (if m=l then A else A.map (·.add (l * sz))) (hh - l) (m - l):=fun cv e hv =>
    ⟨_,n,d.2 - eo,cv,l,hi.getD n,d.2 - eo,rfl,hv,fun s w=>wGX rfl rfl hl.symm b1 (by simp only [aO];omega) (nS _) hmh w,e⟩
   split at hr
   ·cases hr
    refine fin _ rfl ⟨d,g1,by omega,?_⟩
    simp [Addr.add]
   ·rename_i l0
    split at hr
    ·rename_i hlt
     cases hr
     have hlt:l < n:=by simpa [nQ] using hlt
     refine fin _ rfl ⟨d,g1,by omega,?_⟩
     rw [if_neg (by omega)]
     simp [wGq,Nat.sub_sub]
    ·rename_i hlt
     cases hr
     have hlt:¬ l < n:=by
      intro hq
      have:nP l n=true:=by rw [nQ];exact hq
      rw [this] at hlt;cases hlt
     have e1:hi.getD n - l=0:=by omega
     refine fin _ rfl ?_
     rw [e1]
     by_cases e2:d.2 - eo=l
     ·rw [if_pos e2];exact ⟨d,g1,co,by congr 1;omega⟩
     ·rw [if_neg e2];exact ⟨d,g1,co + l * sz,by simp only [Option.map_some,wGq];congr 1;omega⟩
  ·rename_i m
   obtain ⟨hb,hr⟩:=wCN hr
   cases hr
   simp only [nA,aS] at hb
   obtain ⟨⟨b1,b2⟩,b3⟩:=hb
   refine ⟨_,n,d.2 - eo,_,l,hi.getD n,m,rfl,⟨d,g1,by omega,rfl⟩,fun s w=>wGX (mx:=some m) rfl rfl hl.symm b1 b2 (by simp only [aP];omega) hmh w,?_⟩
   by_cases e:m=l
   ·simp [e]
   ·have:nG m l=false:=by
     cases hq:nG m l with
     | false=>rfl
     | true=>exact absurd (nB hq) e
    simp [e,this,wGq]
 ·cases hr
def wSd (P:Program) (sz:Nat) (x:AOd) (lo hi mx:Option AOd):Op->Bool
 | .slice t y l m n=>wFx P t (fun d=>match d with
   | .slice e=>szT P e sz
   | _=>false) && (wCt x y && (wRP lo l && (wRP hi m && (wRP mx n && (!mx.isSome || hi.isSome)))))
 | _=>false
theorem p_slc {sz:Nat} {x:AOd} {lo hi mx:Option AOd} {op:Op} (hc:wSd P sz x lo hi mx op=true):OkP P op (wLl sz x lo hi mx):=by
 intro σA h v h' hr
 unfold wSd at hc
 split at hc
 ·rename_i t y l m n
  simp only [nA] at hc
  obtain ⟨c1,c2,c3,c4,c5,c6⟩:=hc
  obtain ⟨d,d1,d2⟩:=wBF c1
  split at d2
  ·rename_i e
   unfold wLl at hr
   split at hr
   ·rename_i rl rh rm h1 h2 h3
    obtain ⟨hr2,rfl⟩:=wCM hr
    refine ⟨rfl,fun μ σ hE=>?_⟩
    have hmh:rm.isSome=true->rh.isSome=true:=by
     intro hs
     rcases wOt h3 c5 hE with ⟨rfl,_⟩ | ⟨_,z,rfl,rfl,_⟩
     ·cases hs
     ·cases mx with
      | none=>simp [bnd] at h3
      | some _ =>
       cases hi with
       | none=>simp at c6
       | some _ =>
        rcases wOt h2 c4 hE with ⟨rfl,e0⟩ | ⟨_,_,rfl,_⟩
        ·subst e0;simp [wRP] at c4
        ·rfl
    obtain ⟨A,len,cap,cv,ll,hh,mm,e1,e2,e3,e4⟩:=wOu (P:=P) hr2 (wAO c2 hE) hmh
    refine ⟨cv,e2,fun o w ho=>⟨by rw [ho];rfl,?_⟩⟩
    have b1:=wIf h1 c3 hE
    have b2:=wIf h2 c4 hE
    have b3:=wIf h3 c5 hE
    simp [execOp,ho,Instr.sliceAt,Instr.slice,wBP d1,e1,b1,b2,b3,e3,wFL d2,e4]
   ·cases hr
  ·cases d2
 ·cases hc
def wOv (P:Program) (sz n:Nat) (x:AOd) (lo hi:Option AOd):Op->Bool
 | .slice t y l m none=>wFx P t (fun d=>match d with
   | .array k e=>nG k n && szT P e sz
   | _=>false) && (wCt x y && (wRP lo l && wRP hi m))
 | _=>false
theorem wUV {sz n:Nat} {x:AOd} {lo hi:Option AOd} {op:Op} (hc:wOv P sz n x lo hi op=true):OkP P op (wIX sz n x lo hi):=by
 intro σA h v h' hr
 unfold wOv at hc
 split at hc
 ·rename_i t y l m
  simp only [nA] at hc
  obtain ⟨c1,c2,c3,c4⟩:=hc
  obtain ⟨d,d1,d2⟩:=wBF c1
  split at d2
  ·rename_i k e
   simp only [nA] at d2
   have ek:=nB d2.1
   subst ek
   unfold wIX at hr
   split at hr
   ·rename_i rl rh b off h1 h2 hb
    obtain ⟨hr2,rfl⟩:=wCM hr
    refine ⟨rfl,fun μ σ hE=>?_⟩
    have g:=wAO c2 hE;rw [hb] at g
    obtain ⟨c,g1,g2⟩:=g
    obtain ⟨A,len,cap,cv,ll,hh,mm,e1,e2,e3,e4⟩:=wOu (P:=P) (μ:=μ) (x:=.slice (some ⟨c.1,off,none⟩) k k) hr2 ⟨c,g1,nS _,rfl⟩ (by intro hs;cases hs)
    cases e1
    refine ⟨cv,e2,fun o w ho=>⟨by rw [ho];rfl,?_⟩⟩
    have b1:=wIf h1 c3 hE
    have b2:=wIf h2 c4 hE
    have e3':=e3 false
    simp only [Option.map_none] at e3'
    simp [execOp,ho,Instr.sliceAt,wBP d1,g2,Instr.sureAddr,b1,b2,e3',wFL d2.2,e4]
    split <;> simp
   ·cases hr
  ·cases d2
 ·cases hc
end
end
end Go.KX
