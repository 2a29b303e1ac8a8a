import Derived.Test.YtglpalgiipahjaaGreatR3
import Derived.Test.YtglpalgiipahjaaGreatR0
import Derived.Lib.SlicesCompact
import Derived.Test.YtglpalgiipahjaaGreatR1
import Derived.Test.YtglpalgiipahjaaGreatR2
set_option linter.all false
open Option renaming bind_some->nA,getD_none->kV
open List renaming pairwise_iff_getElem->nB,length_map->nD,getElem_of_mem->nE,getElem_map->nG,take_length->nH,nodup_iff_pairwise_ne->nI,length_cons->nJ,set->nK,length_append->nM,mem_map->nN,mem_append->nO,map_append->nP,length_take->nR,mem_singleton->nT,range->nU,mem_of_mem_take->nV,length_set->nZ,nodup_append->na,flatMap->ng,mem_range->nj,map_map->nk,countP_eq_zero->np,getElem?_eq_getElem->nq,pairwise_mergeSort->nr,append_assoc->nu,pairwise_map->nv,mem_cons->ny,not_mem_nil->nz,cons_append->kA,length_filter_le->kD,pairwise_append->kG,length_nil->kJ,mergeSort_perm->kK,replicate->kL,pairwise_cons->kO,getElem?_append_right->kR,all_eq_true->kS,pairwise_singleton->kX,filter_cons_of_pos->kY,filter_cons_of_neg->kZ,range_succ->kc,foldl_cons->ke,pairwise_lt_range->kf,take_append_drop->kg,countP_le_length->kh,any_cons->kj,all_cons->kk,map_take->kl,filter_sublist->km,map_congr_left->ko,mem_cons_self->kr,getElem_range->ku,filter_append->kv,countP_append->ky,length_range->kz,getElem_take->aA,foldl_append->aB
open Int renaming toNat_natCast->nL,le_refl->nS,mul_nonneg->nX,mul_le_mul->nY,add_assoc->kP,tmod_eq_emod_of_nonneg->kQ,le_of_lt->kU
open Option.some renaming inj->nQ
open Bool renaming not_eq_true'->nW,noConfusion->kC,false_eq_true->kM
open Nat renaming lt_or_ge->nh,le_refl->nl,lt_trichotomy->nw,le_trans->kE,zero_add->kH,mul_le_mul->ki,add_sub_cancel->kx
open List.Perm renaming eq_of_pairwise->kW
open Go.Value renaming int->kq
namespace Go.KL
open Go.RowKit Go.Lib Go.Sort
def wHm (l:List Int):Option (List Int):=if l.length < 4611686018427387904 then some (Go.Lib.compact l) else none
theorem wLx (l:List Int):(Go.Lib.compact l).length <= l.length:=by
 unfold Go.Lib.compact Go.Lib.compactUpTo
 rw [nD]
 exact kE (kD _ _) (by simp)
theorem wLy {P:Program} {f T:Nat} {A:Option Addr} {c:Nat} {p r:List Int} {w:World} {φ:PHeap}
  (H:∀ (blk off cap:Nat) (zs:List Int) (w:World),Go.Sort.Holds (kq .i64) w blk off zs.toArray->zs.length <= 9223372036854775807->zs.length <= cap->Calls P f #[.slice (some ⟨blk,off,none⟩) zs.length cap] w fun e w'=>e=.returned (.slice (some ⟨blk,off,none⟩) (Go.Lib.compact zs).length cap)/\∃ q,w'=Go.Sort.putRow (kq .i64) (Go.Sort.ahead w q) blk off (Go.Lib.compact zs ++ kL (zs.length - (Go.Lib.compact zs).length) 0).toArray)
  (HN:∀ (p:Option Addr) (cap:Nat) (w:World),Calls P f #[.slice p 0 cap] w fun e w'=>e=.returned (.slice p 0 cap)/\w'=w)
  (hS:St ⟨w,[.row A c T 1 (ng encI p)],φ⟩ φ [.row A c T 1 (ng encI p)] w) (hm:wHm p=some r) :
  Gv P f [.slice A p.length c] w (wCM w [.row A c T 1 (ng encI p)] φ fun φ_ L_ v=>∃ (A0:Option Addr) (c0:Nat),v=.slice A0 r.length c0/\L_=[.row A0 c0 T 1 (ng encI r)]):=by
 unfold wHm at hm
 split at hm
 ·rename_i hlen
  cases hm
  have hfl:∀ l:List Int,l.flatMap encI=l.map (kq .i64):=fun l=>wIP l
  have hr:=hS.at_ _ (kr ..)
  have nil:p=[]->Gv P f [.slice A p.length c] w (wCM w [.row A c T 1 (ng encI p)] φ fun φ_ L_ v=>∃ (A0:Option Addr) (c0:Nat),v=.slice A0 (Go.Lib.compact p).length c0/\L_=[.row A0 c0 T 1 (ng encI (Go.Lib.compact p))]):=by
   rintro rfl
   refine Calls.mono' (HN A c w) ?_
   rintro e w' ⟨rfl,rfl⟩
   exact ⟨_,rfl,φ,_,hS,A,c,rfl,rfl⟩
  rcases hr with ⟨rfl,rfl,h0⟩ | ⟨b,cur,rfl,h1,h2,_⟩
  ·refine nil ?_
   rw [hfl] at h0
   simpa using h0
  ·obtain ⟨g1,g2⟩:=hS.holds (k:=0) rfl
   rw [hfl] at g1 h2
   refine Calls.mono' (H b 0 c p w (wKv _ _ _ _ _ (by simpa using g1)) (by omega) (by simpa using h2)) ?_
   rintro e w' ⟨rfl,n,rfl⟩
   have hl:=wLx p
   have s1:=hS.sorted (k:=0) (n:=n) (os:=#[]) (cs':=(Go.Lib.compact p ++ kL (p.length - (Go.Lib.compact p).length) 0).map (kq .i64)) rfl (by rw [hfl];simp;omega)
   have e0:∀ x:World,Go.Sort.grow x #[]=x:=fun x=>by simp [Go.Sort.grow]
   rw [e0,nP] at s1
   have s2:=s1.cutRow (k:=0) rfl
   refine ⟨_,rfl,φ,[.row (some ⟨b,0,none⟩) c T 1 (ng encI (Go.Lib.compact p))],?_,_,c,rfl,rfl⟩
   rw [wJS,hfl (Go.Lib.compact p)]
   simpa using s2
 ·cases hm
end Go.KL
namespace Go.Proofs.YtglpalgiipahjaaGreat
open Go.KL
noncomputable section
structure wAB where
 bytes:List Int
 next:Int
 state:Int
deriving DecidableEq,Inhabited,Repr
structure wAJ where
 Classes:List Int
 Each:Int
 Laps:Int
 Spare:Int
 Loop:Int
 Unused:Int
deriving DecidableEq,Inhabited,Repr
structure wAG where
 Skier:Int
 Loops:List Int
 Bouts:List (List Bool)
deriving DecidableEq,Inhabited,Repr
structure wAF where
 Bib:Int
 Classes:List Int
 Legs:List wAG
deriving DecidableEq,Inhabited,Repr
structure wAL where
 Rules:wAJ
 Start:Int
 Teams:List wAF
deriving DecidableEq,Inhabited,Repr
structure wAO where
 of:(wAJ->Option Int)
 lo:Int
 hi:Int
structure wAd where
 Spares:Int
 Loops:Int
 Unused:Int
deriving DecidableEq,Inhabited,Repr
structure wDx where
 Race:wAL
 after:List (List Int)
deriving DecidableEq,Inhabited,Repr
structure wAM where
 Laps:Int
 Bibs:List Int
 Times:List (List Int)
deriving DecidableEq,Inhabited,Repr
structure wAI where
 Race:wAM
 done:List Int
 out:List Bool
deriving DecidableEq,Inhabited,Repr
structure wAD where
 Bib:Int
 Done:Int
 Time:Int
 By:Int
deriving DecidableEq,Inhabited,Repr
structure wAA where
 Bib:Int
 Place:Int
 Time:Int
deriving DecidableEq,Inhabited,Repr
def wCR (p0:List Int):Option (wAB) :=
 some (⟨p0,0,17⟩:wAB)
def wAH (p0:wAB) (p1:Int):Option (Int × wAB) :=
 if p1 <= 1 then
  some (0,p0)
 else
  if (↑p0.bytes.length:Int)=0 then
   some (0,p0)
  else
   (rem p0.next (↑p0.bytes.length:Int)).bind fun x10 =>
   (idx p0.bytes x10).bind fun x13 =>
   (quo p0.next (↑p0.bytes.length:Int)).bind fun x20 =>
   (rem (wFK ((wFK ((wFK ((wFK (p0.state * 45)) + (wFK x13))) + (wFK (77 * (wFK x20))))) + 1)) 65519).bind fun x32 =>
   if (wFK x20)=0 then
    if p1 <= 256 then
     (rem (w64 (wFK x13)) p1).bind fun x42 =>
     some (x42,(⟨p0.bytes,w64 (p0.next + 1),x32⟩:wAB))
    else
     (rem (w64 (wFK ((wFK (x32 * 256)) + (wFK x13)))) p1).bind fun x46 =>
     some (x46,(⟨p0.bytes,w64 (p0.next + 1),x32⟩:wAB))
   else
    (rem (w64 (wFK ((wFK (x32 * 256)) + (wFK x13)))) p1).bind fun x50 =>
    some (x50,(⟨p0.bytes,w64 (p0.next + 1),x32⟩:wAB))
def wAQ (p0:wAB) (p1:Int) (p2:Int):Option (Int × wAB) :=
 (wAH p0 (w64 ((w64 (p2 - p1)) + 1))).bind fun (x2,x3) =>
 some (w64 (p1 + x2),x3)
def wCI (p0:wAB) (p1:Int):Option (wAJ × wAB) :=
 (wAQ p0 1 2).bind fun (x6,x7) =>
 (wAQ x7 1 3).bind fun (x21,x22) =>
 (wAH x22 100).bind fun (x35,x36) =>
 (wAH x36 100).bind fun (x49,x50) =>
 (wAH x50 13).bind fun (x63,x64) =>
 (wAQ x64 1 p1).bind fun (x84,x85) =>
 (wCG 0 x84 (fun k136 (l127,x130,x131,l132) =>
  (wAH (⟨l127,x130,x131⟩:wAB) 2).bind fun (x198,x199) =>
  (app 8 l132 [x198]).bind fun x217 =>
  some (x199.bytes,x199.next,x199.state,x217)) (x85.bytes,x85.next,x85.state,[])).bind fun (y141,y142,y143,y144) =>
 some ((⟨y144,x6,x21,x35,w64 (200 + x49),w64 (100 * x63)⟩:wAJ),(⟨y141,y142,y143⟩:wAB))
def wAb (p0:wAB) (p1:Int):Option (Bool × wAB) :=
 (wAH p0 p1).bind fun (x2,x3) =>
 some (decide (x2=0),x3)
def wAi (p0:wAB):Option ((List Bool) × wAB) :=
 iter (fun (l31,x34,x35,l36,x40) =>
  if x40 < 5 then
   if (↑l36.length:Int) < 5 then
    (wAb (⟨l31,x34,x35⟩:wAB) 4).bind fun (x61,x62) =>
    (app 1 l36 [!x61]).bind fun x80 =>
    if x61=true then
     some (.inl (x62.bytes,x62.next,x62.state,x80,x40))
    else
     some (.inl (x62.bytes,x62.next,x62.state,x80,w64 (x40 + 1)))
   else
    if (↑l36.length:Int) < 8 then
     (wAb (⟨l31,x34,x35⟩:wAB) 6).bind fun (x112,x113) =>
     if x112=true then
      esc (some (l36,x113))
     else
      (wAb x113 4).bind fun (x132,x133) =>
      (app 1 l36 [!x132]).bind fun x151 =>
      if x132=true then
       some (.inl (x133.bytes,x133.next,x133.state,x151,x40))
      else
       some (.inl (x133.bytes,x133.next,x133.state,x151,w64 (x40 + 1)))
    else
     esc (some (l36,(⟨l31,x34,x35⟩:wAB)))
  else
   esc (some (l36,(⟨l31,x34,x35⟩:wAB)))) big (p0.bytes,p0.next,p0.state,[],0)
def wBp (p0:wAB) (p1:Int) (p2:Int):Option (wAL × wAB) :=
 (wCI p0 p2).bind fun (x6,x7) =>
 (wAH x7 50).bind fun (x24,x25) =>
 (wAQ x25 1 p1).bind fun (x46,x47) =>
 (wCG 0 x46 (fun k102 (l92,x95,x96,l97) =>
  (wAQ (⟨l92,x95,x96⟩:wAB) 1 9).bind fun (x131,x132) =>
  (wAQ x132 1 5).bind fun (x152,x153) =>
  (wCG 0 x152 (fun k204 (l195,x198,x199,l200) =>
   (wAH (⟨l195,x198,x199⟩:wAB) 2).bind fun (x269,x270) =>
   (app 8 l200 [x269]).bind fun x288 =>
   some (x270.bytes,x270.next,x270.state,x288)) (x153.bytes,x153.next,x153.state,[])).bind fun (y209,y210,y211,y212) =>
  (wAQ (⟨y209,y210,y211⟩:wAB) 300 900).bind fun (x355,x356) =>
  (wAb x356 4).bind fun (x369,x370) =>
  if x369=true then
   (wAH x370 (w64 ((w64 ((↑x6.Classes.length:Int) * x6.Laps)) + 1))).bind fun (x385,x386) =>
   (iter (fun (l443,x446,x447,l448,x453) =>
    if 0 < x453 then
     (wAH (⟨l443,x446,x447⟩:wAB) (↑y212.length:Int)).bind fun (x478,x479) =>
     iter (fun (l566,l570,l575,x578,x579,x580,x581) =>
      if x581 < x6.Laps then
       if 0 < x580 then
        (wAH (⟨l575,x578,x579⟩:wAB) 200).bind fun (x647,x648) =>
        (app 8 l566 [w64 (x355 + x647)]).bind fun x667 =>
        if 0 < x581 then
         (wAi x648).bind fun (x729,x730) =>
         (app 24 l570 [x729]).bind fun x758 =>
         some (.inl (x667,x758,x730.bytes,x730.next,x730.state,w64 (x580 - 1),w64 (x581 + 1)))
        else
         some (.inl (x667,l570,x648.bytes,x648.next,x648.state,w64 (x580 - 1),w64 (x581 + 1)))
       else
        esc ((app 56 l448 [(⟨x478,l566,l570⟩:wAG)]).bind fun x827 =>
        some (.inl (l575,x578,x579,x827,x580)))
      else
       esc ((app 56 l448 [(⟨x478,l566,l570⟩:wAG)]).bind fun x878 =>
       some (.inl (l575,x578,x579,x878,x580)))) big ([],[],x479.bytes,x479.next,x479.state,x453,0)
    else
     esc (some (l443,x446,x447,l448))) big (x386.bytes,x386.next,x386.state,[],x385)).bind fun (l399,x402,x403,l404) =>
   (app 56 l97 [(⟨w64 ((w64 (9 * (↑k102:Int))) + x131),y212,l404⟩:wAF)]).bind fun x951 =>
   some (l399,x402,x403,x951)
  else
   (iter (fun (l1029,x1032,x1033,l1034,x1039) =>
    if 0 < x1039 then
     (wAH (⟨l1029,x1032,x1033⟩:wAB) (↑y212.length:Int)).bind fun (x1064,x1065) =>
     iter (fun (l1152,l1156,l1161,x1164,x1165,x1166,x1167) =>
      if x1167 < x6.Laps then
       if 0 < x1166 then
        (wAH (⟨l1161,x1164,x1165⟩:wAB) 200).bind fun (x1233,x1234) =>
        (app 8 l1152 [w64 (x355 + x1233)]).bind fun x1253 =>
        if 0 < x1167 then
         (wAi x1234).bind fun (x1315,x1316) =>
         (app 24 l1156 [x1315]).bind fun x1344 =>
         some (.inl (x1253,x1344,x1316.bytes,x1316.next,x1316.state,w64 (x1166 - 1),w64 (x1167 + 1)))
        else
         some (.inl (x1253,l1156,x1234.bytes,x1234.next,x1234.state,w64 (x1166 - 1),w64 (x1167 + 1)))
       else
        esc ((app 56 l1034 [(⟨x1064,l1152,l1156⟩:wAG)]).bind fun x1413 =>
        some (.inl (l1161,x1164,x1165,x1413,x1166)))
      else
       esc ((app 56 l1034 [(⟨x1064,l1152,l1156⟩:wAG)]).bind fun x1464 =>
       some (.inl (l1161,x1164,x1165,x1464,x1166)))) big ([],[],x1065.bytes,x1065.next,x1065.state,x1039,0)
    else
     esc (some (l1029,x1032,x1033,l1034))) big (x370.bytes,x370.next,x370.state,[],w64 ((↑x6.Classes.length:Int) * x6.Laps))).bind fun (l985,x988,x989,l990) =>
   (app 56 l97 [(⟨w64 ((w64 (9 * (↑k102:Int))) + x131),y212,l990⟩:wAF)]).bind fun x1537 =>
   some (l985,x988,x989,x1537)) (x47.bytes,x47.next,x47.state,[])).bind fun (y107,y108,y109,y110) =>
 some ((⟨x6,x24,y110⟩:wAL),(⟨y107,y108,y109⟩:wAB))
def wBz (p0:Int) (p1:Int) (p2:Int):Option (Bool) :=
 if p1 <= p0 then
  some (decide (p0 <= p2))
 else
  some false
def wCA (p0:Int) (p1:(Int->Option Bool)):Option (Bool) :=
 (p1 p0).bind fun x1 =>
 some (!x1)
def wBn (p0:List Int) (p1:(Int->Option Bool)):Option (Int) :=
 jn (wFH 0 (↑p0.length:Int) (fun k2 _ =>
  (idx p0 (↑k2:Int)).bind fun x22 =>
  (p1 x22).bind fun x30 =>
  if x30=true then
   esc (some (↑k2:Int))
  else
   some (.inl ())) ()) fun _ =>
 some (-1)
def wBX (p0:List Int) (p1:(Int->Option Bool)):Option (Bool) :=
 (wBn p0 p1).bind fun x1 =>
 some (decide (0 <= x1))
def wCd (p0:List Int) (p1:(Int->Option Bool)):Option (Bool) :=
 (wBX p0 (fun x=>wCA x p1)).bind fun x13 =>
 some (!x13)
def wBK (p0:Int):Option (Bool) :=
 (wBz p0 0 3).bind fun x1 =>
 some x1
def wCS (p0:List Int):Option (Bool) :=
 (wCd p0 wBK).bind fun x2 =>
 some x2
def wBh (p0:wAJ):Option (Int) :=
 some p0.Each
def wBi (p0:wAJ):Option (Int) :=
 some p0.Laps
def wBj (p0:wAJ):Option (Int) :=
 some p0.Spare
def wBk (p0:wAJ):Option (Int) :=
 some p0.Loop
def wBl (p0:wAJ):Option (Int) :=
 some p0.Unused
def wDu :Option ((List wAO)) :=
 some [(⟨wBh,1,4⟩:wAO),(⟨wBi,1,5⟩:wAO),(⟨wBj,0,600⟩:wAO),(⟨wBk,0,600⟩:wAO),(⟨wBl,0,6000⟩:wAO)]
def wBf (p0:wAO) (p1:wAJ):Option (Bool) :=
 (p0.of p1).bind fun x7 =>
 (wBz x7 p0.lo p0.hi).bind fun x17 =>
 some x17
def wAx (p0:wAO) (p1:(wAO->Option Bool)):Option (Bool) :=
 (p1 p0).bind fun x5 =>
 some (!x5)
def wAn (p0:List wAO) (p1:(wAO->Option Bool)):Option (Int) :=
 jn (wFH 0 (↑p0.length:Int) (fun k2 _ =>
  (idx p0 (↑k2:Int)).bind fun x22 =>
  (p1 x22).bind fun x34 =>
  if x34=true then
   esc (some (↑k2:Int))
  else
   some (.inl ())) ()) fun _ =>
 some (-1)
def wAj (p0:List wAO) (p1:(wAO->Option Bool)):Option (Bool) :=
 (wAn p0 p1).bind fun x1 =>
 some (decide (0 <= x1))
def wBa (p0:List wAO) (p1:(wAO->Option Bool)):Option (Bool) :=
 (wAj p0 (fun x=>wAx x p1)).bind fun x13 =>
 some (!x13)
def wCf (p0:wAJ):Option (Int) :=
 (wBz (↑p0.Classes.length:Int) 1 4).bind fun x10 =>
 if x10=true then
  (wCS p0.Classes).bind fun x25 =>
  if x25=true then
   (wDu).bind fun x37 =>
   (wBa x37 (fun x=>wBf x p0)).bind fun x64 =>
   if x64=true then
    some 0
   else
    some 3
  else
   some 3
 else
  some 2
def wBY (p0:wAJ) (p1:wAF):Option (Bool) :=
 (wBz (↑p1.Classes.length:Int) 1 8).bind fun x9 =>
 if x9=true then
  if (↑p0.Classes.length:Int) < (↑p1.Legs.length:Int) then
   some false
  else
   jn (wFH 0 (↑p1.Legs.length:Int) (fun k25 _ =>
    (idx p1.Legs (↑k25:Int)).bind fun x46 =>
    if p0.Laps < (↑x46.Loops.length:Int) then
     esc (some false)
    else
     if (↑k25:Int) < (w64 ((↑p1.Legs.length:Int) - 1)) then
      if (↑x46.Loops.length:Int) < p0.Laps then
       esc (some false)
      else
       if (↑x46.Bouts.length:Int)=(max 0 (w64 ((↑x46.Loops.length:Int) - 1))) then
        some (.inl ())
       else
        esc (some false)
     else
      if (↑x46.Bouts.length:Int)=(max 0 (w64 ((↑x46.Loops.length:Int) - 1))) then
       some (.inl ())
      else
       esc (some false)) ()) fun _ =>
   some true
 else
  some false
def wAz (p0:wAF) (p1:(wAF->Option Bool)):Option (Bool) :=
 (p1 p0).bind fun x5 =>
 some (!x5)
def wAR (p0:List wAF) (p1:(wAF->Option Bool)):Option (Int) :=
 jn (wFH 0 (↑p0.length:Int) (fun k2 _ =>
  (idx p0 (↑k2:Int)).bind fun x22 =>
  (p1 x22).bind fun x38 =>
  if x38=true then
   esc (some (↑k2:Int))
  else
   some (.inl ())) ()) fun _ =>
 some (-1)
def wAl (p0:List wAF) (p1:(wAF->Option Bool)):Option (Bool) :=
 (wAR p0 p1).bind fun x1 =>
 some (decide (0 <= x1))
def wBL (p0:List wAF) (p1:(wAF->Option Bool)):Option (Bool) :=
 (wAl p0 (fun x=>wAz x p1)).bind fun x13 =>
 some (!x13)
def wCo (p0:wAF):Option (Bool) :=
 (wBz p0.Bib 1 999).bind fun x5 =>
 if x5=true then
  (wCS p0.Classes).bind fun x18 =>
  some x18
 else
  some false
def wBZ {S E:Type} (f:S->(wAF × wAG)->Option (S ⊕ E)) (s0:S) (p1:wAL):Option (S ⊕ E) :=
 jn (wFH 0 (↑p1.Teams.length:Int) (fun k12 s10 =>
  (idx p1.Teams (↑k12:Int)).bind fun x33 =>
  jn (wFH 0 (↑x33.Legs.length:Int) (fun k66 s64 =>
   (idx x33.Legs (↑k66:Int)).bind fun x91 =>
   (f s64 (x33,x91)).bind fun yr115 =>
   match yr115 with
   | .inl s125 =>
    some (.inl s125)
   | .inr s125 =>
    esc (esc (some (.inr s125)))) s10) fun y142 =>
  some (.inl y142)) s0) fun y163 =>
 some (.inl y163)
def wCN (p0:wAL):Option (Unit) :=
 some ()
def wCT (p0:Int):Option (Bool) :=
 (wBz p0 1 9000).bind fun x1 =>
 some x1
def wCg (p0:List Bool):Option (wAd × Int) :=
 (wBz (↑p0.length:Int) 5 8).bind fun x5 =>
 if x5=true then
  jn (wFH 0 (↑p0.length:Int) (fun k23 x22 =>
   (idx p0 (↑k23:Int)).bind fun x45 =>
   if x22=0 then
    esc (some ((⟨0,0,0⟩:wAd),8))
   else
    if x45=true then
     some (.inl (w64 (x22 - 1)))
    else
     some (.inl x22)) 5) fun y72 =>
  if 0 < y72 then
   some ((⟨w64 ((↑p0.length:Int) - 5),y72,w64 (8 - (↑p0.length:Int))⟩:wAd),0)
  else
   some ((⟨w64 ((↑p0.length:Int) - 5),y72,0⟩:wAd),0)
 else
  some ((⟨0,0,0⟩:wAd),2)
def wDb (p0:wAL):Option (Int) :=
 (wCf p0.Rules).bind fun x9 =>
 if x9=0 then
  (wBz (↑p0.Teams.length:Int) 1 12).bind fun x21 =>
  if x21=true then
   (wBL p0.Teams (fun x=>wBY p0.Rules x)).bind fun x38 =>
   if x38=true then
    (wBz p0.Start 0 36000).bind fun x50 =>
    if x50=true then
     (wBL p0.Teams wCo).bind fun x65 =>
     if x65=true then
      (wCN p0).bind fun _ =>
      (wBZ (S:=Unit) (E:=Int) (fun _ x146 =>
       (wCd x146.2.Loops wCT).bind fun x191 =>
       if x191=true then
        some (.inl ())
       else
        some (.inr 3)) () p0).bind fun rr138 =>
      match rr138 with
      | .inl _ =>
       (wCN p0).bind fun _ =>
       (wBZ (S:=Unit) (E:=Int) (fun _ x290 =>
        (wBz x290.2.Skier 0 (w64 ((↑x290.1.Classes.length:Int) - 1))).bind fun x341 =>
        if x341=true then
         some (.inl ())
        else
         some (.inr 1)) () p0).bind fun rr282 =>
       match rr282 with
       | .inl _ =>
        (wCN p0).bind fun _ =>
        (wBZ (S:=Unit) (E:=Int) (fun _ x492 =>
         jn (wFH 0 (↑x492.2.Bouts.length:Int) (fun k537 _ =>
          (idx x492.2.Bouts (↑k537:Int)).bind fun x558 =>
          (wCg x558).bind fun (x571,x572) =>
          if x572=0 then
           some (.inl ())
          else
           esc (some (.inr x572))) ()) fun _ =>
         some (.inl ())) () p0).bind fun rr484 =>
        match rr484 with
        | .inl _ =>
         (wCG 0 (↑p0.Teams.length:Int) (fun k640 l637 =>
          (idx p0.Teams (↑k640:Int)).bind fun x664 =>
          some (mput l637 x664.Bib true)) ([]:List (Int × Bool))).bind fun y645 =>
         if (↑(y645.length):Int) < (↑p0.Teams.length:Int) then
          some 5
         else
          some 0
        | .inr y618 =>
         some y618
       | .inr y364 =>
        some y364
      | .inr y214 =>
       some y214
     else
      some 3
    else
     some 3
   else
    some 2
  else
   some 2
 else
  some x9
def wCx (p0:wAL):Option ((Option wDx) × Int) :=
 (wDb p0).bind fun x5 =>
 if x5=0 then
  (wCG 0 (↑p0.Teams.length:Int) (fun k42 l37 =>
   (idx p0.Teams (↑k42:Int)).bind fun x66 =>
   (wCG 0 (↑x66.Legs.length:Int) (fun k111 (x106,l107) =>
    (idx x66.Legs (↑k111:Int)).bind fun x140 =>
    (wCG 0 (↑x140.Loops.length:Int) (fun k181 (x177,l178) =>
     (idx x140.Loops (↑k181:Int)).bind fun x211 =>
     if 0 < (↑k181:Int) then
      (idx x140.Bouts (w64 ((↑k181:Int) - 1))).bind fun x221 =>
      (wCg x221).bind fun (x234,x235) =>
      (app 8 l178 [w64 ((w64 (x177 + x211)) + (w64 ((w64 (x234.Spares * p0.Rules.Spare)) + (w64 (x234.Loops * p0.Rules.Loop)))))]).bind fun x274 =>
      some (w64 ((w64 (x177 + x211)) + (w64 ((w64 (x234.Spares * p0.Rules.Spare)) + (w64 (x234.Loops * p0.Rules.Loop))))),x274)
     else
      (app 8 l178 [w64 (x177 + x211)]).bind fun x292 =>
      some (w64 (x177 + x211),x292)) (x106,l107)).bind fun (y186,y187) =>
    some (y186,y187)) (p0.Start,[])).bind fun (y116,y117) =>
   (app 24 l37 [y117]).bind fun x366 =>
   some x366) []).bind fun y47 =>
  some ((some (⟨p0,y47⟩:wDx)),0)
 else
  some (none,x5)
def wCX (p0:List Int):Option ((List Int)) :=
 (app 8 ([]:List Int) p0).bind fun x11 =>
 some x11
def wBM (p0:wDx):Option (wAM) :=
 (wCG 0 (↑p0.Race.Teams.length:Int) (fun k51 (l42,l46) =>
  (idx p0.Race.Teams (↑k51:Int)).bind fun x80 =>
  (app 8 l42 [x80.Bib]).bind fun x108 =>
  (idx p0.after (↑k51:Int)).bind fun x121 =>
  (wCX x121).bind fun x134 =>
  (app 24 l46 [x134]).bind fun x158 =>
  some (x108,x158)) ([],[])).bind fun (y56,y57) =>
 some (⟨w64 ((↑p0.Race.Rules.Classes.length:Int) * p0.Race.Rules.Laps),y56,y57⟩:wAM)
def wDj (p0:Int) (p1:Int) (p2:Int):Option (Bool) :=
 if p1 <= p0 then
  some (decide (p0 <= p2))
 else
  some false
def wBq (p0:List Int) (p1:wAM):Option (Bool) :=
 some (decide ((↑p0.length:Int) <= p1.Laps))
def wCp (p0:List (List Int)) (p1:((List Int)->Option Bool)):Option (Bool) :=
 jn (wFH 0 (↑p0.length:Int) (fun k2 _ =>
  (idx p0 (↑k2:Int)).bind fun x22 =>
  (p1 x22).bind fun x35 =>
  if x35=true then
   some (.inl ())
  else
   esc (some false)) ()) fun _ =>
 some true
def wBr (p0:List Int) (p1:(Int->Option Bool)):Option (Bool) :=
 jn (wFH 0 (↑p0.length:Int) (fun k2 _ =>
  (idx p0 (↑k2:Int)).bind fun x22 =>
  (p1 x22).bind fun x30 =>
  if x30=true then
   some (.inl ())
  else
   esc (some false)) ()) fun _ =>
 some true
def wBs (p0:Int):Option (Bool) :=
 (wDj p0 1 999).bind fun x1 =>
 some x1
def wBb (p0:Int):Option (Bool) :=
 (wDj p0 0 360000).bind fun x1 =>
 some x1
def wBt (p0:List Int):Option (Bool) :=
 (wBr p0 wBb).bind fun x2 =>
 some x2
def wDc (p0:List Int):Option (Bool) :=
 jn (wFH 0 (↑p0.length:Int) (fun k20 l17 =>
  (idx p0 (↑k20:Int)).bind fun x41 =>
  if (wCt l17 x41 false)=true then
   esc (some true)
  else
   some (.inl (mput l17 x41 true))) ([]:List (Int × Bool))) fun y68 =>
 some false
def wCO (p0:wAM):Option (Int) :=
 (wDj p0.Laps 1 20).bind fun x10 =>
 if x10=true then
  if 60 < (↑p0.Bibs.length:Int) then
   some 2
  else
   if (↑p0.Times.length:Int)=(↑p0.Bibs.length:Int) then
    (wCp p0.Times (fun x=>wBq x p0)).bind fun x33 =>
    if x33=true then
     (wBr p0.Bibs wBs).bind fun x48 =>
     if x48=true then
      (wCp p0.Times wBt).bind fun x64 =>
      if x64=true then
       (wDc p0.Bibs).bind fun x79 =>
       if x79=true then
        some 5
       else
        jn (wFH 0 (↑p0.Times.length:Int) (fun k97 _ =>
         (idx p0.Times (↑k97:Int)).bind fun x116 =>
         jn (wFH 1 (↑x116.length:Int) (fun k132 _ =>
          (idx x116 (1 + ↑k132:Int)).bind fun x155 =>
          (idx x116 (w64 ((1 + ↑k132:Int) - 1))).bind fun x163 =>
          if x155 <= x163 then
           esc (esc (some 4))
          else
           some (.inl ())) ()) fun _ =>
         some (.inl ())) ()) fun _ =>
        some 0
      else
       some 3
     else
      some 3
    else
     some 2
   else
    some 2
 else
  some 2
def wBx (p0:List Int) (p1:Int):Option ((List Int)) :=
 if p1 < 0 then
  none
 else
  if 0 < (w64 (p1 - 0)) then
   (appZ 8 (w64 (p1 - 0)) (0:Int)).bind fun x6 =>
   some ([]:List Int)
  else
   some []
def wBc (p0:List (List Int)):Option ((List Int)) :=
 (wCG 0 (↑p0.length:Int) (fun k7 x6 =>
  (idx p0 (↑k7:Int)).bind fun x29 =>
  if (w64 (x6 + (↑x29.length:Int))) < 0 then
   none
  else
   some (w64 (x6 + (↑x29.length:Int)))) 0).bind fun y12 =>
 (wBx [] y12).bind fun x59 =>
 (wCG 0 (↑p0.length:Int) (fun k86 l83 =>
  (idx p0 (↑k86:Int)).bind fun x107 =>
  (app 8 l83 x107).bind fun x122 =>
  some x122) x59).bind fun y91 =>
 some y91
def wCh (p0:List Int):Option (List Int):=wQx p0
def wCB (p0:List Int):Option (List Int):=wHm p0
def wBA {S E:Type} (f:S->Int->Option (S ⊕ E)) (s0:S) (p1:List Int):Option (S ⊕ E) :=
 jn (wFH 0 (↑p1.length:Int) (fun k12 s10 =>
  (idx p1 (↑k12:Int)).bind fun x33 =>
  (f s10 x33).bind fun yr41 =>
  match yr41 with
  | .inl s51 =>
   some (.inl s51)
  | .inr s51 =>
   esc (some (.inr s51))) s0) fun y65 =>
 some (.inl y65)
def wCK (p0:List Int):Option (Unit) :=
 some ()
def wCC (p0:wAM):Option ((List Int)) :=
 (wBc p0.Times).bind fun x5 =>
 (wCh x5).bind fun x18 =>
 (wCB x18).bind fun x29 =>
 (wCK x29).bind fun _ =>
 some x29
def wBG (p0:wAI) (p1:Int) (p2:Int) (p3:Int):Option (Int) :=
 (wCG 0 (↑p0.done.length:Int) (fun k7 x6 =>
  ((idx p0.done (↑k7:Int)).bind fun x35 =>
  (idx p0.out (↑k7:Int)).bind fun x46 =>
  if x46=true then
   some x6
  else
   if (w64 (p2 + 2)) <= x35 then
    (idx p0.Race.Times (↑k7:Int)).bind fun x60 =>
    (idx x60 (w64 (x35 - 1))).bind fun x73 =>
    if x73=p3 then
     if x6 < 0 then
      some (↑k7:Int)
     else
      (idx p0.Race.Bibs (↑k7:Int)).bind fun x96 =>
      (idx p0.Race.Bibs x6).bind fun x104 =>
      if x96 < x104 then
       some (↑k7:Int)
      else
       some x6
    else
     some x6
   else
    some x6).bind fun x31 =>
  some x31) (-1)).bind fun y12 =>
 some y12
def wBH (p0:wAI) (p1:Int):Option ((List Int) × wAI) :=
 (wCG 0 (↑p0.Race.Times.length:Int) (fun k10 l9 =>
  (idx p0.Race.Times (↑k10:Int)).bind fun x33 =>
  (chk (↑k10:Int) l9.length).bind fun _ =>
  (chk (↑k10:Int) p0.out.length).bind fun _ =>
  if (gd p0.out k10)=true then
   some l9
  else
   if (gd l9 k10) < (↑x33.length:Int) then
    (idx x33 (gd l9 k10)).bind fun x62 =>
    if x62=p1 then
     some (nK l9 k10 (w64 ((gd l9 k10) + 1)))
    else
     some l9
   else
    some l9) p0.done).bind fun y15 =>
 (wCG 0 (↑y15.length:Int) (fun k121 l117 =>
  (chk (↑k121:Int) y15.length).bind fun _ =>
  (chk (↑k121:Int) p0.out.length).bind fun _ =>
  if (gd p0.out k121)=true then
   some l117
  else
   (wBG (⟨p0.Race,y15,p0.out⟩:wAI) (↑k121:Int) (gd y15 k121) p1).bind fun x193 =>
   if 0 <= x193 then
    (app 8 l117 [(↑k121:Int)]).bind fun x222 =>
    some x222
   else
    some l117) []).bind fun y126 =>
 some (y126,(⟨p0.Race,y15,p0.out⟩:wAI))
noncomputable def wAv (p0:List wAD) (p1:((wAD × wAD)->Option Int)):Option (List wAD):=wLw p1 p0
def wCq (p0:Int):Option (Bool) :=
 some (decide (¬ (p0=p0)))
def wAr (p0:Int) (p1:Int):Option (Int) :=
 (wCq p0).bind fun x1 =>
 (wCq p1).bind fun x11 =>
 if x1=true then
  if x11=true then
   some 0
  else
   some (-1)
 else
  if x11=true then
   some 1
  else
   if p0 < p1 then
    some (-1)
   else
    if p1 < p0 then
     some 1
    else
     some 0
def wCi (p0:List Int):Option (Int) :=
 jn (wFH 0 (↑p0.length:Int) (fun k2 _ =>
  (idx p0 (↑k2:Int)).bind fun x22 =>
  if x22=0 then
   some (.inl ())
  else
   esc (some x22)) ()) fun _ =>
 some 0
def wBD (p0:wAD) (p1:wAD):Option (Int) :=
 (wAr p0.Time p1.Time).bind fun x11 =>
 (wAr p0.Bib p1.Bib).bind fun x21 =>
 (wCi [x11,x21]).bind fun x41 =>
 some x41
def wCl (p0:wAM):Option (wAI × (List wAD)) :=
 ((mkz 8 (↑p0.Bibs.length:Int) (0:Int)).bind fun x18 =>
 (mkz 1 (↑p0.Bibs.length:Int) false).bind fun x26 =>
 some (x18,x26)).bind fun (l9,l12) =>
 (wCC p0).bind fun x520 =>
 (wBA (S:=(List wAD) × Int × (List Int) × (List (List Int)) × (List Int) × (List Bool)) (E:=Empty) (fun (l1081,x1085,l1086,l1089,l1092,l1095) x1124 =>
  (wBH (⟨(⟨x1085,l1086,l1089⟩:wAM),l1092,l1095⟩:wAI) x1124).bind fun (x1150,x1151) =>
  (wCG 0 (↑x1150.length:Int) (fun k1191 l1188 =>
   (chk (↑k1191:Int) x1150.length).bind fun _ =>
   (idx x1151.Race.Bibs (gd x1150 k1191)).bind fun x1222 =>
   (chk (gd x1150 k1191) x1151.done.length).bind fun _ =>
   (wBG x1151 (gd x1150 k1191) (gd x1151.done (gd x1150 k1191).toNat) x1124).bind fun x1264 =>
   (idx x1151.Race.Bibs x1264).bind fun x1286 =>
   (app 32 l1188 [(⟨x1222,(gd x1151.done (gd x1150 k1191).toNat),x1124,x1286⟩:wAD)]).bind fun x1299 =>
   some x1299) l1081).bind fun y1196 =>
  (wCG 0 (↑x1150.length:Int) (fun k1338 l1337 =>
   (chk (↑k1338:Int) x1150.length).bind fun _ =>
   (chk (gd x1150 k1338) l1337.length).bind fun _ =>
   some (nK l1337 (gd x1150 k1338).toNat true)) x1151.out).bind fun y1343 =>
  some (.inl (y1196,x1151.Race.Laps,x1151.Race.Bibs,x1151.Race.Times,x1151.done,y1343))) ([],p0.Laps,p0.Bibs,p0.Times,l9,l12) x520).bind fun rr1118 =>
 match rr1118 with
 | .inl (y1416,y1417,y1418,y1419,y1420,y1421) =>
  (wAv y1416 (fun x=>wBD x.1 x.2)).bind fun x1438 =>
  some ((⟨(⟨y1417,y1418,y1419⟩:wAM),y1420,y1421⟩:wAI),x1438)
 | .inr e1432 =>
  e1432.elim
def wCm (p0:wAM):Option ((List wAD) × Int) :=
 (wCO p0).bind fun x5 =>
 if x5=0 then
  (wCl p0).bind fun (x19,x20) =>
  some (x20,0)
 else
  some ([],x5)
def wBy (p0:wAM):Option ((List Int) × Int) :=
 (wCO p0).bind fun x5 =>
 if x5=0 then
  (wCl p0).bind fun (x19,x20) =>
  some (x19.done,0)
 else
  some ([],x5)
def wBu (p0:wAF):Option (Int) :=
 (wCG 0 (↑p0.Legs.length:Int) (fun k18 x17 =>
  (idx p0.Legs (↑k18:Int)).bind fun x40 =>
  (wCG 0 (↑x40.Bouts.length:Int) (fun k69 x68 =>
   (idx x40.Bouts (↑k69:Int)).bind fun x94 =>
   (wCg x94).bind fun (x107,x108) =>
   if x107=(⟨0,0,0⟩:wAd) then
    some x68
   else
    some (w64 (x68 + x107.Unused))) x17).bind fun y74 =>
  some y74) 0).bind fun y23 =>
 some y23
noncomputable def wAX (p0:List wAA) (p1:((wAA × wAA)->Option Int)):Option (List wAA):=wLw p1 p0
def wBN (p0:wAA) (p1:wAA):Option (Int) :=
 (wAr p0.Time p1.Time).bind fun x11 =>
 (wAr p0.Bib p1.Bib).bind fun x21 =>
 (wCi [x11,x21]).bind fun x41 =>
 some x41
def wBO (p0:wAA) (p1:wAA) (p2:List (Int × Int)):Option (Int) :=
 (wAr (wCt p2 p1.Bib 0) (wCt p2 p0.Bib 0)).bind fun x11 =>
 (wAr p0.Bib p1.Bib).bind fun x21 =>
 (wCi [x11,x21]).bind fun x41 =>
 some x41
def wBV (p0:wAL):Option ((List wAA) × Int) :=
 (wCx p0).bind fun (x5,x6) =>
 match x5 with
 | none =>
  if x6=0 then
   none
  else
   some ([],x6)
 | some x24 =>
  if x6=0 then
   (wBM x24).bind fun x46 =>
   (wCm x46).bind fun (x83,x84) =>
   (wBy x46).bind fun (x99,x100) =>
   (wCG 0 (↑x83.length:Int) (fun k144 l141 =>
    (chk (↑k144:Int) x83.length).bind fun _ =>
    some (mput l141 ((gd x83 k144).Bib) true)) ([]:List (Int × Bool))).bind fun y149 =>
   (wCG 0 (↑p0.Teams.length:Int) (fun k258 (l247,l250,l254) =>
    (idx p0.Teams (↑k258:Int)).bind fun x293 =>
    (chk (↑k258:Int) x99.length).bind fun _ =>
    if (wCt y149 x293.Bib false)=true then
     (app 24 l254 [(⟨x293.Bib,0,0⟩:wAA)]).bind fun x346 =>
     some ((mput l247 x293.Bib (gd x99 k258)),l250,x346)
    else
     (idx x24.after (↑k258:Int)).bind fun x364 =>
     if (↑x364.length:Int) < x46.Laps then
      (app 24 l254 [(⟨x293.Bib,0,0⟩:wAA)]).bind fun x390 =>
      some ((mput l247 x293.Bib (gd x99 k258)),l250,x390)
     else
      (idx x364 (w64 (x46.Laps - 1))).bind fun x434 =>
      (wBu x293).bind fun x441 =>
      (app 24 l250 [(⟨x293.Bib,0,w64 (x434 + (w64 (x441 * p0.Rules.Unused)))⟩:wAA)]).bind fun x456 =>
      some ((mput l247 x293.Bib (gd x99 k258)),x456,l254)) (([]:List (Int × Int)),[],[])).bind fun (y263,y264,y265) =>
   (wAX y264 (fun x=>wBN x.1 x.2)).bind fun x508 =>
   (wAX y265 (fun x=>wBO x.1 x.2 y263)).bind fun x532 =>
   (wCG 0 (↑x508.length:Int) (fun k550 l549 =>
    (chk (↑k550:Int) l549.length).bind fun _ =>
    if 0 < (↑k550:Int) then
     (chk (↑k550:Int) (nK l549 k550 (⟨(gd l549 k550).Bib,(↑(k550 + 1):Int),(gd l549 k550).Time⟩:wAA)).length).bind fun _ =>
     (chk (w64 ((↑k550:Int) - 1)) (nK l549 k550 (⟨(gd l549 k550).Bib,(↑(k550 + 1):Int),(gd l549 k550).Time⟩:wAA)).length).bind fun _ =>
     if ((gd (nK l549 k550 (⟨(gd l549 k550).Bib,(↑(k550 + 1):Int),(gd l549 k550).Time⟩:wAA)) k550).Time)=((gd (nK l549 k550 (⟨(gd l549 k550).Bib,(↑(k550 + 1):Int),(gd l549 k550).Time⟩:wAA)) (w64 ((↑k550:Int) - 1)).toNat).Time) then
      some (nK (nK l549 k550 (⟨(gd l549 k550).Bib,(↑(k550 + 1):Int),(gd l549 k550).Time⟩:wAA)) k550 (⟨(gd (nK l549 k550 (⟨(gd l549 k550).Bib,(↑(k550 + 1):Int),(gd l549 k550).Time⟩:wAA)) k550).Bib,(gd (nK l549 k550 (⟨(gd l549 k550).Bib,(↑(k550 + 1):Int),(gd l549 k550).Time⟩:wAA)) (w64 ((↑k550:Int) - 1)).toNat).Place,(gd (nK l549 k550 (⟨(gd l549 k550).Bib,(↑(k550 + 1):Int),(gd l549 k550).Time⟩:wAA)) k550).Time⟩:wAA))
     else
      some (nK l549 k550 (⟨(gd l549 k550).Bib,(↑(k550 + 1):Int),(gd l549 k550).Time⟩:wAA))
    else
     some (nK l549 k550 (⟨(gd l549 k550).Bib,(↑(k550 + 1):Int),(gd l549 k550).Time⟩:wAA))) x508).bind fun y555 =>
   (app 24 y555 x532).bind fun x615 =>
   some (x615,0)
  else
   some ([],x6)
def wDI (p0:wAL):Option (wAM × Int) :=
 (wCx p0).bind fun (x9,x10) =>
 match x9 with
 | none =>
  if x10=0 then
   none
  else
   some ((⟨0,[],[]⟩:wAM),x10)
 | some x28 =>
  if x10=0 then
   (wBM x28).bind fun x55 =>
   some (x55,0)
  else
   some ((⟨0,[],[]⟩:wAM),x10)
def wDk (p0:wAL):Option ((List wAD) × Int) :=
 (wCx p0).bind fun (x5,x6) =>
 match x5 with
 | none =>
  if x6=0 then
   none
  else
   some ([],x6)
 | some x24 =>
  if x6=0 then
   (wBM x24).bind fun x46 =>
   (wCm x46).bind fun (x76,x77) =>
   some (x76,x77)
  else
   some ([],x6)
def wAf (p0:wAF) (p1:wAA):Option (Bool) :=
 some (decide (p0.Bib=p1.Bib))
def wAg (p0:wAA) (p1:wAA):Option (Bool) :=
 some (decide (p0.Bib=p1.Bib))
def wAk (p0:List wAA) (p1:(wAA->Option Bool)):Option (Int) :=
 jn (wFH 0 (↑p0.length:Int) (fun k2 _ =>
  (idx p0 (↑k2:Int)).bind fun x22 =>
  (p1 x22).bind fun x30 =>
  if x30=true then
   esc (some (↑k2:Int))
  else
   some (.inl ())) ()) fun _ =>
 some (-1)
def wAT (p0:List wAA) (p1:(wAA->Option Bool)):Option (Bool) :=
 (wAk p0 p1).bind fun x1 =>
 some (decide (0 <= x1))
def wAh (p0:wAD) (p1:wAA):Option (Bool) :=
 some (decide (p0.Bib=p1.Bib))
def wAu (p0:List wAD) (p1:(wAD->Option Bool)):Option (Int) :=
 jn (wFH 0 (↑p0.length:Int) (fun k2 _ =>
  (idx p0 (↑k2:Int)).bind fun x22 =>
  (p1 x22).bind fun x30 =>
  if x30=true then
   esc (some (↑k2:Int))
  else
   some (.inl ())) ()) fun _ =>
 some (-1)
def wAY (p0:List wAD) (p1:(wAD->Option Bool)):Option (Bool) :=
 (wAu p0 p1).bind fun x1 =>
 some (decide (0 <= x1))
def wBC (p0:List Int):Option ((List Int)) :=
 (app 8 ([]:List Int) p0).bind fun x4 =>
 some x4
def wBW (p0:wAJ):Option (wAJ) :=
 (wBC p0.Classes).bind fun x9 =>
 some (⟨x9,p0.Each,p0.Laps,p0.Spare,p0.Loop,p0.Unused⟩:wAJ)
def wBd (p0:List Bool):Option ((List Bool)) :=
 (app 1 ([]:List Bool) p0).bind fun x4 =>
 some x4
def wBR (p0:List (List Bool)):Option ((List (List Bool))) :=
 (wCG 0 (↑p0.length:Int) (fun k22 l17 =>
  (idx p0 (↑k22:Int)).bind fun x46 =>
  (wBd x46).bind fun x59 =>
  (app 24 l17 [x59]).bind fun x83 =>
  some x83) []).bind fun y27 =>
 some y27
def wBg (p0:wAL):Option (wAL) :=
 ((wBW p0.Rules).bind fun x22 =>
 some (x22.Classes,x22.Each,x22.Laps,x22.Spare,x22.Loop,x22.Unused)).bind fun (l11,x14,x15,x16,x17,x18) =>
 (wCG 0 (↑p0.Teams.length:Int) (fun k130 l125 =>
  (idx p0.Teams (↑k130:Int)).bind fun x155 =>
  ((wBC x155.Classes).bind fun x187 =>
  some x187).bind fun l181 =>
  (wCG 0 (↑x155.Legs.length:Int) (fun k289 l284 =>
   (idx x155.Legs (↑k289:Int)).bind fun x318 =>
   (wBC x318.Loops).bind fun x344 =>
   (wBR x318.Bouts).bind fun x358 =>
   (app 56 l284 [(⟨x318.Skier,x344,x358⟩:wAG)]).bind fun x391 =>
   some x391) []).bind fun y294 =>
  (app 56 l125 [(⟨x155.Bib,l181,y294⟩:wAF)]).bind fun x454 =>
  some x454) []).bind fun y135 =>
 some (⟨(⟨l11,x14,x15,x16,x17,x18⟩:wAJ),p0.Start,y135⟩:wAL)
def wBB (p0:wAB) (p1:Int):Option ((List Int) × wAB) :=
 (wCG 0 (max 0 p1) (fun k19 l15 =>
  (app 8 l15 [(↑k19:Int)]).bind fun x47 =>
  some x47) []).bind fun y24 =>
 iter (fun (l95,x98,x99,l100,x101) =>
  if 0 < x101 then
   (wAH (⟨l95,x98,x99⟩:wAB) (w64 (x101 + 1))).bind fun (x120,x121) =>
   (chk x120 l100.length).bind fun _ =>
   (chk x101 l100.length).bind fun _ =>
   (chk x120 (nK l100 x101.toNat (gd l100 x120.toNat)).length).bind fun _ =>
   some (.inl (x121.bytes,x121.next,x121.state,(nK (nK l100 x101.toNat (gd l100 x120.toNat)) x120.toNat (gd l100 x101.toNat)),w64 (x101 - 1)))
  else
   esc (some (l100,(⟨l95,x98,x99⟩:wAB)))) big (p0.bytes,p0.next,p0.state,y24,w64 ((↑y24.length:Int) - 1))
def wAw (p0:List wAA) (p1:List wAA):Option (Bool) :=
 if (↑p0.length:Int)=(↑p1.length:Int) then
  jn (wFH 0 (↑p0.length:Int) (fun k4 _ =>
   (idx p0 (↑k4:Int)).bind fun x26 =>
   (idx p1 (↑k4:Int)).bind fun x34 =>
   if x26=x34 then
    some (.inl ())
   else
    esc (some false)) ()) fun _ =>
  some true
 else
  some false
def wDM:Option Bool:=some true
def wBo (p0:List Int) (p1:List Int):Option (Bool) :=
 (wCR p0).bind fun x1 =>
 (wBp x1 8 4).bind fun (x16,x17) =>
 (wCR p1).bind fun x47 =>
 (wBV x16).bind fun (x75,x76) =>
 (wDI x16).bind fun (x91,x92) =>
 (wDk x16).bind fun (x119,x120) =>
 if x76=0 then
  if x92=0 then
   if x120=0 then
    if (↑x75.length:Int)=(↑x16.Teams.length:Int) then
     if (↑x91.Times.length:Int)=(↑x16.Teams.length:Int) then
      (wBy x91).bind fun (x166,x167) =>
      if x167=0 then
       if (↑x166.length:Int)=(↑x16.Teams.length:Int) then
        jn (wFH 0 (↑x75.length:Int) (fun k211 x210 =>
         jn ((idx x75 (↑k211:Int)).bind fun x240 =>
         (wAR x16.Teams (fun x=>wAf x x240)).bind fun x270 =>
         if x270 < 0 then
          esc (esc (some false))
         else
          (cut x75 0 (↑k211:Int)).bind fun x289 =>
          (wAT x289 (fun x=>wAg x x240)).bind fun x305 =>
          if x305=true then
           esc (esc (some false))
          else
           (wAY x119 (fun x=>wAh x x240)).bind fun x330 =>
           (if x330=true then
            some false
           else
            (idx x91.Times x270).bind fun x350 =>
            some (decide ((↑x350.length:Int)=x91.Laps))).bind fun b340 =>
           (if (b340 == (decide (0 < x240.Place)))=true then
            if b340=true then
             some false
            else
             some (decide (¬ (x240.Time=0)))
           else
            some true).bind fun b390 =>
           if b390=true then
            esc (esc (some false))
           else
            if b340=true then
             (idx x91.Times x270).bind fun x438 =>
             (idx x438 (w64 (x91.Laps - 1))).bind fun x460 =>
             (idx x16.Teams x270).bind fun x467 =>
             jn (wFH 0 (↑x467.Legs.length:Int) (fun k493 x492 =>
              (idx x467.Legs (↑k493:Int)).bind fun x525 =>
              jn (wFH 0 (↑x525.Bouts.length:Int) (fun k554 x553 =>
               (idx x525.Bouts (↑k554:Int)).bind fun x589 =>
               (wCg x589).bind fun (x602,x603) =>
               if x603=0 then
                some (.inl (w64 (x553 + (w64 (x602.Unused * x16.Rules.Unused)))))
               else
                esc (esc (esc (esc (some false))))) x492) fun y640 =>
              some (.inl y640)) x460) fun y669 =>
             (wCG 0 (↑x75.length:Int) (fun k696 x695 =>
              (idx x75 (↑k696:Int)).bind fun x730 =>
              if 0 < x730.Place then
               if x730.Time < x240.Time then
                some (w64 (x695 + 1))
               else
                some x695
              else
               some x695) 1).bind fun y701 =>
             if 0 <= x210 then
              esc (esc (some false))
             else
              if y669=x240.Time then
               if y701=x240.Place then
                if 0 < (↑k211:Int) then
                 (idx x75 (w64 ((↑k211:Int) - 1))).bind fun x813 =>
                 if x240.Time < x813.Time then
                  esc (esc (some false))
                 else
                  if x813.Time=x240.Time then
                   if x240.Bib <= x813.Bib then
                    esc (esc (some false))
                   else
                    some (.inl x210)
                  else
                   some (.inl x210)
                else
                 some (.inl x210)
               else
                esc (esc (some false))
              else
               esc (esc (some false))
            else
             if 0 <= x210 then
              (chk x270 x166.length).bind fun _ =>
              (chk x210 x166.length).bind fun _ =>
              if (gd x166 x210.toNat) < (gd x166 x270.toNat) then
               esc (esc (some false))
              else
               if (gd x166 x270.toNat)=(gd x166 x210.toNat) then
                (idx x16.Teams x270).bind fun x907 =>
                (idx x16.Teams x210).bind fun x927 =>
                if x907.Bib < x927.Bib then
                 esc (esc (some false))
                else
                 some (.inl x270)
               else
                some (.inl x270)
             else
              some (.inl x270)) fun x237 =>
         some (.inl x237)) (-1)) fun y978 =>
        (wBg x16).bind fun x1007 =>
        (wBB x47 (↑x16.Teams.length:Int)).bind fun (x1047,x1048) =>
        (wCG 0 (↑x1047.length:Int) (fun k1086 l1081 =>
         (chk (↑k1086:Int) x1047.length).bind fun _ =>
         (idx x16.Teams (gd x1047 k1086)).bind fun x1119 =>
         (app 56 l1081 [x1119]).bind fun x1143 =>
         some x1143) []).bind fun y1091 =>
        (wBV (⟨x1007.Rules,x1007.Start,y1091⟩:wAL)).bind fun (x1193,x1194) =>
        if x1194=0 then
         (wAw x1193 x75).bind fun x1223 =>
         if x1223=true then
          (wDM).bind fun x1235 =>
          some x1235
         else
          some false
        else
         some false
       else
        some false
      else
       some false
     else
      some false
    else
     some false
   else
    some false
  else
   some false
 else
  some false
end
end Go.Proofs.YtglpalgiipahjaaGreat
namespace Go.Proofs.YtglpalgiipahjaaGreat
open Go.KL
def inB (n lo hi:Int):Bool:=decide (lo <= n/\n <= hi)
theorem wIp (n lo hi:Int):wBz n lo hi=some (inB n lo hi):=by
 unfold wBz inB
 by_cases h:lo <= n
 ·rw [if_pos h];simp [h]
 ·rw [if_neg h];simp [h]
def wDf:List Bool->Nat->Option Nat
 | [],k=>some k
 | b :: l,k=>if k=5 then none else wDf l (k + if b=true then 1 else 0)
theorem wGp:∀ (l:List Bool) (k m:Nat),k <= 5->wDf l k=some m->k <= m/\m <= 5
 | [],k,m,hk,h=>by cases h;omega
 | b :: l,k,m,hk,h=>by
  rw [wDf] at h
  split at h
  ·cases h
  ·have:=wGp l _ m (by split <;> omega) h
   split at this <;> omega
theorem wIq {l:List Bool} {R:Type} (z:R) (K:Int->Option R):∀ (m k h:Nat),k + m=l.length->h <= 5 ->
  jn (forN (fun k23 (x22:Int)=>(idx l (↑k23:Int)).bind fun x45=>if x22=0 then esc (some z) else if x45=true then some (.inl (w64 (x22 - 1))) else some (.inl x22)) m k (5 - (h:Int))) K =
   (match wDf (l.drop k) h with | none=>some z | some m=>K (5 - (m:Int)))
 | 0,k,h,hk,_=>by rw [List.drop_eq_nil_of_le (by omega)];rfl
 | m + 1,k,h,hk,h5=>by
  have hlt:k < l.length:=by omega
  rw [List.drop_eq_getElem_cons hlt,wDf,forN,wID,nq hlt]
  simp only [nA]
  by_cases hz:h=5
  ·rw [if_pos (by omega),if_pos hz];rfl
  ·rw [if_neg (by omega),if_neg hz]
   by_cases hb:l[k]=true
   ·rw [if_pos hb,if_pos hb,wAU (by omega) (by omega)]
    have:=wIq (l:=l) z K m (k + 1) (h + 1) (by omega) (by omega)
    rw [show (5:Int) - ((h + 1:Nat):Int)=5 - (h:Int) - 1 by omega] at this
    exact this
   ·rw [if_neg hb,if_neg hb]
    exact wIq (l:=l) z K m (k + 1) h (by omega) h5
def okB (b:List Bool):Prop:=5 <= b.length/\b.length <= 8/\∃ m,wDf b 0=some m
def wGV (b:List Bool):Nat:=(wDf b 0).getD 0
theorem wRP (b:List Bool):wGV b <= 5:=by
 unfold wGV
 cases h:wDf b 0 with
 | none=>exact Nat.zero_le _
 | some m=>exact (wGp b 0 m (by omega) h).2
theorem wKS {l:List Bool} (h:okB l):wCg l=some (⟨(l.length:Int) - 5,5 - (wGV l:Int),if wGV l < 5 then 8 - (l.length:Int) else 0⟩,0):=by
 obtain ⟨h1,h2,m,hq⟩:=h
 have hn:wGV l=m:=by unfold wGV;rw [hq];rfl
 rw [hn]
 unfold wCg
 have hi:inB l.length 5 8=true:=by unfold inB;simp;omega
 rw [wIp,nA,hi,if_pos rfl,wDe (by omega)]
 have:=wIq (l:=l) (R:=wAd × Int) ((⟨0,0,0⟩:wAd),8) (fun y72=>if 0 < y72 then
   some ((⟨w64 ((↑l.length:Int) - 5),y72,w64 (8 - (↑l.length:Int))⟩:wAd),0)
  else
   some ((⟨w64 ((↑l.length:Int) - 5),y72,0⟩:wAd),0)) l.length 0 0 (by omega) (by omega)
 rw [List.drop_zero] at this
 have e:(5:Int) - ((0:Nat):Int)=5:=by omega
 rw [e] at this
 rw [this,hq]
 have:=wGp l 0 m (by omega) hq
 simp only
 rw [wAU (by omega) (by omega),wAU (by omega) (by omega)]
 by_cases hm:m < 5
 ·rw [if_pos (by omega),if_pos hm]
 ·rw [if_neg (by omega),if_neg hm]
end Go.Proofs.YtglpalgiipahjaaGreat
namespace Go.Proofs.YtglpalgiipahjaaGreat
open Go.KL
structure wDg (p:wAJ):Prop where
 n:1 <= p.Classes.length/\p.Classes.length <= 4
 cls:∀ c ∈ p.Classes,0 <= c/\c <= 3
 each:1 <= p.Each/\p.Each <= 4
 laps:1 <= p.Laps/\p.Laps <= 5
 spare:0 <= p.Spare/\p.Spare <= 600
 loop:0 <= p.Loop/\p.Loop <= 600
 unused:0 <= p.Unused/\p.Unused <= 6000
structure wEo (p:wAJ) (t:wAF) (l:wAG):Prop where
 le:(l.Loops.length:Int) <= p.Laps
 bouts:l.Bouts.length=l.Loops.length - 1
 loops:∀ n ∈ l.Loops,1 <= n/\n <= 9000
 skier:0 <= l.Skier/\l.Skier < t.Classes.length
 ok:∀ b ∈ l.Bouts,okB b
structure wOA (p:wAJ) (t:wAF):Prop where
 bib:1 <= t.Bib/\t.Bib <= 999
 n:1 <= t.Classes.length/\t.Classes.length <= 8
 cls:∀ c ∈ t.Classes,0 <= c/\c <= 3
 legs:t.Legs.length <= p.Classes.length
 full:∀ k,k + 1 < t.Legs.length->((gd t.Legs k).Loops.length:Int)=p.Laps
 leg:∀ l ∈ t.Legs,wEo p t l
structure wGW (r:wAL):Prop where
 rules:wDg r.Rules
 n:1 <= r.Teams.length/\r.Teams.length <= 12
 start:0 <= r.Start/\r.Start <= 36000
 team:∀ t ∈ r.Teams,wOA r.Rules t
 bibs:(r.Teams.map (·.Bib)).Nodup
theorem wDG {n lo hi:Int} (h1:lo <= n) (h2:n <= hi):inB n lo hi=true:=by unfold inB;simp [h1,h2]
theorem wMR {l:List Int} {f:Int->Option Bool} {p:Int->Bool} (hf:∀ a,f a=some (p a)) (hn:l.length <= 9223372036854775807):wCd l f=some (l.all p):=by
 unfold wCd wBX wBn wCA
 have:=wEG (R:=Int) (l:=l) (f:=fun x=>(f x).bind fun x5=>some (!x5)) (p:=fun a=>!p a) (fun a _=>by rw [hf];rfl) hn id
 simp only [id] at this
 rw [this]
 simp only [nA,wEn]
 congr 1
 clear this hn
 induction l with
 | nil=>rfl
 | cons a l ih=>rw [kj,kk,<- ih];cases p a <;> simp
theorem wTb {l:List wAO} {f:wAO->Option Bool} {p:wAO->Bool} (hf:∀ a ∈ l,f a=some (p a)) (hn:l.length <= 9223372036854775807):wBa l f=some (l.all p):=by
 unfold wBa wAj wAn wAx
 have:=wEG (R:=Int) (l:=l) (f:=fun x=>(f x).bind fun x5=>some (!x5)) (p:=fun a=>!p a) (fun a ha=>by rw [hf a ha];rfl) hn id
 simp only [id] at this
 rw [this]
 simp only [nA,wEn]
 congr 1
 clear this hn hf
 induction l with
 | nil=>rfl
 | cons a l ih=>rw [kj,kk,<- ih];cases p a <;> simp
theorem wNJ {l:List wAF} {f:wAF->Option Bool} (hf:∀ a ∈ l,f a=some true) (hn:l.length <= 9223372036854775807):wBL l f=some true:=by
 unfold wBL wAl wAR wAz
 have:=wEG (R:=Int) (l:=l) (f:=fun x=>(f x).bind fun x5=>some (!x5)) (p:=fun _=>false) (fun a ha=>by rw [hf a ha];rfl) hn id
 simp only [id] at this
 rw [this]
 simp only [nA,wEn]
 simp
theorem wRQ {p:wAJ} (g:wDg p):wCf p=some 0:=by
 unfold wCf
 have h1:=g.n
 have h2:=g.each;have h3:=g.laps;have h4:=g.spare;have h5:=g.loop;have h6:=g.unused
 rw [wIp,nA,wDG (by omega) (by omega),if_pos rfl]
 have hc:wCS p.Classes=some true:=by
  unfold wCS
  rw [wMR (f:=wBK) (p:=fun n=>inB n 0 3) (fun a=>by unfold wBK;rw [wIp];rfl) (by omega),nA]
  exact congrArg some (kS.2 fun c hc=>wDG (g.cls c hc).1 (g.cls c hc).2)
 rw [hc,nA,if_pos rfl]
 unfold wDu
 rw [nA,wTb (p:=fun a=>match a.of p with | some x=>inB x a.lo a.hi | none=>true) (fun a ha=>by
  unfold wBf
  simp only [ny,nz,or_false] at ha
  rcases ha with rfl | rfl | rfl | rfl | rfl <;> simp [wBh,wBi,wBj,wBk,wBl,wIp]) (by simp)]
 simp only [nA,kk,List.all_nil,Bool.and_true,wBh,wBi,wBj,wBk,wBl]
 rw [wDG h2.1 h2.2,wDG h3.1 h3.2,wDG h4.1 h4.2,wDG h5.1 h5.2,wDG h6.1 h6.2]
 rfl
theorem wRR {p:wAJ} (gp:wDg p) {t:wAF} (g:wOA p t):wBY p t=some true:=by
 unfold wBY
 have h1:=g.n;have h2:=g.legs;have h3:=gp.n;have h4:=gp.laps
 rw [wIp,nA,wDG (by omega) (by omega),if_pos rfl,if_neg (by omega)]
 rw [wEO (by omega) fun k hk=>?_]
 ·rfl
 ·have gl:=g.leg _ (wAe hk)
  have b1:=gl.le;have b2:=gl.bouts
  rw [wAm hk,nA,if_neg (by omega)]
  have hb:((gd t.Legs k).Bouts.length:Int)=max 0 (w64 (((gd t.Legs k).Loops.length:Int) - 1)):=by
   rw [wAU (by omega) (by omega)]
   omega
  rw [wAU (x:=(t.Legs.length:Int) - 1) (by omega) (by omega)]
  by_cases hl:(k:Int) < (t.Legs.length:Int) - 1
  ·rw [if_pos hl,if_neg (by have:=g.full k (by omega);omega),if_pos hb]
  ·rw [if_neg hl,if_pos hb]
theorem wMS {E:Type} {f:Unit->(wAF × wAG)->Option (Unit ⊕ E)} {r:wAL} (hn:r.Teams.length <= 1000) (hl:∀ t ∈ r.Teams,t.Legs.length <= 1000) (h:∀ t ∈ r.Teams,∀ l ∈ t.Legs,f () (t,l)=some (.inl ())):wBZ f () r=some (.inl ()):=by
 unfold wBZ
 rw [wEO (by omega) fun k hk=>?_]
 ·rfl
 ·have ht:=wAe hk
  rw [wAm hk,nA,wEO (by have:=hl _ ht;omega) fun j hj=>?_]
  ·rfl
  ·rw [wAm hj,nA,h _ ht _ (wAe hj)]
   rfl
theorem wRS {l:List (Int × Bool)} {x:Int} {v:Bool} (h:∀ q ∈ l,q.1 ≠ x):mput l x v=l ++ [(x,v)]:=by
 induction l with
 | nil=>rfl
 | cons a l ih =>
  obtain ⟨y,u⟩:=a
  have:=h (y,u) (by simp)
  rw [mput,if_neg (fun e=>this e.symm),ih fun q hq=>h q (by simp [hq])]
  rfl
theorem wOB {l:List Int} (h:l.Nodup) {k:Nat} (hk:k < l.length):∀ a ∈ l.take k,a ≠ gd l k:=by
 intro a ha e
 rw [<- kg k l,wQK hk,na] at h
 exact h.2.2 a ha _ (kr ..) e
theorem wRT {r:wAL} (g:wGW r):wDb r=some 0:=by
 unfold wDb
 have h1:=g.n;have h2:=g.start
 have hl:∀ t ∈ r.Teams,t.Legs.length <= 1000:=fun t ht=>by have:=(g.team t ht).legs;have:=g.rules.n;omega
 rw [wRQ g.rules,nA,if_pos rfl,wIp,nA,wDG (by omega) (by omega),if_pos rfl,wNJ (fun t ht=>wRR g.rules (g.team t ht)) (by omega),nA,if_pos rfl,
  wIp,nA,wDG h2.1 h2.2,if_pos rfl,wNJ (fun t ht=>?_) (by omega),nA,if_pos rfl]
 ·unfold wCN
  rw [nA,wMS (by omega) hl fun t ht l hm=>?_,nA]
  ·simp only [nA]
   rw [wMS (by omega) hl fun t ht l hm=>?_,nA]
   ·simp only [nA]
    rw [wMS (by omega) hl fun t ht l hm=>?_,nA]
    ·simp only
     have:=wCV (S:=List (Int × Bool)) (n:=r.Teams.length) (body:=fun k640 l637=>(idx r.Teams (↑k640:Int)).bind fun x664=>some (mput l637 x664.Bib true)) (fun k=>(r.Teams.take k).map fun t=>(t.Bib,true)) (s0:=[]) rfl (by omega) fun k hk=>by
      rw [wAm hk,nA,wDE hk,nP,wRS fun q hq=>?_]
      ·rfl
      ·obtain ⟨t,ht,rfl⟩:=nN.1 hq
       have:=wOB g.bibs (k:=k) (by simpa using hk) t.Bib (by rw [<- kl];exact nN.2 ⟨t,ht,rfl⟩)
       rw [wEP _ hk] at this
       exact this
     rw [this,nA,if_neg (by simp)]
    ·have gl:=(g.team t ht).leg l hm
     have hb:=gl.bouts;have hle:=gl.le;have:=g.rules.laps
     simp only
     rw [wEO (by omega) fun k hk=>?_]
     ·rfl
     ·rw [wAm hk,nA,wKS (gl.ok _ (wAe hk))]
      rfl
   ·have gl:=(g.team t ht).leg l hm
    have:=gl.skier;have:=(g.team t ht).n
    simp only
    rw [wIp,nA,wAU (by omega) (by omega),wDG (by omega) (by omega),if_pos rfl]
  ·have gl:=(g.team t ht).leg l hm
   have hle:=gl.le;have:=g.rules.laps
   simp only
   rw [wMR (f:=wCT) (p:=fun n=>inB n 1 9000) (fun a=>by unfold wCT;rw [wIp];rfl) (by omega),nA,if_pos]
   exact kS.2 fun n hn=>wDG (gl.loops n hn).1 (gl.loops n hn).2
 ·have gt:=g.team t ht
  have:=gt.n
  unfold wCo
  rw [wIp,nA,wDG gt.bib.1 gt.bib.2,if_pos rfl]
  unfold wCS
  rw [wMR (f:=wBK) (p:=fun n=>inB n 0 3) (fun a=>by unfold wBK;rw [wIp];rfl) (by omega),nA,nA]
  exact congrArg some (kS.2 fun c hc=>wDG (gt.cls c hc).1 (gt.cls c hc).2)
def bc (p:wAJ) (b:List Bool):Int:=((b.length:Int) - 5) * p.Spare + (5 - (wGV b:Int)) * p.Loop
def tAt (p:wAJ) (l:wAG) (x:Int):Nat->Int
 | 0=>x
 | k + 1=>tAt p l x k + gd l.Loops k + if 0 < k then bc p (gd l.Bouts (k - 1)) else 0
def wTc (p:wAJ) (l:wAG) (x:Int):List Int:=(nU l.Loops.length).map fun k=>tAt p l x (k + 1)
def wOC (p:wAJ) (l:wAG) (x:Int):Int:=tAt p l x l.Loops.length
def wHK (p:wAJ):List wAG->Int->Int
 | [],x=>x
 | l :: r,x=>wHK p r (wOC p l x)
def wEV (p:wAJ):List wAG->Int->List Int
 | [],_=>[]
 | l :: r,x=>wTc p l x ++ wEV p r (wOC p l x)
theorem wNK {p:wAJ} (g:wDg p) {b:List Bool} (h:okB b):0 <= ((b.length:Int) - 5) * p.Spare/\((b.length:Int) - 5) * p.Spare <= 1800/\0 <= (5 - (wGV b:Int)) * p.Loop/\(5 - (wGV b:Int)) * p.Loop <= 3000:=by
 obtain ⟨h1,h2,_⟩:=h
 have h3:=wRP b
 have a1:=g.spare;have a2:=g.loop
 refine ⟨nX (by omega) a1.1,?_,nX (by omega) a2.1,?_⟩
 ·exact Int.le_trans (nY (show (b.length:Int) - 5 <= 3 by omega) a1.2 a1.1 (by omega)) (by omega)
 ·exact Int.le_trans (nY (show 5 - (wGV b:Int) <= 5 by omega) a2.2 a2.1 (by omega)) (by omega)
theorem wNL {p:wAJ} (gp:wDg p) {t:wAF} {l:wAG} (g:wEo p t l) (x:Int) {k:Nat} (hk:k < l.Loops.length):tAt p l x k + 1 <= tAt p l x (k + 1)/\tAt p l x (k + 1) <= tAt p l x k + 13800:=by
 have h1:=g.loops _ (wAe hk)
 rw [tAt]
 by_cases h:0 < k
 ·have hb:=g.bouts
  have:=wNK gp (g.ok _ (wAe (k:=k - 1) (by omega)))
  rw [if_pos h]
  unfold bc
  omega
 ·rw [if_neg h];omega
theorem wIr {p:wAJ} (gp:wDg p) {t:wAF} {l:wAG} (g:wEo p t l) (x:Int):∀ k,k <= l.Loops.length->x + k <= tAt p l x k/\tAt p l x k <= x + 13800 * k
 | 0,_=>by simp [tAt]
 | k + 1,hk=>by
  have:=wNL gp g x (k:=k) (by omega)
  have:=wIr gp g x k (by omega)
  omega
theorem wJd {p:wAJ} (gp:wDg p) {t:wAF} {l:wAG} (g:wEo p t l) (x:Int):x <= wOC p l x/\wOC p l x <= x + 69000:=by
 have:=wIr gp g x l.Loops.length (nl _)
 have:=g.le;have:=gp.laps
 unfold wOC
 omega
theorem wTd {p:wAJ} (gp:wDg p) {t:wAF} {l:wAG} (g:wEo p t l) {x:Int} (hx:0 <= x/\x <= 1000000) {k:Nat} (hk:k < l.Loops.length) :
  (0 < k->idx l.Bouts (w64 ((k:Int) - 1))=some (gd l.Bouts (k - 1))/\okB (gd l.Bouts (k - 1)) /\
   w64 ((w64 (tAt p l x k + gd l.Loops k)) + (w64 ((w64 ((((gd l.Bouts (k - 1)).length:Int) - 5) * p.Spare)) + (w64 ((5 - (wGV (gd l.Bouts (k - 1)):Int)) * p.Loop)))))=tAt p l x (k + 1)) /\
  (¬ 0 < k->w64 (tAt p l x k + gd l.Loops k)=tAt p l x (k + 1)):=by
 have h1:=g.loops _ (wAe hk)
 have h2:=wIr gp g x k (by omega)
 have h3:=g.le;have h4:=gp.laps;have hb:=g.bouts
 refine ⟨fun h=>?_,fun h=>?_⟩
 ·have ho:=g.ok _ (wAe (k:=k - 1) (by omega))
  have:=wNK gp ho
  refine ⟨?_,ho,?_⟩
  ·rw [wAU (by omega) (by omega),show (k:Int) - 1=((k - 1:Nat):Int) by omega]
   exact wAm (by omega)
  ·rw [tAt,if_pos h]
   unfold bc
   rw [wAU (x:=tAt p l x k + gd l.Loops k) (by omega) (by omega),wAU (x:=(((gd l.Bouts (k - 1)).length:Int) - 5) * p.Spare) (by omega) (by omega),wAU (x:=(5 - (wGV (gd l.Bouts (k - 1)):Int)) * p.Loop) (by omega) (by omega),wAU (x:=(((gd l.Bouts (k - 1)).length:Int) - 5) * p.Spare + (5 - (wGV (gd l.Bouts (k - 1)):Int)) * p.Loop) (by omega) (by omega),wAU (by omega) (by omega)]
 ·rw [tAt,if_neg h,wAU (by omega) (by omega),Int.add_zero]
theorem wLM (p:wAJ) (l:wAG) (x:Int) (k:Nat):(nU (k + 1)).map (fun i=>tAt p l x (i + 1))=(nU k).map (fun i=>tAt p l x (i + 1)) ++ [tAt p l x (k + 1)]:=by
 rw [kc,nP]
 rfl
theorem wHL (p:wAJ) (a:wAG):∀ (l:List wAG) (x:Int),wEV p (l ++ [a]) x=wEV p l x ++ wTc p a (wHK p l x)/\wHK p (l ++ [a]) x=wOC p a (wHK p l x)
 | [],x=>by simp [wEV,wHK]
 | b :: l,x=>by
  have:=wHL p a l (wOC p b x)
  exact ⟨by rw [kA,wEV,wEV,this.1,nu];rfl,this.2⟩
theorem wIs {p:wAJ} (gp:wDg p) {t:wAF}:∀ (l:List wAG) (x:Int),(∀ a ∈ l,wEo p t a)->x <= wHK p l x/\wHK p l x <= x + 69000 * (l.length:Int)
 | [],x,_=>by simp [wHK]
 | a :: l,x,h=>by
  have h1:=wJd gp (h a (by simp)) x
  have h2:=wIs gp l (wOC p a x) fun b hb=>h b (by simp [hb])
  rw [wHK]
  simp only [nJ]
  omega
def after (r:wAL):List (List Int):=r.Teams.map fun t=>wEV r.Rules t.Legs r.Start
theorem wGr {p:wAJ} (gp:wDg p) {t:wAF}:∀ (l:List wAG) (x:Int),(∀ a ∈ l,wEo p t a)->(wEV p l x).length <= 5 * l.length
 | [],x,_=>by simp [wEV]
 | a :: l,x,h=>by
  have h1:=(h a (by simp)).le
  have h2:=wGr gp l (wOC p a x) fun b hb=>h b (by simp [hb])
  have:=gp.laps
  rw [wEV,nM]
  simp only [wTc,nD,kz,nJ]
  omega
theorem wHu {r:wAL} (g:wGW r):wCx r=some (some ⟨r,after r⟩,0):=by
 unfold wCx
 rw [wRT g,nA,if_pos rfl]
 have hn:=g.n;have hs:=g.start
 rw [wCV (S:=List (List Int)) (n:=r.Teams.length) (fun k=>(r.Teams.take k).map fun t=>wEV r.Rules t.Legs r.Start) (s0:=[]) rfl (by omega) fun k hk=>?_]
 ·rw [nA,nH]
  rfl
 ·have gt:=g.team _ (wAe hk)
  have hleg:=gt.legs;have hc:=g.rules.n
  rw [wAm hk,nA]
  rw [wCV (S:=Int × List Int) (n:=(gd r.Teams k).Legs.length) (fun j=>(wHK r.Rules ((gd r.Teams k).Legs.take j) r.Start,wEV r.Rules ((gd r.Teams k).Legs.take j) r.Start)) (s0:=(r.Start,[])) rfl (by omega) fun j hj=>?_]
  ·simp only [nA,nH]
   have hlen:=wGr g.rules (gd r.Teams k).Legs r.Start gt.leg
   rw [wCw (by simp;omega),nA,wDE hk,nP]
   rfl
  ·have gl:=gt.leg _ (wAe hj)
   have hE:=wIs g.rules ((gd r.Teams k).Legs.take j) r.Start fun a ha=>gt.leg a (nV ha)
   have hL:=wGr g.rules ((gd r.Teams k).Legs.take j) r.Start fun a ha=>gt.leg a (nV ha)
   rw [nR] at hE hL
   have hx:0 <= wHK r.Rules ((gd r.Teams k).Legs.take j) r.Start/\wHK r.Rules ((gd r.Teams k).Legs.take j) r.Start <= 1000000:=by omega
   generalize hX:wHK r.Rules ((gd r.Teams k).Legs.take j) r.Start=X at hx
   generalize hY:wEV r.Rules ((gd r.Teams k).Legs.take j) r.Start=Y at hL
   have hlap:=g.rules.laps;have hle:=gl.le
   simp only
   rw [wAm hj,nA]
   rw [wCV (S:=Int × List Int) (n:=(gd (gd r.Teams k).Legs j).Loops.length) (fun i=>(tAt r.Rules (gd (gd r.Teams k).Legs j) X i,Y ++ (nU i).map fun q=>tAt r.Rules (gd (gd r.Teams k).Legs j) X (q + 1))) (s0:=(X,Y)) (by simp [tAt]) (by omega) fun i hi=>?_]
   ·simp only [nA]
    rw [wDE hj,(wHL _ _ _ _).1,(wHL _ _ _ _).2,hX,hY]
    rfl
   ·obtain ⟨l1,l2⟩:=wTd g.rules gl hx hi
    simp only
    rw [wAm hi,nA]
    by_cases h0:0 < i
    ·obtain ⟨e1,e2,e3⟩:=l1 h0
     rw [if_pos (by omega),e1,nA,wKS e2]
     simp only [nA]
     rw [e3,wCw (by simp;omega),nA,wLM,nu]
    ·rw [if_neg (by omega),l2 h0,wCw (by simp;omega),nA,wLM,nu]
def wBw (r:wAL):wAM:=⟨(r.Rules.Classes.length:Int) * r.Rules.Laps,r.Teams.map (·.Bib),after r⟩
theorem wQM {r:wAL} (g:wGW r):wDI r=some (wBw r,0):=by
 unfold wDI
 rw [wHu g]
 simp only [nA,if_true]
 unfold wBM
 have hn:=g.n
 simp only
 rw [wCV (S:=List Int × List (List Int)) (n:=r.Teams.length) (fun k=>((r.Teams.take k).map (·.Bib),(r.Teams.take k).map fun t=>wEV r.Rules t.Legs r.Start)) (s0:=([],[])) rfl (by omega) fun k hk=>?_]
 ·simp only [nA,nH]
  have h1:=g.rules.n;have h2:=g.rules.laps
  have h3:0 <= (r.Rules.Classes.length:Int) * r.Rules.Laps:=nX (by omega) (by omega)
  have h4:(r.Rules.Classes.length:Int) * r.Rules.Laps <= 4 * 5:=nY (by omega) h2.2 (by omega) (by omega)
  rw [wAU (by omega) (by omega)]
  rfl
 ·have gt:=g.team _ (wAe hk)
  have hlen:=wGr g.rules (gd r.Teams k).Legs r.Start gt.leg
  have hc:=g.rules.n;have hleg:=gt.legs
  simp only
  rw [wAm hk,nA,wCw (by simp;omega),nA]
  unfold after
  rw [wAm (by simpa using hk),nA,wEP _ hk]
  unfold wCX
  rw [wCw (by simp;omega)]
  simp only [nA,List.nil_append]
  rw [wCw (by simp;omega),nA,wDE hk,nP,nP]
  rfl
end Go.Proofs.YtglpalgiipahjaaGreat
namespace Go.Proofs.YtglpalgiipahjaaGreat
open Go.KL
theorem wHv {p:wAJ} (gp:wDg p) {t:wAF} {l:wAG} (g:wEo p t l) (x:Int) {i:Nat}:∀ (j:Nat),i < j->j <= l.Loops.length->tAt p l x i < tAt p l x j
 | 0,h,_=>by omega
 | j + 1,h,hj=>by
  have h1:=wNL gp g x (k:=j) (by omega)
  rcases nh i j with hi | hi
  ·have:=wHv gp g x j hi (by omega)
   omega
  ·have:i=j:=by omega
   subst this
   omega
theorem wTe {p:wAJ} (gp:wDg p) {t:wAF} {l:wAG} (g:wEo p t l) (x:Int):(wTc p l x).Pairwise (· < ·)/\∀ a ∈ wTc p l x,x < a/\a <= wOC p l x:=by
 unfold wTc
 refine ⟨?_,fun a ha=>?_⟩
 ·rw [nv]
  refine List.Pairwise.imp_of_mem ?_ kf
  intro i j hi hj hij
  exact wHv gp g x _ (by omega) (by have:=nj.1 hj;omega)
 ·obtain ⟨i,hi,rfl⟩:=nN.1 ha
  have hi:=nj.1 hi
  have:=wHv gp g x (i:=0) (i + 1) (by omega) (by omega)
  refine ⟨this,?_⟩
  unfold wOC
  rcases nh (i + 1) l.Loops.length with h | h
  ·have:=wHv gp g x (i:=i + 1) l.Loops.length h (nl _)
   omega
  ·have:i + 1=l.Loops.length:=by omega
   rw [this]
   exact nS _
theorem wKV {p:wAJ} (gp:wDg p) {t:wAF}:∀ (l:List wAG) (x:Int),(∀ a ∈ l,wEo p t a)->(wEV p l x).Pairwise (· < ·)/\∀ a ∈ wEV p l x,x < a/\a <= x + 69000 * (l.length:Int)
 | [],x,_=>by simp [wEV]
 | b :: l,x,h=>by
  obtain ⟨h1,h2⟩:=wTe gp (h b (by simp)) x
  obtain ⟨h3,h4⟩:=wKV gp l (wOC p b x) fun c hc=>h c (by simp [hc])
  have h5:=wJd gp (h b (by simp)) x
  rw [wEV]
  refine ⟨kG.2 ⟨h1,h3,fun a ha c hc=>?_⟩,fun a ha=>?_⟩
  ·have:=(h2 a ha).2
   have:=(h4 c hc).1
   omega
  ·simp only [nJ]
   rcases nO.1 ha with ha | ha
   ·have:=h2 a ha
    omega
   ·have:=h4 a ha
    omega
theorem wJe {p:wAJ} {L:Nat} (hL:p.Laps=L) {t:wAF}:∀ (l:List wAG) (x:Int),(∀ a ∈ l,wEo p t a)->(wEV p l x).length <= l.length * L
 | [],x,_=>by simp [wEV]
 | a :: l,x,h=>by
  have h1:=(h a (by simp)).le
  have h2:=wJe hL l (wOC p a x) fun b hb=>h b (by simp [hb])
  rw [wEV,nM,nJ,Nat.add_mul]
  simp only [wTc,nD,kz]
  omega
end Go.Proofs.YtglpalgiipahjaaGreat
namespace Go.Proofs.YtglpalgiipahjaaGreat
open Go.KL
def cn (l:List Int) (t:Int):Nat:=l.countP fun x=>decide (x <= t)
theorem wOE (l:List Int) (t:Int):cn l t <= l.length:=kh
theorem wTf (l:List Int) {s t:Int} (h:s <= t):cn l s <= cn l t:=List.countP_mono_left fun x _ hx=>by simp at hx ⊢;omega
theorem wQN:∀ {l:List Int} {t:Int} {k:Nat},l.Pairwise (· < ·)->k < l.length->(k < cn l t ↔ gd l k <= t)
 | [],t,k,_,hk=>by simp at hk
 | a :: l,t,0,h,_=>by
  show 0 < cn (a :: l) t ↔ a <= t
  unfold cn
  rw [List.countP_cons]
  by_cases c:a <= t
  ·simp [c]
  ·simp only [c,decide_false,kM,if_false,Nat.add_zero,iff_false]
   have:l.countP (fun x=>decide (x <= t))=0:=np.2 fun x hx=>by
    have:=(kO.1 h).1 x hx
    simp;omega
   omega
 | a :: l,t,k + 1,h,hk=>by
  show k + 1 < cn (a :: l) t ↔ gd l k <= t
  have hk':k < l.length:=by simpa using hk
  have ih:=wQN (t:=t) (kO.1 h).2 hk'
  rw [<- ih]
  unfold cn
  rw [List.countP_cons]
  by_cases c:a <= t
  ·simp [c]
  ·have h1:l.countP (fun x=>decide (x <= t))=0:=np.2 fun x hx=>by
    have:=(kO.1 h).1 x hx
    simp;omega
   simp [c,h1]
theorem wVC {l:List Int} (h:l.Pairwise (· < ·)) {k:Nat} (hk:k < l.length):cn l (gd l k)=k + 1:=by
 have h1:=(wQN (t:=gd l k) h hk).2 (nS _)
 have h2:=wOE l (gd l k)
 by_cases e:k + 1=l.length
 ·omega
 ·have h3:=mt (wQN (t:=gd l k) (k:=k + 1) h (by omega)).1
  have h4:gd l k < gd l (k + 1):=by
   have:=nB.1 h k (k + 1) hk (by omega) (by omega)
   rwa [<- wCa hk,<- wCa (by omega)] at this
  have:=h3 (by omega)
  omega
theorem wVD {l:List Int} (h:l.Pairwise (· < ·)) {t:Int} (ht:t ∈ l):0 < cn l t/\cn l t <= l.length/\gd l (cn l t - 1)=t:=by
 obtain ⟨k,hk,e⟩:=nE ht
 have e':gd l k=t:=by rw [wCa hk,e]
 have:=wVC h hk
 rw [e'] at this
 refine ⟨by omega,wOE _ _,?_⟩
 rw [this];exact e'
theorem wTg {l:List Int} (h:l.Pairwise (· < ·)) {s t:Int} (hst:s < t) (hno:∀ x ∈ l,s < x->t <= x) :
  cn l t=if cn l s < l.length/\gd l (cn l s)=t then cn l s + 1 else cn l s:=by
 have h0:=wOE l s
 have hm:=wTf l (show s <= t by omega)
 by_cases hl:cn l s < l.length
 ·have h1:s < gd l (cn l s):=by
   have:=mt (wQN (t:=s) h hl).2 (by omega)
   omega
  have h2:=hno _ (wAe hl) h1
  by_cases e:gd l (cn l s)=t
  ·rw [if_pos ⟨hl,e⟩]
   have:=wVC h hl
   rw [e] at this
   exact this
  ·rw [if_neg (fun c=>e c.2)]
   have:=mt (wQN (t:=t) h hl).1 (by omega)
   omega
 ·rw [if_neg (fun c=>hl c.1)]
  have:=wOE l t
  omega
def Lp (p:wAI) (d time:Int) (j:Nat):Prop:=j < p.done.length/\gd p.out j=false/\d + 2 <= gd p.done j/\gd (gd p.Race.Times j) ((gd p.done j) - 1).toNat=time
structure wLN (p:wAI):Prop where
 n:p.done.length <= 60
 o:p.out.length=p.done.length
 b:p.Race.Bibs.length=p.done.length
 t:p.Race.Times.length=p.done.length
 d0:∀ i,i < p.done.length->0 <= gd p.done i/\gd p.done i <= (gd p.Race.Times i).length
 len:∀ l ∈ p.Race.Times,l.length <= 1000
def ByP (p:wAI) (d time:Int) (n:Nat) (x:Int):Prop :=
 (x=-1/\∀ j,j < n->¬ Lp p d time j) \/ ∃ j:Nat,x=j/\j < n/\Lp p d time j/\∀ i,i < n->Lp p d time i->gd p.Race.Bibs j <= gd p.Race.Bibs i
theorem wDr {S:Type} {body:Nat->S->Option S} {n:Nat} {s0:S} (I:Nat->S->Prop) (hn:n <= 1000) (h0:I 0 s0) (h:∀ i s,i < n->I i s->∃ s',body i s=some s'/\I (i + 1) s'):∃ s,wCG 0 (n:Int) body s0=some s/\I n s:=by
 rw [wEm (by omega)]
 have:=wFg (body:=body) I n 0 s0 h0 fun i s _ h2 h3=>h i s (by omega) h3
 rwa [kH] at this
theorem wVE {p:wAI} (G:wLN p) (i d time:Int) (hd0:0 <= d) (hd1:d <= 1000):∃ x,wBG p i d time=some x/\ByP p d time p.done.length x:=by
 unfold wBG
 have hn:=G.n
 obtain ⟨x,e,hx⟩:=wDr (body:=fun (k10:Nat) (x9:Int) =>
  ((idx p.done (↑k10:Int)).bind fun x35 =>
  (idx p.out (↑k10:Int)).bind fun x46 =>
  if x46=true then
   some x9
  else
   if (w64 (d + 2)) <= x35 then
    (idx p.Race.Times (↑k10:Int)).bind fun x60 =>
    (idx x60 (w64 (x35 - 1))).bind fun x73 =>
    if x73=time then
     if x9 < 0 then
      some (↑k10:Int)
     else
      (idx p.Race.Bibs (↑k10:Int)).bind fun x92 =>
      (idx p.Race.Bibs x9).bind fun x100 =>
      if x92 < x100 then
       some (↑k10:Int)
      else
       some x9
    else
     some x9
   else
    some x9).bind fun x34 =>
  some x34) (n:=p.done.length) (s0:=(-1:Int)) (fun k x=>ByP p d time k x) (by omega) (.inl ⟨rfl,fun j hj=>by omega⟩) (fun k x hk hx=>by
   have hd:=G.d0 k hk
   have ho:=G.o
   have hb:=G.b
   have ht:=G.t
   have hll:=G.len _ (wAe (l:=p.Race.Times) (k:=k) (by omega))
   simp only [wTa]
   rw [wAm hk,nA,wAm (by omega),nA,wAU (by omega) (by omega)]
   have skip:¬ Lp p d time k->ByP p d time (k + 1) x:=fun hno=>by
    rcases hx with ⟨h1,h2⟩ | ⟨j,h1,h2,h3,h4⟩
    ·exact .inl ⟨h1,fun j hj=>by
      by_cases e:j=k
      ·exact e ▸ hno
      ·exact h2 j (by omega)⟩
    ·exact .inr ⟨j,h1,by omega,h3,fun i hi hL=>by
      by_cases e:i=k
      ·exact absurd (e ▸ hL) hno
      ·exact h4 i (by omega) hL⟩
   by_cases c1:gd p.out k=true
   ·rw [if_pos c1]
    exact ⟨x,rfl,skip fun h=>by have:=h.2.1;rw [c1] at this;exact kC this⟩
   rw [if_neg c1]
   by_cases c2:d + 2 <= gd p.done k
   ·have e1:(gd p.done k) - 1=((((gd p.done k) - 1).toNat:Nat):Int):=by omega
    rw [if_pos c2,wAm (by omega),nA,wAU (by omega) (by omega),e1,wAm (by omega),nA]
    by_cases c3:gd (gd p.Race.Times k) ((gd p.done k) - 1).toNat=time
    ·have hL:Lp p d time k:=⟨hk,by simpa using c1,c2,c3⟩
     rw [if_pos c3]
     rcases hx with ⟨h1,h2⟩ | ⟨j,h1,h2,h3,h4⟩
     ·rw [if_pos (by omega)]
      exact ⟨_,rfl,.inr ⟨k,rfl,by omega,hL,fun i hi hL'=>by
       by_cases e:i=k
       ·subst e;exact nS _
       ·exact absurd hL' (h2 i (by omega))⟩⟩
     ·subst h1
      rw [if_neg (by omega),wAm (by omega),nA,wAm (by omega),nA]
      by_cases c4:gd p.Race.Bibs k < gd p.Race.Bibs j
      ·rw [if_pos c4]
       exact ⟨_,rfl,.inr ⟨k,rfl,by omega,hL,fun i hi hL'=>by
        by_cases e:i=k
        ·subst e;exact nS _
        ·have:=h4 i (by omega) hL'
         omega⟩⟩
      ·rw [if_neg c4]
       exact ⟨_,rfl,.inr ⟨j,rfl,by omega,h3,fun i hi hL'=>by
        by_cases e:i=k
        ·subst e;omega
        ·exact h4 i (by omega) hL'⟩⟩
    ·rw [if_neg c3]
     exact ⟨x,rfl,skip fun h=>c3 h.2.2.2⟩
   ·rw [if_neg c2]
    exact ⟨x,rfl,skip fun h=>c2 h.2.2.1⟩)
 rw [e,nA]
 exact ⟨x,rfl,hx⟩
end Go.Proofs.YtglpalgiipahjaaGreat
namespace Go.Proofs.YtglpalgiipahjaaGreat
open Go.KL
def nx (p:wAI) (t:Int) (i:Nat):Int:=if gd p.out i=false/\gd p.done i < (gd p.Race.Times i).length/\gd (gd p.Race.Times i) (gd p.done i).toNat=t then gd p.done i + 1 else gd p.done i
def st1 (p0:wAI) (p1:Int):Nat->List Int->Option (List Int):=fun k10 l9 =>
  (idx p0.Race.Times (↑k10:Int)).bind fun x33 =>
  (chk (↑k10:Int) l9.length).bind fun _ =>
  (chk (↑k10:Int) p0.out.length).bind fun _ =>
  if (gd p0.out k10)=true then
   some l9
  else
   if (gd l9 k10) < (↑x33.length:Int) then
    (idx x33 (gd l9 k10)).bind fun x62 =>
    if x62=p1 then
     some (nK l9 k10 (w64 ((gd l9 k10) + 1)))
    else
     some l9
   else
    some l9
def st2 (p0:wAI) (p1:Int) (y15:List Int):Nat->List Int->Option (List Int):=fun k121 l117 =>
  (chk (↑k121:Int) y15.length).bind fun _ =>
  (chk (↑k121:Int) p0.out.length).bind fun _ =>
  if (gd p0.out k121)=true then
   some l117
  else
   (wBG (⟨p0.Race,y15,p0.out⟩:wAI) (↑k121:Int) (gd y15 k121) p1).bind fun x193 =>
   if 0 <= x193 then
    (app 8 l117 [(↑k121:Int)]).bind fun x222 =>
    some x222
   else
    some l117
theorem wMT (p0:wAI) (p1:Int):wBH p0 p1=(wCG 0 (↑p0.Race.Times.length:Int) (st1 p0 p1) p0.done).bind fun y =>
 (wCG 0 (↑y.length:Int) (st2 p0 p1 y) []).bind fun z=>some (z,(⟨p0.Race,y,p0.out⟩:wAI)):=rfl
theorem wVF {p:wAI} (G:wLN p) (t:Int):∃ y,wCG 0 (↑p.Race.Times.length:Int) (st1 p t) p.done=some y/\y.length=p.done.length/\∀ i,i < p.done.length->gd y i=nx p t i:=by
 have hn:=G.n
 have ho:=G.o
 have ht:=G.t
 obtain ⟨y,e,h1,h2⟩:=wDr (body:=st1 p t) (n:=p.Race.Times.length) (s0:=p.done) (fun k y=>y.length=p.done.length/\∀ i,i < p.done.length->gd y i=if i < k then nx p t i else gd p.done i) (by omega) ⟨rfl,fun i _=>by rw [if_neg (by omega)]⟩ (fun k y hk ⟨h1,h2⟩=>by
  have hk':k < p.done.length:=by omega
  have hd:=G.d0 k hk'
  have hll:=G.len _ (wAe (l:=p.Race.Times) (k:=k) hk)
  have hyk:gd y k=gd p.done k:=by rw [h2 k hk',if_neg (by omega)]
  have keep:nx p t k=gd p.done k->∀ i,i < p.done.length->gd y i=if i < k + 1 then nx p t i else gd p.done i:=fun e i hi=>by
   rw [h2 i hi]
   by_cases c:i=k
   ·subst c
    rw [if_neg (by omega),if_pos (by omega),e]
   ·by_cases c2:i < k
    ·rw [if_pos c2,if_pos (by omega)]
    ·rw [if_neg c2,if_neg (by omega)]
  unfold st1
  rw [wAm hk,nA,wDX (by omega) (by omega),nA,wDX (by omega) (by omega),nA,hyk]
  by_cases c1:gd p.out k=true
  ·rw [if_pos c1]
   exact ⟨y,rfl,h1,keep (if_neg (fun h=>by rw [c1] at h;exact kC h.1))⟩
  have c1':gd p.out k=false:=by simpa using c1
  rw [if_neg c1]
  by_cases c2:gd p.done k < ((gd p.Race.Times k).length:Int)
  ·have e1:idx (gd p.Race.Times k) (gd p.done k)=some (gd (gd p.Race.Times k) (gd p.done k).toNat):=by
    unfold idx
    rw [if_pos hd.1,wCH (by omega)]
   rw [if_pos c2,e1,nA]
   by_cases c3:gd (gd p.Race.Times k) (gd p.done k).toNat=t
   ·have en:nx p t k=gd p.done k + 1:=if_pos ⟨c1',c2,c3⟩
    rw [if_pos c3,wAU (by omega) (by omega)]
    refine ⟨_,rfl,by simpa using h1,fun i hi=>?_⟩
    rw [wSN (by omega) (by omega)]
    by_cases c:i=k
    ·subst c
     rw [if_pos rfl,if_pos (by omega),en]
    ·rw [if_neg c,h2 i hi]
     by_cases c4:i < k
     ·rw [if_pos c4,if_pos (by omega)]
     ·rw [if_neg c4,if_neg (by omega)]
   ·rw [if_neg c3]
    exact ⟨y,rfl,h1,keep (if_neg (fun h=>c3 h.2.2))⟩
  ·rw [if_neg c2]
   exact ⟨y,rfl,h1,keep (if_neg (fun h=>c2 h.2.1))⟩)
 exact ⟨y,e,h1,fun i hi=>by rw [h2 i hi,if_pos (by omega)]⟩
theorem nx_le {p:wAI} (G:wLN p) (t:Int) {i:Nat} (hi:i < p.done.length):0 <= nx p t i/\nx p t i <= (gd p.Race.Times i).length:=by
 have:=G.d0 i hi
 unfold nx
 split <;> omega
theorem wTh {p:wAI} (G:wLN p) (t:Int):∃ z y,wBH p t=some (z,(⟨p.Race,y,p.out⟩:wAI))/\y.length=p.done.length/\(∀ i,i < p.done.length->gd y i=nx p t i)/\wLN (⟨p.Race,y,p.out⟩:wAI) /\
  z.Pairwise (· < ·)/\∀ x,x ∈ z ↔ ∃ i:Nat,x=i/\i < p.done.length/\gd p.out i=false/\∃ j,Lp (⟨p.Race,y,p.out⟩:wAI) (gd y i) t j:=by
 rw [wMT]
 have hn:=G.n
 obtain ⟨y,e,h1,h2⟩:=wVF G t
 rw [e,nA]
 have G':wLN (⟨p.Race,y,p.out⟩:wAI):=⟨by show y.length <= 60;omega,by show p.out.length=y.length;rw [h1];exact G.o,by show p.Race.Bibs.length=y.length;rw [h1];exact G.b,by show p.Race.Times.length=y.length;rw [h1];exact G.t,fun i hi=>by
  have hi':i < p.done.length:=by rw [<- h1];exact hi
  show 0 <= gd y i/\gd y i <= _
  rw [h2 i hi']
  exact nx_le G t hi',G.len⟩
 obtain ⟨z,ez,z1,z2⟩:=wDr (body:=st2 p t y) (n:=y.length) (s0:=[]) (fun k z=>z.Pairwise (· < ·)/\∀ x,x ∈ z ↔ ∃ i:Nat,x=i/\i < k/\gd p.out i=false/\∃ j,Lp (⟨p.Race,y,p.out⟩:wAI) (gd y i) t j) (by omega) ⟨List.Pairwise.nil,fun x=>by simp⟩ (fun k z hk ⟨z1,z2⟩=>by
  have hk':k < p.done.length:=by omega
  have ho:=G.o
  have hyk:=G'.d0 k hk
  have hll:=G.len _ (wAe (l:=p.Race.Times) (k:=k) (by have:=G.t;omega))
  have hzl:z.length <= k:=by
   have hsub:∀ x ∈ z,0 <= x/\x < k:=fun x hx=>by
    obtain ⟨i,rfl,hi,_⟩:=(z2 x).1 hx
    omega
   rcases nh k z.length with c | c
   ·exfalso
    have key:∀ (m:Nat),m < z.length->(m:Int) <= gd z m:=by
     intro m
     induction m with
     | zero=>intro hm;exact (hsub _ (wAe hm)).1
     | succ m ih =>
      intro hm
      have h3:=ih (by omega)
      have h4:=nB.1 z1 m (m + 1) (by omega) hm (by omega)
      rw [<- wCa (by omega),<- wCa hm] at h4
      omega
    have h5:=key k c
    have h6:=(hsub _ (wAe c)).2
    omega
   ·exact c
  have skip:¬ (gd p.out k=false/\∃ j,Lp (⟨p.Race,y,p.out⟩:wAI) (gd y k) t j)->∀ x,x ∈ z ↔ ∃ i:Nat,x=i/\i < k + 1/\gd p.out i=false/\∃ j,Lp (⟨p.Race,y,p.out⟩:wAI) (gd y i) t j:=fun hno x=>by
   rw [z2]
   constructor
   ·rintro ⟨i,h1,h2,h3⟩
    exact ⟨i,h1,by omega,h3⟩
   ·rintro ⟨i,h1,h2,h3⟩
    by_cases c:i=k
    ·exact absurd (c ▸ h3) hno
    ·exact ⟨i,h1,by omega,h3⟩
  unfold st2
  rw [wDX (by omega) (by omega),nA,wDX (by omega) (by omega),nA]
  by_cases c1:gd p.out k=true
  ·rw [if_pos c1]
   exact ⟨z,rfl,z1,skip (fun h=>by have:=h.1;rw [c1] at this;exact kC this)⟩
  have c1':gd p.out k=false:=by simpa using c1
  obtain ⟨x,ex,hx⟩:=wVE G' (k:Int) (gd y k) t hyk.1 (by
   have:=hyk.2
   simp only at this
   omega)
  rw [if_neg c1,ex,nA]
  rcases hx with ⟨h3,h4⟩ | ⟨j,h3,h4,h5,_⟩
  ·rw [if_neg (by omega)]
   exact ⟨z,rfl,z1,skip (fun h=>by obtain ⟨_,j,hj⟩:=h;exact h4 j hj.1 hj)⟩
  ·rw [if_pos (by omega),wCw (by simp;omega),nA]
   refine ⟨_,rfl,?_,fun x=>?_⟩
   ·rw [kG]
    refine ⟨z1,kX _ _,fun a ha b hb=>?_⟩
    obtain ⟨i,rfl,hi,_⟩:=(z2 a).1 ha
    have:=nT.1 hb
    omega
   ·rw [nO,z2,nT]
    constructor
    ·rintro (⟨i,h1,h2,h3⟩ | h)
     ·exact ⟨i,h1,by omega,h3⟩
     ·exact ⟨k,h,by omega,c1',j,h5⟩
    ·rintro ⟨i,h1,h2,h3⟩
     by_cases c:i=k
     ·exact .inr (by rw [h1,c])
     ·exact .inl ⟨i,h1,by omega,h3⟩)
 rw [ez,nA]
 refine ⟨z,y,rfl,h1,h2,G',z1,fun x=>?_⟩
 rw [z2,h1]
end Go.Proofs.YtglpalgiipahjaaGreat
namespace Go.Proofs.YtglpalgiipahjaaGreat
open Go.KL
def rA (p:wAI) (z:List Int) (t:Int) (k1191:Nat) (l1188:List wAD):Option (List wAD) :=
      (chk (↑k1191:Int) z.length).bind fun _ =>
      (idx p.Race.Bibs (gd z k1191)).bind fun x1222 =>
      (chk (gd z k1191) p.done.length).bind fun _ =>
      (wBG p (gd z k1191) (gd p.done (gd z k1191).toNat) t).bind fun x1264 =>
      (idx p.Race.Bibs x1264).bind fun x1286 =>
      (app 32 l1188 [(⟨x1222,(gd p.done (gd z k1191).toNat),t,x1286⟩:wAD)]).bind fun x1299 =>
      some x1299
def rO (z:List Int) (k1338:Nat) (l1337:List Bool):Option (List Bool) :=
      (chk (↑k1338:Int) z.length).bind fun _ =>
      (chk (gd z k1338) l1337.length).bind fun _ =>
      some (nK l1337 (gd z k1338).toNat true)
abbrev RS:=(List wAD) × Int × (List Int) × (List (List Int)) × (List Int) × (List Bool)
def rB:RS->Int->Option (RS ⊕ Empty)
 | (l1081,x1085,l1086,l1089,l1092,l1095),x1124 =>
  (wBH (⟨(⟨x1085,l1086,l1089⟩:wAM),l1092,l1095⟩:wAI) x1124).bind fun (x1150,x1151) =>
  (wCG 0 (↑x1150.length:Int) (rA x1151 x1150 x1124) l1081).bind fun y1196 =>
  (wCG 0 (↑x1150.length:Int) (rO x1150) x1151.out).bind fun y1343 =>
  some (.inl (y1196,x1151.Race.Laps,x1151.Race.Bibs,x1151.Race.Times,x1151.done,y1343))
theorem wOF (p0:wAM):wCl p0=((mkz 8 (↑p0.Bibs.length:Int) (0:Int)).bind fun x18 =>
 (mkz 1 (↑p0.Bibs.length:Int) false).bind fun x26 =>
 some (x18,x26)).bind fun (l9,l12) =>
 (wCC p0).bind fun x520 =>
 (wBA (S:=RS) (E:=Empty) rB ([],p0.Laps,p0.Bibs,p0.Times,l9,l12) x520).bind fun rr1118 =>
 match rr1118 with
 | .inl (y1416,y1417,y1418,y1419,y1420,y1421) =>
  (wAv y1416 (fun x=>wBD x.1 x.2)).bind fun x1438 =>
  some ((⟨(⟨y1417,y1418,y1419⟩:wAM),y1420,y1421⟩:wAI),x1438)
 | .inr e1432 =>
  e1432.elim:=rfl
theorem wQO {S:Type} {f:S->Int->Option (S ⊕ Empty)} {L:List Int} (I:Nat->S->Prop) {s0:S} (hL:L.length <= 1000000) (h0:I 0 s0) (h:∀ k s,k < L.length->I k s->∃ s',f s (gd L k)=some (.inl s')/\I (k + 1) s'):∃ s',wBA f s0 L=some (.inl s')/\I L.length s':=by
 unfold wBA
 rw [wDe (by omega)]
 have key:∀ body:Nat->S->Option (S ⊕ (S ⊕ Empty)),(∀ k s,k < L.length->I k s->∃ s',body k s=some (.inl s')/\I (k + 1) s')->∃ s',jn (forN body L.length 0 s0) (fun y:S=>some (Sum.inl y:S ⊕ Empty))=some (.inl s')/\I L.length s':=by
  intro body hb
  rcases wKR (body:=body) I (fun _=>False) L.length 0 s0 h0 (fun k s _ hk hI=>.inl (hb k s (by omega) hI)) with ⟨s',e,hs⟩ | ⟨_,_,h⟩
  ·rw [kH] at hs
   exact ⟨s',by rw [e];rfl,hs⟩
  ·exact h.elim
 refine key _ fun k s hk hI=>?_
 obtain ⟨s',e,hs⟩:=h k s hk hI
 refine ⟨s',?_,hs⟩
 rw [wAm hk,nA,e];rfl
structure wIt (r:wAM):Prop where
 n:r.Bibs.length <= 60
 t:r.Times.length=r.Bibs.length
 len:∀ l ∈ r.Times,l.length <= 20
 inc:∀ l ∈ r.Times,l.Pairwise (· < ·)
 pos:∀ l ∈ r.Times,∀ x ∈ l,0 <= x/\x <= 360000
 one:r.Bibs.Nodup
def nbf (τ:Nat->Option Int) (i:Nat) (t:Int):Prop:=∀ s,τ i=some s->t <= s
def lap (r:wAM) (τ:Nat->Option Int) (i:Nat) (t:Int) (j:Nat):Prop :=
 j < r.Bibs.length/\nbf τ j t/\t ∈ gd r.Times j/\cn (gd r.Times i) t + 2 <= cn (gd r.Times j) t
structure Exact (r:wAM) (ts:List Int) (τ:Nat->Option Int):Prop where
 in_:∀ i s,i < r.Bibs.length->τ i=some s->s ∈ ts
 iff:∀ i,i < r.Bibs.length->∀ t ∈ ts,nbf τ i t->(τ i=some t ↔ ∃ j,lap r τ i t j)
structure Ent (r:wAM) (τ:Nat->Option Int) (i:Nat) (o:wAD):Prop where
 bib:o.Bib=gd r.Bibs i
 time:τ i=some o.Time
 done:o.Done=cn (gd r.Times i) o.Time
 by_:∃ j,o.By=gd r.Bibs j/\lap r τ i o.Time j/\∀ k,lap r τ i o.Time k->gd r.Bibs j <= gd r.Bibs k
structure Ents (r:wAM) (τ:Nat->Option Int) (a:List wAD):Prop where
 of:∀ o ∈ a,∃ i,i < r.Bibs.length/\Ent r τ i o
 all:∀ i,i < r.Bibs.length->τ i ≠ none->∃ o ∈ a,o.Bib=gd r.Bibs i
 one:(a.map (·.Bib)).Nodup
def wHM (L:List Int) (k:Nat):Int:=if k=0 then -1 else gd L (k - 1)
structure RInv (r:wAM) (L:List Int) (k:Nat) (s:RS):Prop where
 laps:s.2.1=r.Laps
 bibs:s.2.2.1=r.Bibs
 times:s.2.2.2.1=r.Times
 dl:s.2.2.2.2.1.length=r.Bibs.length
 ol:s.2.2.2.2.2.length=r.Bibs.length
 al:s.1.length <= 60 * k
 tau:∃ τ,(∀ i,i < r.Bibs.length->gd s.2.2.2.2.2 i=(τ i).isSome)/\(∀ i,i < r.Bibs.length->gd s.2.2.2.2.1 i=cn (gd r.Times i) ((τ i).getD (wHM L k)))/\Exact r (L.take k) τ/\Ents r τ s.1
theorem wKW {r:wAM} (G:wIt r) {i j:Nat} (hi:i < r.Bibs.length) (hj:j < r.Bibs.length) (e:gd r.Bibs i=gd r.Bibs j):i=j:=by
 have pw:=nB.1 (nI.1 G.one)
 rw [wCa hi,wCa hj] at e
 rcases nw i j with c | c | c
 ·exact absurd e (pw i j hi hj c)
 ·exact c
 ·exact absurd e.symm (pw j i hj hi c)
theorem wMU {τ τ':Nat->Option Int} {t u:Int} {z:Nat->Prop} (h1:∀ i,z i->τ' i=some t/\τ i=none) (h2:∀ i,¬ z i->τ' i=τ i) (hu:u <= t) (i:Nat):nbf τ' i u ↔ nbf τ i u:=by
 by_cases c:z i
 ·obtain ⟨a,b⟩:=h1 i c
  unfold nbf
  constructor
  ·intro _ s hs;rw [b] at hs;cases hs
  ·intro _ s hs;rw [a] at hs;cases hs;exact hu
 ·unfold nbf;rw [h2 i c]
theorem wHN {r:wAM} {τ τ':Nat->Option Int} {t u:Int} {z:Nat->Prop} (h1:∀ i,z i->τ' i=some t/\τ i=none) (h2:∀ i,¬ z i->τ' i=τ i) (hu:u <= t) (i j:Nat):lap r τ' i u j ↔ lap r τ i u j:=by
 unfold lap
 rw [wMU h1 h2 hu]
theorem rA_is {r:wAM} (G:wIt r) {τ:Nat->Option Int} {p:wAI} (hp:wLN p) (hr:p.Race=r) {t:Int} {z:List Int} (hz:∀ x ∈ z,∃ i:Nat,x=i/\i < r.Bibs.length/\(∃ j,Lp p (gd p.done i) t j))
  (hL:∀ i j,i < r.Bibs.length->gd p.out i=false->(Lp p (gd p.done i) t j ↔ lap r τ i t j)) (ho:∀ x ∈ z,∀ i:Nat,x=i->gd p.out i=false) (hd:∀ i,i < r.Bibs.length->gd p.out i=false->gd p.done i=cn (gd r.Times i) t)
  (hzl:z.length <= 60) {a:List wAD} (ha:a.length <= 100000):∃ e,wCG 0 (↑z.length:Int) (rA p z t) a=some (a ++ e)/\e.length=z.length/\∀ q,q < z.length->(gd e q).Bib=gd r.Bibs (gd z q).toNat/\(gd e q).Time=t/\(gd e q).Done=cn (gd r.Times (gd z q).toNat) t/\∃ j,(gd e q).By=gd r.Bibs j/\lap r τ (gd z q).toNat t j/\∀ k,lap r τ (gd z q).toNat t k->gd r.Bibs j <= gd r.Bibs k:=by
 have hb:=hp.b
 obtain ⟨s,e,es,h1,h2,h3⟩:=wDr (body:=rA p z t) (n:=z.length) (s0:=a) (fun k s=>∃ e,s=a ++ e/\e.length=k/\∀ q,q < k->(gd e q).Bib=gd r.Bibs (gd z q).toNat/\(gd e q).Time=t/\(gd e q).Done=cn (gd r.Times (gd z q).toNat) t/\∃ j,(gd e q).By=gd r.Bibs j/\lap r τ (gd z q).toNat t j/\∀ k,lap r τ (gd z q).toNat t k->gd r.Bibs j <= gd r.Bibs k) (by omega) ⟨[],by simp,rfl,fun q hq=>by omega⟩ (fun k s hk ⟨e,hs,h2,h3⟩=>by
  obtain ⟨i,hi,hi2,j0,hj0⟩:=hz _ (wAe hk)
  have hout:=ho _ (wAe hk) i hi
  have hpd:=hp.d0 i (by rw [<- hb,hr];exact hi2)
  have hll:=hp.len _ (wAe (l:=p.Race.Times) (k:=i) (by have:=hp.t;rw [this,<- hb,hr];exact hi2))
  have hdn:=hd i hi2 hout
  rw [hr] at hb
  unfold rA
  rw [wDX (by omega) (by omega),nA,hi,hr,wAm hi2,nA,wDX (by omega) (by omega),nA,nL]
  obtain ⟨x,ex,hx⟩:=wVE hp (i:Int) (gd p.done i) t hpd.1 (by omega)
  rw [ex,nA]
  rcases hx with ⟨_,h5⟩ | ⟨j,h4,h5,h6,h7⟩
  ·exact absurd hj0 (h5 j0 hj0.1)
  ·subst h4
   have hj:j < r.Bibs.length:=by rw [hb];exact h5
   rw [wAm hj,nA,wCw (by rw [hs];simp;omega),nA]
   refine ⟨_,rfl,e ++ [⟨gd r.Bibs i,gd p.done i,t,gd r.Bibs j⟩],by rw [hs,nu],by simp [h2],fun q hq=>?_⟩
   by_cases c:q=k
   ·subst c
    have eg:gd (e ++ [(⟨gd r.Bibs i,gd p.done i,t,gd r.Bibs j⟩:wAD)]) q=⟨gd r.Bibs i,gd p.done i,t,gd r.Bibs j⟩:=by rw [<- h2,wNI]
    rw [eg,hi,nL]
    refine ⟨rfl,rfl,hdn,j,rfl,(hL i j hi2 hout).1 h6,fun k hk=>?_⟩
    have hk2:=(hL i k hi2 hout).2 hk
    rw [hr] at h7
    exact h7 k hk2.1 hk2
   ·rw [wGq (by omega)]
    exact h3 q (by omega))
 exact ⟨es,by rw [e,h1],h2,h3⟩
theorem rO_is {z:List Int} {n:Nat} (hz:∀ x ∈ z,0 <= x/\x < n) (hzl:z.length <= 60) {o:List Bool} (ho:o.length=n):∃ o',wCG 0 (↑z.length:Int) (rO z) o=some o'/\o'.length=n/\∀ i:Nat,i < n->gd o' i=if (i:Int) ∈ z then true else gd o i:=by
 obtain ⟨o',e,h1,h2⟩:=wDr (body:=rO z) (n:=z.length) (s0:=o) (fun k o'=>o'.length=n/\∀ i:Nat,i < n->gd o' i=if (i:Int) ∈ z.take k then true else gd o i) (by omega) ⟨ho,fun i _=>by simp⟩ (fun k s hk ⟨h1,h2⟩=>by
  have hr:=hz _ (wAe hk)
  unfold rO
  rw [wDX (by omega) (by omega),nA,wDX (by omega) (by omega),nA]
  refine ⟨_,rfl,by simpa using h1,fun i hi=>?_⟩
  rw [wSN (by omega) (by omega),h2 i hi,wDE hk]
  by_cases c:i=(gd z k).toNat
  ·rw [if_pos c,if_pos (by rw [nO,nT];right;omega)]
  ·rw [if_neg c]
   have:((i:Int) ∈ z.take k ++ [gd z k]) ↔ (i:Int) ∈ z.take k:=by
    rw [nO,nT]
    exact ⟨fun h=>h.elim id fun h=>absurd h (by omega),.inl⟩
   simp only [this])
 exact ⟨o',e,h1,fun i hi=>by rw [h2 i hi,nH]⟩
end Go.Proofs.YtglpalgiipahjaaGreat
namespace Go.Proofs.YtglpalgiipahjaaGreat
open Go.KL
structure Times (r:wAM) (L:List Int):Prop where
 inc:L.Pairwise (· < ·)
 all:∀ x,x ∈ L ↔ ∃ l ∈ r.Times,x ∈ l
 len:L.length <= 1200
theorem wTi {L:List Int} (hL:L.Pairwise (· < ·)) (h0:∀ x ∈ L,0 <= x) {k:Nat} (hk:k < L.length):wHM L k < gd L k/\(∀ x ∈ L.take k,x <= wHM L k/\x < gd L k)/\∀ x ∈ L,wHM L k < x->gd L k <= x:=by
 have mono:∀ i j,i < j->j < L.length->gd L i < gd L j:=fun i j hij hj=>by
  have:=nB.1 hL i j (by omega) hj hij
  rwa [<- wCa (by omega),<- wCa hj] at this
 have le:∀ i j,i <= j->j < L.length->gd L i <= gd L j:=fun i j hij hj=>by
  by_cases e:i=j
  ·subst e;exact nS _
  ·exact kU (mono i j (by omega) hj)
 unfold wHM
 refine ⟨?_,fun x hx=>?_,fun x hx hlt=>?_⟩
 ·split
  ·have:=h0 _ (wAe hk);omega
  ·exact mono _ _ (by omega) hk
 ·obtain ⟨i,hi,e⟩:=nE hx
  rw [nR] at hi
  rw [aA,<- wCa (by omega)] at e
  subst e
  rw [if_neg (by omega)]
  exact ⟨le _ _ (by omega) (by omega),mono _ _ (by omega) hk⟩
 ·obtain ⟨i,hi,e⟩:=nE hx
  rw [<- wCa hi] at e
  subst e
  rcases nh i k with c | c
  ·exfalso
   rw [if_neg (by omega)] at hlt
   have:=le i (k - 1) (by omega) (by omega)
   omega
  ·exact le _ _ c hi
theorem wRU {r:wAM} (G:wIt r) {L:List Int} (hT:Times r L) {k:Nat} (hk:k < L.length) {s:RS} (I:RInv r L k s):∃ s',rB s (gd L k)=some (.inl s')/\RInv r L (k + 1) s':=by
 obtain ⟨A,laps,bibs,times,done,out⟩:=s
 obtain ⟨e1,e2,e3,dl,ol,al,τ,to,td,tx,te⟩:=I
 simp only at e1 e2 e3 dl ol al to td te
 subst e1 e2 e3
 have hn:=G.n
 have hrt:=G.t
 have hpos:∀ x ∈ L,0 <= x:=fun x hx=>by
  obtain ⟨l,hl,hx⟩:=(hT.all x).1 hx
  exact (G.pos l hl x hx).1
 obtain ⟨lt1,lt2,lt3⟩:=wTi hT.inc hpos hk
 have hkl:=hT.len
 generalize ht:gd L k=t at lt1 lt2 lt3 ⊢
 have tin:∀ i,i < r.Bibs.length->gd r.Times i ∈ r.Times:=fun i hi=>wAe (by omega)
 let p:wAI:=⟨r,done,out⟩
 have Gp:wLN p:=⟨by show done.length <= 60;omega,by show out.length=done.length;omega,by show r.Bibs.length=done.length;omega,by show r.Times.length=done.length;omega,fun i hi=>by
  have hi':i < r.Bibs.length:=by rw [<- dl];exact hi
  show 0 <= gd done i/\gd done i <= ((gd r.Times i).length:Int)
  rw [td i hi']
  have:=wOE (gd r.Times i) ((τ i).getD (wHM L k))
  omega,fun l hl=>by have:=G.len l hl;omega⟩
 obtain ⟨z,y,ez,yl,yn,Gy,zp,zi⟩:=wTh Gp t
 have yl':y.length=r.Bibs.length:=by rw [yl];exact dl
 have outN:∀ i,i < r.Bibs.length->(gd out i=false ↔ τ i=none):=fun i hi=>by
  rw [to i hi]
  cases τ i <;> simp
 have yv:∀ i,i < r.Bibs.length->gd y i=cn (gd r.Times i) ((τ i).getD t):=fun i hi=>by
  have h1:=yn i (by rw [dl];exact hi)
  rw [h1]
  unfold nx
  show (if gd out i=false/\gd done i < ((gd r.Times i).length:Int)/\gd (gd r.Times i) (gd done i).toNat=t then gd done i + 1 else gd done i)=_
  cases hτ:τ i with
  | some s =>
   have ho:gd out i=true:=by rw [to i hi,hτ];rfl
   rw [if_neg (fun h=>by rw [ho] at h;exact kC h.1),td i hi,hτ]
   rfl
  | none =>
   have ho:gd out i=false:=(outN i hi).2 hτ
   have hd:=td i hi
   rw [hτ] at hd
   simp only [kV] at hd ⊢
   rw [wTg (G.inc _ (tin i hi)) lt1 (fun x hx hlt=>lt3 x ((hT.all x).2 ⟨_,tin i hi,hx⟩) hlt),hd]
   by_cases c:cn (gd r.Times i) (wHM L k) < (gd r.Times i).length/\gd (gd r.Times i) (cn (gd r.Times i) (wHM L k))=t
   ·rw [if_pos c,if_pos ⟨ho,by omega,by rw [nL];exact c.2⟩]
    omega
   ·rw [if_neg c,if_neg (fun h=>c ⟨by omega,by have:=h.2.2;rwa [nL] at this⟩)]
 have nbN:∀ j,j < r.Bibs.length->(nbf τ j t ↔ τ j=none):=fun j hj=>by
  constructor
  ·intro h
   cases hτ:τ j with
   | none=>rfl
   | some s =>
    have h1:=h s hτ
    have h2:=lt2 s (tx.in_ j s hj hτ)
    omega
  ·intro h s hs;rw [h] at hs;cases hs
 have lapN:∀ i j,i < r.Bibs.length->gd out i=false->(Lp (⟨r,y,out⟩:wAI) (gd y i) t j ↔ lap r τ i t j):=fun i j hi ho=>by
  have yi:gd y i=cn (gd r.Times i) t:=by rw [yv i hi,(outN i hi).1 ho];rfl
  unfold Lp lap
  show (j < y.length/\gd out j=false/\gd y i + 2 <= gd y j/\gd (gd r.Times j) (gd y j - 1).toNat=t) ↔ _
  rw [yl']
  constructor
  ·rintro ⟨hj,h1,h2,h3⟩
   have hτ:=(outN j hj).1 h1
   have yj:gd y j=cn (gd r.Times j) t:=by rw [yv j hj,hτ];rfl
   rw [yi,yj] at h2
   rw [yj] at h3
   have hle:=wOE (gd r.Times j) t
   refine ⟨hj,(nbN j hj).2 hτ,?_,by omega⟩
   have hm:=wAe (l:=gd r.Times j) (k:=((cn (gd r.Times j) t:Nat) - 1:Int).toNat) (by omega)
   rwa [h3] at hm
  ·rintro ⟨hj,h1,h2,h3⟩
   have hτ:=(nbN j hj).1 h1
   have yj:gd y j=cn (gd r.Times j) t:=by rw [yv j hj,hτ];rfl
   obtain ⟨c1,c2,c3⟩:=wVD (G.inc _ (tin j hj)) h2
   refine ⟨hj,(outN j hj).2 hτ,by rw [yi,yj];omega,?_⟩
   rw [yj,show (((cn (gd r.Times j) t:Nat):Int) - 1).toNat=cn (gd r.Times j) t - 1 by omega]
   exact c3
 have zin:∀ x,x ∈ z ↔ ∃ i:Nat,x=i/\i < r.Bibs.length/\τ i=none/\∃ j,lap r τ i t j:=fun x=>by
  rw [zi]
  constructor
  ·rintro ⟨i,h1,h2,h3,j,h4⟩
   have hi:i < r.Bibs.length:=by rw [<- dl];exact h2
   exact ⟨i,h1,hi,(outN i hi).1 h3,j,(lapN i j hi h3).1 h4⟩
  ·rintro ⟨i,h1,hi,h3,j,h4⟩
   exact ⟨i,h1,by rw [<- dl] at hi;exact hi,(outN i hi).2 h3,j,(lapN i j hi ((outN i hi).2 h3)).2 h4⟩
 have zl:z.length <= 60:=by
  have key:∀ m,m < z.length->(m:Int) <= gd z m:=by
   intro m
   induction m with
   | zero =>
    intro hm
    obtain ⟨i,h1,_⟩:=(zin _).1 (wAe hm)
    omega
   | succ m ih =>
    intro hm
    have h3:=ih (by omega)
    have h4:=nB.1 zp m (m + 1) (by omega) hm (by omega)
    rw [<- wCa (by omega),<- wCa hm] at h4
    omega
  rcases nh 60 z.length with c | c
  ·have h5:=key 60 c
   obtain ⟨i,h1,h2,_⟩:=(zin _).1 (wAe c)
   omega
  ·exact c
 obtain ⟨E,eE,El,Ee⟩:=rA_is (τ:=τ) G (p:=⟨r,y,out⟩) Gy rfl (t:=t) (z:=z) (fun x hx=>by
   obtain ⟨i,h1,h2,h3,j,h4⟩:=(zin x).1 hx
   exact ⟨i,h1,h2,j,(lapN i j h2 ((outN i h2).2 h3)).2 h4⟩) lapN (fun x hx i hi=>by
   obtain ⟨i',h1,h2,h3,_⟩:=(zin x).1 hx
   have:i=i':=by omega
   subst this
   exact (outN i h2).2 h3) (fun i hi ho=>by
   show gd y i=_
   rw [yv i hi,(outN i hi).1 ho];rfl) zl (a:=A) (by omega)
 obtain ⟨o',eo,ol',oi⟩:=rO_is (n:=r.Bibs.length) (z:=z) (fun x hx=>by
  obtain ⟨i,h1,h2,_⟩:=(zin x).1 hx
  omega) zl (o:=out) ol
 have er:rB (A,r.Laps,r.Bibs,r.Times,done,out) t=some (.inl (A ++ E,r.Laps,r.Bibs,r.Times,y,o')):=by
  unfold rB
  simp only
  rw [show wBH (⟨(⟨r.Laps,r.Bibs,r.Times⟩:wAM),done,out⟩:wAI) t=some (z,(⟨r,y,out⟩:wAI)) from ez,nA]
  simp only
  rw [eE,nA,eo,nA]
 obtain ⟨τ',hτ1,hτ2⟩:∃ τ':Nat->Option Int,(∀ i:Nat,(i:Int) ∈ z->τ' i=some t)/\∀ i:Nat,¬ (i:Int) ∈ z->τ' i=τ i:=⟨fun i=>if (i:Int) ∈ z then some t else τ i,fun i hi=>if_pos hi,fun i hi=>if_neg hi⟩
 refine ⟨_,er,rfl,rfl,rfl,yl',ol',by simp only [nM];omega,τ',fun i hi=>?_,fun i hi=>?_,?_,?_⟩
 ·simp only
  rw [oi i hi]
  by_cases c:(i:Int) ∈ z
  ·rw [if_pos c,hτ1 i c];rfl
  ·rw [if_neg c,hτ2 i c];exact to i hi
 ·simp only
  rw [yv i hi]
  have hl:wHM L (k + 1)=t:=by unfold wHM;rw [if_neg (by omega)];exact ht
  rw [hl]
  by_cases c:(i:Int) ∈ z
  ·rw [hτ1 i c]
   obtain ⟨i',h1,h2,h3,_⟩:=(zin _).1 c
   have:i=i':=by omega
   subst this
   rw [h3];rfl
  ·rw [hτ2 i c]
 ·
  have h1:∀ i:Nat,(i:Int) ∈ z->τ' i=some t/\τ i=none:=fun i hi=>by
   obtain ⟨i',h1,_,h3,_⟩:=(zin _).1 hi
   have:i=i':=by omega
   subst this
   exact ⟨hτ1 i hi,h3⟩
  have h2:∀ i:Nat,¬ (i:Int) ∈ z->τ' i=τ i:=hτ2
  have tk:∀ u,u ∈ L.take (k + 1) ↔ u ∈ L.take k \/ u=t:=fun u=>by rw [wDE hk,nO,nT,ht]
  refine ⟨fun i u hi hu=>?_,fun i hi u hu hnb=>?_⟩
  ·rw [tk]
   by_cases c:(i:Int) ∈ z
   ·have:=(h1 i c).1
    rw [this] at hu
    right
    exact (nQ hu).symm
   ·rw [h2 i c] at hu
    exact .inl (tx.in_ i u hi hu)
  ·rcases (tk u).1 hu with hu | hu
   ·have hut:=(lt2 u hu).2
    rw [wMU (z:=fun i:Nat=>(i:Int) ∈ z) h1 h2 (kU hut)] at hnb
    have:=tx.iff i hi u hu hnb
    simp only [wHN (r:=r) (z:=fun i:Nat=>(i:Int) ∈ z) h1 h2 (kU hut)]
    rw [<- this]
    by_cases c:(i:Int) ∈ z
    ·rw [(h1 i c).1,(h1 i c).2]
     exact ⟨fun h=>by have:=nQ h;omega,fun h=>by cases h⟩
    ·rw [h2 i c]
   ·subst hu
    rw [wMU (z:=fun i:Nat=>(i:Int) ∈ z) h1 h2 (nS _),nbN i hi] at hnb
    simp only [wHN (r:=r) (z:=fun i:Nat=>(i:Int) ∈ z) h1 h2 (nS _)]
    constructor
    ·intro h
     by_cases c:(i:Int) ∈ z
     ·obtain ⟨i',g1,_,_,g4⟩:=(zin _).1 c
      have:i=i':=by omega
      subst this
      exact g4
     ·rw [h2 i c,hnb] at h;cases h
    ·intro h
     exact (h1 i ((zin _).2 ⟨i,rfl,hi,hnb,h⟩)).1
 ·have h1:∀ i:Nat,(i:Int) ∈ z->τ' i=some t/\τ i=none:=fun i hi=>by
   obtain ⟨i',h1,_,h3,_⟩:=(zin _).1 hi
   have:i=i':=by omega
   subst this
   exact ⟨hτ1 i hi,h3⟩
  have h2:∀ i:Nat,¬ (i:Int) ∈ z->τ' i=τ i:=hτ2
  have hA:∀ o ∈ A,∃ i,i < r.Bibs.length/\Ent r τ i o/\¬ (i:Int) ∈ z/\o.Time <= t:=fun o ho=>by
   obtain ⟨i,hi,hE⟩:=te.of o ho
   refine ⟨i,hi,hE,fun c=>?_,kU (lt2 _ (tx.in_ i _ hi hE.time)).2⟩
   have:=(h1 i c).2
   rw [hE.time] at this
   cases this
  have hE:∀ q,q < z.length->∃ i:Nat,gd z q=i/\i < r.Bibs.length/\τ i=none/\(i:Int) ∈ z:=fun q hq=>by
   obtain ⟨i,g1,g2,g3,_⟩:=(zin _).1 (wAe hq)
   exact ⟨i,g1,g2,g3,g1 ▸ wAe hq⟩
  refine ⟨fun o ho=>?_,fun i hi hτ=>?_,?_⟩
  ·rcases nO.1 ho with ho | ho
   ·obtain ⟨i,hi,he,hz,hot⟩:=hA o ho
    obtain ⟨j,j1,j2,j3⟩:=he.by_
    refine ⟨i,hi,he.bib,by rw [h2 i hz];exact he.time,he.done,j,j1,(wHN (z:=fun i:Nat=>(i:Int) ∈ z) h1 h2 hot i j).2 j2,fun q hq=>j3 q ((wHN (z:=fun i:Nat=>(i:Int) ∈ z) h1 h2 hot i q).1 hq)⟩
   ·obtain ⟨q,hq,eq⟩:=nE ho
    rw [<- wCa hq] at eq
    subst eq
    obtain ⟨i,g1,g2,_,g4⟩:=hE q (by omega)
    obtain ⟨b1,b2,b3,j,j1,j2,j3⟩:=Ee q (by omega)
    rw [g1,nL] at b1 b3 j2
    refine ⟨i,g2,b1,by rw [b2];exact (h1 i g4).1,by rw [b2];exact b3,j,j1,by rw [b2];exact (wHN (z:=fun i:Nat=>(i:Int) ∈ z) h1 h2 (nS _) i j).2 j2,fun q' hq'=>?_⟩
    rw [b2] at hq'
    have:=j3 q' (by rw [g1,nL];exact (wHN (z:=fun i:Nat=>(i:Int) ∈ z) h1 h2 (nS _) i q').1 hq')
    exact this
  ·by_cases c:(i:Int) ∈ z
   ·obtain ⟨q,hq,eq⟩:=nE c
    rw [<- wCa hq] at eq
    refine ⟨gd E q,List.mem_append_right _ (wAe (by omega)),?_⟩
    rw [(Ee q hq).1,eq,nL]
   ·rw [hτ2 i c] at hτ
    obtain ⟨o,ho,e⟩:=te.all i hi hτ
    exact ⟨o,List.mem_append_left _ ho,e⟩
  ·rw [nP,na]
   refine ⟨te.one,?_,fun a ha b hb e=>?_⟩
   ·rw [nI,nB]
    intro a b ha hb hab e
    rw [nD] at ha hb
    rw [nG,nG,<- wCa ha,<- wCa hb,(Ee a (by omega)).1,(Ee b (by omega)).1] at e
    obtain ⟨i,g1,g2,_⟩:=hE a (by omega)
    obtain ⟨j,g3,g4,_⟩:=hE b (by omega)
    rw [g1,g3,nL,nL] at e
    have:=wKW G g2 g4 e
    have h4:=nB.1 zp a b (by omega) (by omega) hab
    rw [<- wCa (by omega),<- wCa (by omega)] at h4
    omega
   ·obtain ⟨o,ho,e1⟩:=nN.1 ha
    obtain ⟨i,hi,he,hz,_⟩:=hA o ho
    obtain ⟨o2,ho2,e2⟩:=nN.1 hb
    obtain ⟨q,hq,eq⟩:=nE ho2
    rw [<- wCa hq] at eq
    subst eq
    obtain ⟨j,g3,g4,_,g5⟩:=hE q (by omega)
    rw [(Ee q (by omega)).1,g3,nL] at e2
    have:=wKW G hi g4 (by rw [<- he.bib,e1,e,e2])
    subst this
    exact hz g5
end Go.Proofs.YtglpalgiipahjaaGreat
namespace Go.Proofs.YtglpalgiipahjaaGreat
open Go.KL
theorem wJI {zs:List Int} (h:zs.Pairwise (· <= ·)):(Go.Lib.compact zs).Pairwise (· < ·)/\(∀ x,x ∈ Go.Lib.compact zs ↔ x ∈ zs)/\(Go.Lib.compact zs).length <= zs.length:=by
 have hg:∀ i,i < zs.length->(zs.toArray[i]!)=gd zs i:=fun i hi=>by
  rw [getElem!_pos zs.toArray i (by simpa using hi),wCa hi];simp
 have le:∀ i j,i <= j->j < zs.length->gd zs i <= gd zs j:=fun i j hij hj=>by
  by_cases e:i=j
  ·subst e;exact nS _
  ·have:=nB.1 h i j (by omega) hj (by omega)
   rwa [<- wCa (by omega),<- wCa hj] at this
 have key:∀ m,m <= zs.length->(Go.Lib.compactUpTo zs.toArray m).Pairwise (· < ·)/\(∀ x,x ∈ Go.Lib.compactUpTo zs.toArray m ↔ ∃ j,j < m/\gd zs j=x)/\(Go.Lib.compactUpTo zs.toArray m).length <= m:=by
  intro m
  induction m with
  | zero=>intro _;exact ⟨by simp [Go.Lib.compactUpTo],fun x=>by simp [Go.Lib.compactUpTo],by simp [Go.Lib.compactUpTo]⟩
  | succ m ih =>
   intro hm
   obtain ⟨h1,h2,h3⟩:=ih (by omega)
   rw [Go.Lib.compactUpTo_succ]
   by_cases c:Go.Lib.keeps zs.toArray m=true
   ·rw [if_pos c,hg m (by omega)]
    refine ⟨?_,fun x=>?_,by simp;omega⟩
    ·rw [kG]
     refine ⟨h1,kX _ _,fun a ha b hb=>?_⟩
     obtain ⟨j,hj,e⟩:=(h2 a).1 ha
     have hb':=nT.1 hb
     unfold Go.Lib.keeps at c
     simp only [decide_eq_true_iff] at c
     rcases c with c | c
     ·omega
     ·rw [hg m (by omega),hg (m - 1) (by omega)] at c
      have l1:=le j (m - 1) (by omega) (by omega)
      have l2:=le (m - 1) m (by omega) (by omega)
      omega
    ·rw [nO,nT,h2]
     constructor
     ·rintro (⟨j,hj,e⟩ | e)
      ·exact ⟨j,by omega,e⟩
      ·exact ⟨m,by omega,e.symm⟩
     ·rintro ⟨j,hj,e⟩
      by_cases ej:j=m
      ·subst ej;exact .inr e.symm
      ·exact .inl ⟨j,by omega,e⟩
   ·rw [if_neg c,List.append_nil]
    refine ⟨h1,fun x=>?_,by omega⟩
    have m0:m ≠ 0/\gd zs m=gd zs (m - 1):=by
     unfold Go.Lib.keeps at c
     simp only [decide_eq_true_iff,not_or,ne_eq,Decidable.not_not] at c
     have:=c.2
     rw [hg m (by omega),hg (m - 1) (by omega)] at this
     exact ⟨c.1,this⟩
    rw [h2]
    constructor
    ·rintro ⟨j,hj,e⟩
     exact ⟨j,by omega,e⟩
    ·rintro ⟨j,hj,e⟩
     by_cases ej:j=m
     ·subst ej;exact ⟨j - 1,by omega,by rw [<- m0.2];exact e⟩
     ·exact ⟨j,by omega,e⟩
 obtain ⟨h1,h2,h3⟩:=key zs.length (nl _)
 refine ⟨h1,fun x=>?_,h3⟩
 show x ∈ Go.Lib.compactUpTo zs.toArray zs.length ↔ _
 rw [h2]
 constructor
 ·rintro ⟨j,hj,e⟩
  exact e ▸ wAe hj
 ·intro hx
  obtain ⟨j,hj,e⟩:=nE hx
  exact ⟨j,hj,by rw [wCa hj];exact e⟩
theorem wNM {T:List (List Int)} (hl:∀ l ∈ T,l.length <= 20):∀ k,(T.take k).flatten.length <= 20 * k:=by
 intro k
 induction k generalizing T with
 | zero=>simp
 | succ k ih =>
  cases T with
  | nil=>simp
  | cons a T =>
   rw [List.take_succ_cons,List.flatten_cons,nM]
   have:=hl a (by simp)
   have:=ih (T:=T) fun l h=>hl l (by simp [h])
   omega
theorem wLO {T:List (List Int)} {k:Nat} (hk:k < T.length):(T.take (k + 1)).flatten=(T.take k).flatten ++ gd T k:=by
 rw [wDE hk,List.flatten_append];simp
theorem wQP {T:List (List Int)} (hn:T.length <= 60) (hl:∀ l ∈ T,l.length <= 20):wBc T=some T.flatten:=by
 unfold wBc
 have fl:=wNM hl
 obtain ⟨x,ex,hx⟩:=wDr (body:=fun (k7:Nat) (x6:Int) =>
  (idx T (↑k7:Int)).bind fun x29 =>
  if (w64 (x6 + (↑x29.length:Int))) < 0 then
   none
  else
   some (w64 (x6 + (↑x29.length:Int)))) (n:=T.length) (s0:=(0:Int)) (fun k x=>x=((T.take k).flatten.length:Int)) (by omega) (by simp) (fun k x hk hx=>by
  have h1:=hl _ (wAe hk)
  have h2:=fl k
  rw [wAm hk,nA,hx,wAU (by omega) (by omega),if_neg (by omega)]
  exact ⟨_,rfl,by rw [wLO hk,nM];omega⟩)
 have h60:=fl T.length
 rw [nH] at h60 hx
 have eg:wBx [] x=some []:=by
  unfold wBx
  rw [if_neg (by omega),wAU (by omega) (by omega)]
  by_cases c:0 < x - 0
  ·rw [if_pos c,appZ,if_pos (by omega)];rfl
  ·rw [if_neg c]
 have e2:=wCV (body:=fun (k86:Nat) (l83:List Int) =>
  (idx T (↑k86:Int)).bind fun x107 =>
  (app 8 l83 x107).bind fun x122 =>
  some x122) (n:=T.length) (s0:=[]) (fun k=>(T.take k).flatten) (by simp) (by omega) (fun i hi=>by
  have h1:=hl _ (wAe hi)
  have h2:=fl i
  rw [wAm hi,nA,wCw (by omega),nA,wLO hi])
 rw [nH] at e2
 rw [ex,nA,eg,nA,e2,nA]
theorem wRV {r:wAM} (G:wIt r):∃ L,wCC r=some L/\Times r L:=by
 unfold wCC
 have hn:=G.n
 have hl:=wNM G.len r.Times.length
 rw [nH] at hl
 have ht:=G.t
 rw [wQP (by omega) G.len,nA]
 have e1:wCh r.Times.flatten=some (r.Times.flatten.mergeSort fun x y=>decide (x <= y)):=by
  unfold wCh wQx
  exact if_pos (by omega)
 rw [e1,nA]
 have hp:=kK r.Times.flatten fun x y=>decide (x <= y)
 have so:=nr (le:=fun x y:Int=>decide (x <= y)) (fun a b c h1 h2=>by simp at h1 h2 ⊢;omega) (fun a b=>by simp;omega) r.Times.flatten
 have hlen:=hp.length_eq
 generalize r.Times.flatten.mergeSort (fun x y=>decide (x <= y))=M at hp so hlen
 obtain ⟨c1,c2,c3⟩:=wJI (zs:=M) (so.imp fun h=>by simpa using h)
 have e2:wCB M=some (Go.Lib.compact M):=by
  unfold wCB wHm
  exact if_pos (by omega)
 rw [e2,nA]
 unfold wCK
 refine ⟨_,rfl,c1,fun x=>?_,by omega⟩
 rw [c2,hp.mem_iff,List.mem_flatten]
def ltO (a b:wAD):Prop:=a.Time < b.Time \/ a.Time=b.Time/\a.Bib < b.Bib
instance (a b:wAD):Decidable (ltO a b):=by unfold ltO;exact inferInstance
theorem cmpO (a b:wAD):wBD a b=some (if a.Time < b.Time then -1 else if b.Time < a.Time then 1 else if a.Bib < b.Bib then -1 else if b.Bib < a.Bib then 1 else 0):=by
 have hc:∀ x y:Int,wAr x y=some (if x < y then -1 else if y < x then 1 else 0):=fun x y=>by
  unfold wAr wCq
  simp only [not_true_eq_false,decide_false,nA,kM,if_false]
  split
  ·rfl
  ·split <;> rfl
 have ho:∀ x y:Int,wCi [x,y]=some (if x=0 then y else x):=fun x y=>by
  unfold wCi
  rw [wDe (by simp)]
  show jn (forN _ 2 0 ()) _=_
  have i0:idx [x,y] ((0:Nat):Int)=some x:=rfl
  have i1:idx [x,y] ((0 + 1:Nat):Int)=some y:=rfl
  simp only [forN,i0,i1,nA]
  by_cases c:x=0
  ·simp only [if_pos c]
   by_cases d:y=0
   ·simp only [if_pos d,d];rfl
   ·simp only [if_neg d];rfl
  ·simp only [if_neg c];rfl
 unfold wBD
 rw [hc,nA,hc,nA,ho,nA]
 by_cases c1:a.Time < b.Time
 ·simp [c1]
 ·by_cases c2:b.Time < a.Time
  ·simp [c1,c2]
  ·simp only [c1,c2,if_false,if_true]
structure RunP (r:wAM) (D:List Int) (A:List wAD) (τ:Nat->Option Int):Prop where
 dl:D.length=r.Bibs.length
 done:∀ i,i < r.Bibs.length->(τ i=none/\gd D i=(gd r.Times i).length) \/ ∃ s,τ i=some s/\gd D i=cn (gd r.Times i) s
 ex:∀ i,i < r.Bibs.length->∀ j,j < r.Bibs.length->∀ t ∈ gd r.Times j,nbf τ i t->(τ i=some t ↔ ∃ k,lap r τ i t k)
 in_:∀ i s,i < r.Bibs.length->τ i=some s->∃ l ∈ r.Times,s ∈ l
 ents:Ents r τ A
 ord:A.Pairwise ltO
 al:A.length <= 100000
theorem wSO {r:wAM} (G:wIt r):∃ p A τ,wCl r=some (p,A)/\RunP r p.done A τ:=by
 rw [wOF]
 have hn:=G.n
 have ht:=G.t
 rw [mkz,if_pos (by omega),nA,mkz,if_pos (by omega),nA,nA]
 simp only
 obtain ⟨L,eL,hT⟩:=wRV G
 rw [eL,nA]
 have hpos:∀ x ∈ L,0 <= x:=fun x hx=>by
  obtain ⟨l,hl,hx⟩:=(hT.all x).1 hx
  exact (G.pos l hl x hx).1
 have hll:=hT.len
 obtain ⟨⟨A,laps,bibs,times,done,out⟩,e,I⟩:=wQO (f:=rB) (L:=L) (s0:=([],r.Laps,r.Bibs,r.Times,kL (r.Bibs.length:Int).toNat 0,kL (r.Bibs.length:Int).toNat false)) (RInv r L) (by omega) ⟨rfl,rfl,rfl,by simp,by simp,by simp,fun _=>none,fun i hi=>by rw [wCa (by simpa using hi)];simp,fun i hi=>by
   rw [wCa (by simpa using hi)]
   have:cn (gd r.Times i) (-1)=0:=np.2 fun x hx=>by
    have:=(G.pos _ (wAe (l:=r.Times) (k:=i) (by omega)) x hx).1
    simp;omega
   simp only [kV,wHM,if_true,this,List.getElem_replicate]
   rfl,⟨(fun i s _ h=>by cases h),(fun i _ t ht=>by rw [List.take_zero] at ht;cases ht)⟩,⟨(fun o ho=>by cases ho),(fun i _ h=>absurd rfl h),by simp⟩⟩ (fun k s hk I=>wRU G hT hk I)
 rw [e,nA]
 obtain ⟨e1,e2,e3,dl,ol,al,τ,to,td,tx,te⟩:=I
 simp only at e1 e2 e3 dl ol al to td te
 rw [nH] at tx
 simp only
 have lt:∀ a b:wAD,ltB (fun x:wAD × wAD=>wBD x.1 x.2) a b=decide (ltO a b):=fun a b=>by
  unfold ltB ltO
  simp only [cmpO]
  by_cases c1:a.Time < b.Time
  ·simp [c1]
  ·by_cases c2:b.Time < a.Time
   ·simp [c1,c2];omega
   ·have c3:a.Time=b.Time:=by omega
    by_cases c4:a.Bib < b.Bib
    ·simp [c3,c4]
    ·by_cases c5:b.Bib < a.Bib <;> simp [c3,c4,c5]
 have one:∀ x ∈ A,∀ y ∈ A,x.Bib=y.Bib->x=y:=fun x hx y hy e=>by
  obtain ⟨i,hi,ei⟩:=nE hx
  obtain ⟨j,hj,ej⟩:=nE hy
  have pw:=nB.1 (nI.1 te.one)
  rcases nw i j with c | c | c
  ·have:=pw i j (by simpa using hi) (by simpa using hj) c
   rw [nG,nG,ei,ej] at this
   exact absurd e this
  ·subst c;rw [<- ei,<- ej]
  ·have:=pw j i (by simpa using hj) (by simpa using hi) c
   rw [nG,nG,ei,ej] at this
   exact absurd e.symm this
 have C:Cmp (fun x:wAD × wAD=>wBD x.1 x.2) A:=by
  refine ⟨by omega,fun x _ y _=>by show (wBD x y).isSome=true;rw [cmpO];rfl,fun x _=>by rw [lt];simp [ltO],fun x _ y _ w _ a b=>?_,fun x _ y _ w _ a b=>?_,fun x hx y hy a b=>?_⟩
  ·rw [lt] at a b ⊢
   simp only [decide_eq_true_iff] at a b ⊢
   simp only [ltO] at a b ⊢
   omega
  ·rw [lt] at a b ⊢
   simp only [decide_eq_false_iff_not] at a b ⊢
   simp only [ltO] at a b ⊢
   omega
  ·rw [lt] at a b
   simp only [decide_eq_false_iff_not] at a b
   simp only [ltO] at a b
   exact one x hx y hy (by omega)
 unfold wAv
 rw [wMl C,nA]
 have hp:=kK A fun x y=>!ltB (fun x:wAD × wAD=>wBD x.1 x.2) y x
 have so:=nr (le:=fun x y:wAD=>!ltB (fun x:wAD × wAD=>wBD x.1 x.2) y x) (fun a b c h1 h2=>by
   rw [lt] at h1 h2 ⊢
   simp only [nW,decide_eq_false_iff_not] at h1 h2 ⊢
   simp only [ltO] at h1 h2 ⊢
   omega) (fun a b=>by
   rw [lt,lt]
   simp only [Bool.or_eq_true,nW,decide_eq_false_iff_not]
   simp only [ltO]
   omega) A
 generalize A.mergeSort (fun x y=>!ltB (fun x:wAD × wAD=>wBD x.1 x.2) y x)=A' at hp so
 refine ⟨_,A',τ,rfl,dl,fun i hi=>?_,fun i hi j hj t htj=>tx.iff i hi t ((hT.all t).2 ⟨_,wAe (by omega),htj⟩),fun i s hi hs=>(hT.all s).1 (tx.in_ i s hi hs),⟨fun o ho=>te.of o (hp.mem_iff.1 ho),fun i hi h=>?_,(hp.map _).nodup_iff.2 te.one⟩,?_,by have:=hp.length_eq;omega⟩
 ·have hd:=td i hi
  cases hτ:τ i with
  | some s =>
   right
   refine ⟨s,rfl,?_⟩
   rw [hd,hτ];rfl
  | none =>
   left
   refine ⟨rfl,?_⟩
   show gd done i=_
   rw [hd,hτ]
   have:cn (gd r.Times i) (wHM L L.length)=(gd r.Times i).length:=by
    refine List.countP_eq_length.2 fun x hx=>?_
    have hxl:x ∈ L:=(hT.all x).2 ⟨_,wAe (by omega),hx⟩
    obtain ⟨q,hq,eq⟩:=nE hxl
    rw [<- wCa hq] at eq
    unfold wHM
    rw [if_neg (by omega),<- eq]
    by_cases c:q=L.length - 1
    ·subst c;simp
    ·have:=nB.1 hT.inc q (L.length - 1) hq (by omega) (by omega)
     rw [<- wCa hq,<- wCa (by omega)] at this
     simp;omega
   rw [kV,this]
 ·obtain ⟨o,ho,e⟩:=te.all i hi h
  exact ⟨o,hp.mem_iff.2 ho,e⟩
 ·have nd:=(hp.map (·.Bib)).nodup_iff.2 te.one
  refine (so.and (nv.1 (nI.1 nd))).imp fun {a b} h=>?_
  obtain ⟨h1,h2⟩:=h
  rw [lt] at h1
  simp only [nW,decide_eq_false_iff_not] at h1 ⊢
  simp only [ltO] at h1 ⊢
  omega
end Go.Proofs.YtglpalgiipahjaaGreat
namespace Go.Proofs.YtglpalgiipahjaaGreat
open Go.KL
theorem wHx {K V:Type} [DecidableEq K] {m:List (K × V)} {x y:K} {v:V}:wHl (mput m x v) y=if y=x then some v else wHl m y:=by
 induction m with
 | nil=>simp only [mput,wHl]
 | cons p m ih =>
  obtain ⟨a,u⟩:=p
  rw [mput]
  by_cases h:x=a
  ·subst h
   rw [if_pos rfl,wHl,wHl]
   split <;> rfl
  ·rw [if_neg h,wHl,wHl,ih]
   by_cases h2:y=a
   ·rw [if_pos h2,if_neg (fun e:y=x=>h (e.symm.trans h2)),if_pos h2]
   ·rw [if_neg h2,if_neg h2]
theorem wRW {l:List Int} (hl:l.length <= 1000) (hd:l.Nodup):wDc l=some false:=by
 unfold wDc
 rw [wDe (by omega)]
 have key:∀ (m k:Nat) (t:List (Int × Bool)),k + m=l.length->(∀ n,wCt t n false=decide (n ∈ l.take k)) ->
   jn (forN (fun k20 l17 =>
  (idx l (↑k20:Int)).bind fun x41 =>
  if (wCt l17 x41 false)=true then
   esc (some true)
  else
   some (.inl (mput l17 x41 true))) m k t) (fun _=>some false)=some false:=by
  intro m
  induction m with
  | zero=>intro k t _ _;rfl
  | succ m ih =>
   intro k t hk ht
   have hlt:k < l.length:=by omega
   have c:gd l k ∉ l.take k:=fun c=>by
    rw [<- kg k l,wQK hlt] at hd
    exact (na.1 hd).2.2 _ c _ (by simp) rfl
   rw [forN,wAm hlt,nA,ht,if_neg (by simpa using c)]
   simp only
   refine ih (k + 1) _ (by omega) fun n=>?_
   unfold wCt at ht ⊢
   rw [wHx,wDE hlt]
   by_cases e:n=gd l k
   ·rw [if_pos e];simp [e]
   ·rw [if_neg e,ht];simp [e]
 exact key l.length 0 [] (by omega) (fun n=>by simp [wCt,wHl])
theorem wFC {n lo hi:Int} (h1:lo <= n) (h2:n <= hi):wDj n lo hi=some true:=by
 unfold wDj
 rw [if_pos h1]
 simp [h2]
theorem wNN {l:List (List Int)} {f:List Int->Option Bool} (hn:l.length <= 1000) (h:∀ a ∈ l,f a=some true):wCp l f=some true:=by
 unfold wCp
 rw [wEO (by omega) fun k hk=>?_]
 ·rfl
 ·rw [wAm hk,nA,h _ (wAe hk)]
  rfl
theorem wNO {l:List Int} {f:Int->Option Bool} (hn:l.length <= 1000) (h:∀ a ∈ l,f a=some true):wBr l f=some true:=by
 unfold wBr
 rw [wEO (by omega) fun k hk=>?_]
 ·rfl
 ·rw [wAm hk,nA,h _ (wAe hk)]
  rfl
structure wRX (r:wAM):Prop where
 g:wIt r
 laps:1 <= r.Laps/\r.Laps <= 20
 le:∀ l ∈ r.Times,(l.length:Int) <= r.Laps
 bib:∀ b ∈ r.Bibs,1 <= b/\b <= 999
theorem wQQ {r:wAM} (G:wRX r):wCO r=some 0:=by
  unfold wCO
  have h1:=G.laps;have h2:=G.g.n;have h3:=G.g.t
  rw [wFC h1.1 h1.2,nA,if_pos rfl,if_neg (by omega),if_pos (by omega),wNN (by omega) fun X hX=>?_,nA,if_pos rfl,wNO (by omega) fun b hb=>?_,nA,if_pos rfl,wNN (by omega) fun X hX=>?_,nA,if_pos rfl,wRW (by omega) G.g.one,nA,if_neg (by decide),wEO (by omega) fun k hk=>?_]
  · rfl
  · have hXm:=wAe hk
    rw [wAm hk,nA]
    have hl:=G.g.len _ hXm
    have hpw:=G.g.inc _ hXm
    generalize gd r.Times k=X at hl hpw
    have hle:((X.length:Int) - 1).toNat <= 9223372036854775807:=by omega
    have key:wFH 1 (X.length:Int) (fun k132 (_:Unit) =>
                    (idx X (1 + ↑k132:Int)).bind fun x155 =>
                    (idx X (w64 ((1 + ↑k132:Int) - 1))).bind fun x163 =>
                    if x155 <= x163 then
                      esc (esc (some 4))
                    else
                      (some (.inl ()):Option (Unit ⊕ (Unit ⊕ Int)))) ()=some (.inl ()):=by
      unfold wFH
      rw [if_pos (by omega)]
      have:=wKT (S:=Unit) (B:=Unit ⊕ Int) (body:=fun k132 (_:Unit) =>
                    (idx X (1 + ↑k132:Int)).bind fun x155 =>
                    (idx X (w64 ((1 + ↑k132:Int) - 1))).bind fun x163 =>
                    if x155 <= x163 then
                      esc (esc (some 4))
                    else
                      some (.inl ())) (fun _=>()) ((X.length:Int) - 1).toNat 0 fun j _ hj=>by
        have e1:(1 + (j:Int))=((j + 1:Nat):Int):=by omega
        rw [wAU (by omega) (by omega),e1,show ((j + 1:Nat):Int) - 1=(j:Int) by omega,wAm (by omega),nA,wAm (by omega),nA,if_neg]
        have:=nB.1 hpw j (j + 1) (by omega) (by omega) (by omega)
        have a1:=wCH (xs:=X) (k:=j) (by omega)
        have a2:=wCH (xs:=X) (k:=j + 1) (by omega)
        rw [nq (by omega)] at a1 a2
        rw [<- nQ a1,<- nQ a2]
        omega
      exact this
    rw [key]
    rfl
  · have:=G.g.len X hX
    have hr:=G.g.pos X hX
    unfold wBt
    rw [wNO (by omega) fun a ha=>?_]
    · rfl
    · unfold wBb
      have:=hr a ha
      rw [wFC (by omega) (by omega)]
      rfl
  · have:=G.bib b hb
    unfold wBs
    rw [wFC this.1 this.2]
    rfl
  · have:=G.le X hX
    unfold wBq
    simp only [Option.some.injEq,decide_eq_true_eq]
    exact this
theorem wLP {r:wAM} (G:wRX r) {p:wAI} {A:List wAD} (h:wCl r=some (p,A)):wCm r=some (A,0):=by
 unfold wCm
 rw [wQQ G,nA,if_pos rfl,h];rfl
end Go.Proofs.YtglpalgiipahjaaGreat
namespace Go.Proofs.YtglpalgiipahjaaGreat
open Go.KL
theorem wJf {r:wAM} (G:wRX r) {p:wAI} {A:List wAD} (h:wCl r=some (p,A)):wBy r=some (p.done,0):=by
 unfold wBy
 rw [wQQ G,nA,if_pos rfl,h];rfl
end Go.Proofs.YtglpalgiipahjaaGreat
namespace Go.Proofs.YtglpalgiipahjaaGreat
open Go.KL
theorem wLQ {r:wAL} (g:wGW r):wRX (wBw r):=by
 have hn:=g.n;have hs:=g.start
 have hc:=g.rules.n;have hl:=g.rules.laps
 obtain ⟨L,hL⟩:=Int.eq_ofNat_of_zero_le (show 0 <= r.Rules.Laps by omega)
 have hL5:L <= 5:=by omega
 have e:∀ l ∈ (wBw r).Times,∃ t,t ∈ r.Teams/\l=wEV r.Rules t.Legs r.Start:=fun l h=>by
  obtain ⟨t,ht,e⟩:=nN.1 h
  exact ⟨t,ht,e.symm⟩
 have hlen:∀ l ∈ (wBw r).Times,l.length <= r.Rules.Classes.length * L:=fun l h=>by
  obtain ⟨t,ht,rfl⟩:=e l h
  have gt:=g.team t ht
  exact kE (wJe hL t.Legs r.Start gt.leg) (Nat.mul_le_mul_right L gt.legs)
 have h20:r.Rules.Classes.length * L <= 20:=kE (ki hc.2 hL5) (by omega)
 have hLaps:(wBw r).Laps=((r.Rules.Classes.length * L:Nat):Int):=by
  show (r.Rules.Classes.length:Int) * r.Rules.Laps=_
  rw [hL];simp
 have h1:1 <= r.Rules.Classes.length * L:=Nat.mul_pos hc.1 (by omega)
 refine ⟨⟨?_,?_,fun l h=>by have:=hlen l h;omega,fun l h=>?_,fun l h x hx=>?_,g.bibs⟩,⟨by rw [hLaps];omega,by rw [hLaps];omega⟩,fun l h=>by rw [hLaps];have:=hlen l h;omega,fun b hb=>?_⟩
 ·show (r.Teams.map _).length <= 60
  rw [nD];omega
 ·show (after r).length=(r.Teams.map _).length
  unfold after
  rw [nD,nD]
 ·obtain ⟨t,ht,rfl⟩:=e l h
  exact (wKV g.rules t.Legs r.Start (g.team t ht).leg).1
 ·obtain ⟨t,ht,rfl⟩:=e l h
  have:=(wKV g.rules t.Legs r.Start (g.team t ht).leg).2 x hx
  have:=(g.team t ht).legs
  omega
 ·obtain ⟨t,ht,rfl⟩:=nN.1 hb
  exact (g.team t ht).bib
def un (b:List Bool):Int:=if wGV b < 5 then 8 - (b.length:Int) else 0
def unB:List (List Bool)->Int
 | []=>0
 | b :: l=>un b + unB l
def unT:List wAG->Int
 | []=>0
 | l :: r=>unB l.Bouts + unT r
theorem wKX {b:List Bool} (h:okB b):0 <= un b/\un b <= 3:=by
 have:=h.1;have:=h.2.1
 unfold un
 split <;> omega
theorem wKY (b:List Bool):∀ l:List (List Bool),unB (l ++ [b])=unB l + un b
 | []=>by simp [unB]
 | a :: l=>by rw [kA,unB,unB,wKY b l];omega
theorem wKZ (b:wAG):∀ l:List wAG,unT (l ++ [b])=unT l + unB b.Bouts
 | []=>by simp [unT]
 | a :: l=>by rw [kA,unT,unT,wKZ b l];omega
theorem wGs:∀ {l:List (List Bool)},(∀ b ∈ l,okB b)->0 <= unB l/\unB l <= 3 * (l.length:Int)
 | [],_=>by simp [unB]
 | a :: l,h=>by
  have h1:=wKX (h a (by simp))
  have h2:=wGs (l:=l) fun b hb=>h b (by simp [hb])
  rw [unB,nJ]
  omega
theorem wKa {p:wAJ} (gp:wDg p) {t:wAF} {l:wAG} (g:wEo p t l):l.Bouts.length <= 4:=by
 have:=g.bouts;have:=g.le;have:=gp.laps
 omega
theorem wGt {p:wAJ} (gp:wDg p) {t:wAF}:∀ {l:List wAG},(∀ a ∈ l,wEo p t a)->0 <= unT l/\unT l <= 12 * (l.length:Int)
 | [],_=>by simp [unT]
 | a :: l,h=>by
  have ga:=h a (by simp)
  have h1:=wGs ga.ok
  have h3:=wKa gp ga
  have h2:=wGt gp (l:=l) fun b hb=>h b (by simp [hb])
  rw [unT,nJ]
  omega
theorem wQR {p:wAJ} (gp:wDg p) {t:wAF} (g:wOA p t):wBu t=some (unT t.Legs):=by
 unfold wBu
 have hl:=g.legs;have hc:=gp.n
 rw [wCV (S:=Int) (n:=t.Legs.length) (fun k=>unT (t.Legs.take k)) (s0:=0) rfl (by omega) fun k hk=>?_]
 ·rw [nA,nH]
 ·have gl:=g.leg _ (wAe hk)
  have h4:=wKa gp gl
  have hr:=wGt gp (l:=t.Legs.take k) fun a ha=>g.leg a (nV ha)
  rw [nR] at hr
  rw [wAm hk,nA]
  rw [wCV (S:=Int) (n:=(gd t.Legs k).Bouts.length) (fun j=>unT (t.Legs.take k) + unB ((gd t.Legs k).Bouts.take j)) (s0:=unT (t.Legs.take k)) (by simp [unB]) (by omega) fun j hj=>?_]
  ·rw [nA,nH,wDE hk,wKZ]
  ·have ho:=gl.ok _ (wAe hj)
   have hb:=wGs (l:=(gd t.Legs k).Bouts.take j) fun b hb=>gl.ok b (nV hb)
   have hu:=wKX ho
   rw [nR] at hb
   rw [wAm hj,nA,wKS ho,nA]
   show (if _=(⟨0,0,0⟩:wAd) then _ else some (w64 (_ + un (gd (gd t.Legs k).Bouts j))))=_
   rw [wDE hj,wKY]
   by_cases e:(⟨((gd (gd t.Legs k).Bouts j).length:Int) - 5,5 - (wGV (gd (gd t.Legs k).Bouts j):Int),un (gd (gd t.Legs k).Bouts j)⟩:wAd)=⟨0,0,0⟩
   ·have e3:un (gd (gd t.Legs k).Bouts j)=0:=congrArg wAd.Unused e
    refine (if_pos e).trans ?_
    rw [e3,Int.add_zero]
   ·refine (if_neg e).trans ?_
    rw [wAU (by omega) (by omega),kP]
theorem cmpI (x y:Int):wAr x y=some (if x < y then -1 else if y < x then 1 else 0):=by
 unfold wAr wCq
 simp only [not_true_eq_false,decide_false,nA,kM,if_false]
 split
 ·rfl
 ·split <;> rfl
theorem orI (x y:Int):wCi [x,y]=some (if x=0 then y else x):=by
 unfold wCi
 rw [wDe (by simp)]
 show jn (forN _ 2 0 ()) _=_
 have i0:idx [x,y] ((0:Nat):Int)=some x:=rfl
 have i1:idx [x,y] ((0 + 1:Nat):Int)=some y:=rfl
 simp only [forN,i0,i1,nA]
 by_cases c:x=0
 ·simp only [if_pos c]
  by_cases d:y=0
  ·simp only [if_pos d,d];rfl
  ·simp only [if_neg d];rfl
 ·simp only [if_neg c];rfl
def lt2 {α:Type} (k1 k2:α->Int) (a b:α):Prop:=k1 a < k1 b \/ k1 a=k1 b/\k2 a < k2 b
instance {α:Type} (k1 k2:α->Int) (a b:α):Decidable (lt2 k1 k2 a b):=by unfold lt2;exact inferInstance
def wUH {α:Type} (k1 k2:α->Int) (a b:α):Int:=if k1 a < k1 b then -1 else if k1 b < k1 a then 1 else if k2 a < k2 b then -1 else if k2 b < k2 a then 1 else 0
theorem wVG {α:Type} {h:α × α->Option Int} (k1 k2:α->Int) (hh:∀ a b,h (a,b)=some (wUH k1 k2 a b)) {l:List α} (hl:l.length <= 100000) (nd:(l.map k2).Nodup):∃ m,wLw h l=some m/\m.Perm l/\m.Pairwise (lt2 k1 k2):=by
 have lt:∀ a b:α,ltB h a b=decide (lt2 k1 k2 a b):=fun a b=>by
  unfold ltB lt2
  rw [hh]
  unfold wUH
  by_cases c1:k1 a < k1 b
  ·simp [c1]
  ·by_cases c2:k1 b < k1 a
   ·simp [c1,c2];omega
   ·have c3:k1 a=k1 b:=by omega
    by_cases c4:k2 a < k2 b
    ·simp [c3,c4]
    ·by_cases c5:k2 b < k2 a <;> simp [c3,c4,c5]
 have one:∀ x ∈ l,∀ y ∈ l,k2 x=k2 y->x=y:=fun x hx y hy e=>by
  obtain ⟨i,hi,ei⟩:=nE hx
  obtain ⟨j,hj,ej⟩:=nE hy
  have pw:=nB.1 (nI.1 nd)
  rcases nw i j with c | c | c
  ·have:=pw i j (by simpa using hi) (by simpa using hj) c
   rw [nG,nG,ei,ej] at this
   exact absurd e this
  ·subst c;rw [<- ei,<- ej]
  ·have:=pw j i (by simpa using hj) (by simpa using hi) c
   rw [nG,nG,ei,ej] at this
   exact absurd e.symm this
 have C:Cmp h l:=by
  refine ⟨by omega,fun x _ y _=>by rw [hh];rfl,fun x _=>by rw [lt];simp [lt2],fun x _ y _ w _ a b=>?_,fun x _ y _ w _ a b=>?_,fun x hx y hy a b=>?_⟩
  ·rw [lt] at a b ⊢
   simp only [decide_eq_true_iff] at a b ⊢
   simp only [lt2] at a b ⊢
   omega
  ·rw [lt] at a b ⊢
   simp only [decide_eq_false_iff_not] at a b ⊢
   simp only [lt2] at a b ⊢
   omega
  ·rw [lt] at a b
   simp only [decide_eq_false_iff_not] at a b
   simp only [lt2] at a b
   exact one x hx y hy (by omega)
 have hp:=kK l fun x y=>!ltB h y x
 have so:=nr (le:=fun x y:α=>!ltB h y x) (fun a b c h1 h2=>by
   rw [lt] at h1 h2 ⊢
   simp only [nW,decide_eq_false_iff_not] at h1 h2 ⊢
   simp only [lt2] at h1 h2 ⊢
   omega) (fun a b=>by
   rw [lt,lt]
   simp only [Bool.or_eq_true,nW,decide_eq_false_iff_not]
   simp only [lt2]
   omega) l
 refine ⟨_,wMl C,hp,?_⟩
 generalize l.mergeSort (fun x y=>!ltB h y x)=m at hp so
 have nd2:=(hp.map k2).nodup_iff.2 nd
 refine (so.and (nv.1 (nI.1 nd2))).imp fun {a b} h=>?_
 obtain ⟨h1,h2⟩:=h
 rw [lt] at h1
 simp only [nW,decide_eq_false_iff_not] at h1 ⊢
 simp only [lt2] at h1 ⊢
 omega
theorem wJg {α:Type} {k1 k2:α->Int} {l m:List α} (hl:l.Pairwise (lt2 k1 k2)) (hm:m.Pairwise (lt2 k1 k2)) (hp:l.Perm m):l=m :=
 kW (le:=lt2 k1 k2) (fun a b _ _ h1 h2=>by unfold lt2 at h1 h2;omega) hl hm hp
theorem cmpR1 (a b:wAA):wBN a b=some (wUH (·.Time) (·.Bib) a b):=by
 unfold wBN wUH
 rw [cmpI,nA,cmpI,nA,orI,nA]
 by_cases c1:a.Time < b.Time
 ·simp [c1]
 ·by_cases c2:b.Time < a.Time
  ·simp [c1,c2]
  ·simp only [c1,c2,if_false,if_true]
theorem cmpR2 (M:List (Int × Int)) (a b:wAA):wBO a b M=some (wUH (fun x=>-(wCt M x.Bib 0)) (·.Bib) a b):=by
 unfold wBO wUH
 rw [cmpI,nA,cmpI,nA,orI,nA]
 simp only
 generalize wCt M a.Bib 0=x
 generalize wCt M b.Bib 0=y
 by_cases c1:y < x
 ·rw [if_pos c1,if_pos (show -x < -y by omega)];simp
 ·by_cases c2:x < y
  ·rw [if_neg c1,if_pos c2,if_neg (show ¬ -x < -y by omega),if_pos (show -y < -x by omega)];simp
  ·rw [if_neg c1,if_neg c2,if_neg (show ¬ -x < -y by omega),if_neg (show ¬ -y < -x by omega)];simp
end Go.Proofs.YtglpalgiipahjaaGreat
namespace Go.Proofs.YtglpalgiipahjaaGreat
open Go.KL
structure Rc where
 bib:Int
 fin:Bool
 time:Int
 done:Int
instance:Inhabited Rc:=⟨⟨0,false,0,0⟩⟩
def wHO (r:wAL) (A:List wAD) (D:List Int) (k:Nat):Rc :=
 ⟨(gd r.Teams k).Bib,!(A.any fun o=>decide (o.Bib=(gd r.Teams k).Bib)) && decide (((gd (after r) k).length:Int)=(wBw r).Laps),gd (gd (after r) k) ((wBw r).Laps - 1).toNat + unT (gd r.Teams k).Legs * r.Rules.Unused,gd D k⟩
def wGu (r:wAL) (A:List wAD) (D:List Int):List Rc:=(nU r.Teams.length).map (wHO r A D)
def wVH (x:Rc):wAA:=⟨x.bib,0,x.time⟩
def wRY (x:Rc):wAA:=⟨x.bib,0,0⟩
def wOG (l:List Rc):List wAA:=(l.filter fun x=>x.fin).map wVH
def wOH (l:List Rc):List wAA:=(l.filter fun x=>!x.fin).map wRY
def wGX (l:List Rc):List (Int × Int):=l.foldl (fun m x=>mput m x.bib x.done) []
theorem wOI (l:List Rc) (x:Rc):wGX (l ++ [x])=mput (wGX l) x.bib x.done:=by unfold wGX;rw [aB];rfl
theorem wLR:∀ {l:List Rc} {m:List (Int × Int)} {b:Int},(∀ x ∈ l,x.bib ≠ b)->wHl (l.foldl (fun m x=>mput m x.bib x.done) m) b=wHl m b
 | [],_,_,_=>rfl
 | y :: l,m,b,h=>by
  rw [ke,wLR (l:=l) fun x hx=>h x (by simp [hx]),wHx,if_neg]
  exact fun e=>h y (by simp) e.symm
theorem wNP:∀ {l:List Rc} {m:List (Int × Int)},(l.map (·.bib)).Nodup->∀ x ∈ l,wHl (l.foldl (fun m x=>mput m x.bib x.done) m) x.bib=some x.done
 | [],_,_,_,h=>by cases h
 | y :: l,m,nd,x,hx=>by
  rw [List.map_cons,List.nodup_cons] at nd
  rw [ke]
  rcases ny.1 hx with rfl | hx
  ·rw [wLR fun z hz e=>nd.1 (nN.2 ⟨z,hz,e⟩),wHx,if_pos rfl]
  ·exact wNP nd.2 x hx
theorem wIu {l:List Rc} (nd:(l.map (·.bib)).Nodup) {x:Rc} (hx:x ∈ l):wCt (wGX l) x.bib 0=x.done:=by
 unfold wCt wGX
 rw [wNP nd x hx];rfl
theorem wLS (r:wAL) (A:List wAD) (D:List Int):(wGu r A D).map (·.bib)=r.Teams.map (·.Bib):=by
 unfold wGu
 rw [nk]
 refine List.ext_getElem (by simp) fun i h1 h2=>?_
 simp only [nG,ku,Function.comp,wHO]
 rw [wCa (by simpa using h2)]
theorem wFk (r:wAL) (A:List wAD) (D:List Int):(wGu r A D).length=r.Teams.length:=by simp [wGu]
theorem wQS (r:wAL) (A:List wAD) (D:List Int) {k:Nat} (hk:k < r.Teams.length):(wGu r A D).take (k + 1)=(wGu r A D).take k ++ [wHO r A D k]:=by
 unfold wGu
 rw [<- kl,<- kl,List.take_range,List.take_range,Nat.min_eq_left (by omega),Nat.min_eq_left (by omega),kc,nP]
 rfl
theorem wQT (l:List Rc) (x:Rc):wOG (l ++ [x])=if x.fin=true then wOG l ++ [wVH x] else wOG l:=by
 unfold wOG
 rw [kv]
 by_cases h:x.fin=true <;> simp [h]
theorem wQU (l:List Rc) (x:Rc):wOH (l ++ [x])=if x.fin=true then wOH l else wOH l ++ [wRY x]:=by
 unfold wOH
 rw [kv]
 by_cases h:x.fin=true <;> simp [h]
theorem wNQ (l:List Rc):(wOG l).length <= l.length:=by
 unfold wOG;rw [nD];exact kD _ _
theorem wNR (l:List Rc):(wOH l).length <= l.length:=by
 unfold wOH;rw [nD];exact kD _ _
theorem wRZ (l:List Rc):(wOG l).map (·.Bib)=(l.filter fun x=>x.fin).map (·.bib):=by unfold wOG;rw [nk];rfl
theorem wRa (l:List Rc):(wOH l).map (·.Bib)=(l.filter fun x=>!x.fin).map (·.bib):=by unfold wOH;rw [nk];rfl
theorem wSP {l:List Rc} (nd:(l.map (·.bib)).Nodup):((wOG l).map (·.Bib)).Nodup:=by
 rw [wRZ];exact nd.sublist (km.map _)
theorem wSQ {l:List Rc} (nd:(l.map (·.bib)).Nodup):((wOH l).map (·.Bib)).Nodup:=by
 rw [wRa];exact nd.sublist (km.map _)
def plc (F:List wAA):Nat->Int
 | 0=>1
 | i + 1=>if (gd F (i + 1)).Time=(gd F i).Time then plc F i else (i:Int) + 2
def wBm (F:List wAA):List wAA:=(nU F.length).map fun i=>⟨(gd F i).Bib,plc F i,(gd F i).Time⟩
theorem wBP (F:List wAA):(wBm F).length=F.length:=by simp [wBm]
theorem wEp {F:List wAA} {i:Nat} (h:i < F.length):gd (wBm F) i=⟨(gd F i).Bib,plc F i,(gd F i).Time⟩:=by
 unfold wBm
 rw [wCa (by simpa using h)]
 simp
theorem wIv (F:List wAA):∀ i,1 <= plc F i/\plc F i <= i + 1
 | 0=>by simp [plc]
 | i + 1=>by
  have:=wIv F i
  rw [plc]
  split <;> omega
def pB:Nat->List wAA->Option (List wAA):=fun k550 l549 =>
        (chk (↑k550:Int) l549.length).bind fun _ =>
        if 0 < (↑k550:Int) then
          (chk (↑k550:Int) (nK l549 k550 (⟨(gd l549 k550).Bib,(↑(k550 + 1):Int),(gd l549 k550).Time⟩:wAA)).length).bind fun _ =>
          (chk (w64 ((↑k550:Int) - 1)) (nK l549 k550 (⟨(gd l549 k550).Bib,(↑(k550 + 1):Int),(gd l549 k550).Time⟩:wAA)).length).bind fun _ =>
          if ((gd (nK l549 k550 (⟨(gd l549 k550).Bib,(↑(k550 + 1):Int),(gd l549 k550).Time⟩:wAA)) k550).Time)=((gd (nK l549 k550 (⟨(gd l549 k550).Bib,(↑(k550 + 1):Int),(gd l549 k550).Time⟩:wAA)) (w64 ((↑k550:Int) - 1)).toNat).Time) then
            some (nK (nK l549 k550 (⟨(gd l549 k550).Bib,(↑(k550 + 1):Int),(gd l549 k550).Time⟩:wAA)) k550 (⟨(gd (nK l549 k550 (⟨(gd l549 k550).Bib,(↑(k550 + 1):Int),(gd l549 k550).Time⟩:wAA)) k550).Bib,(gd (nK l549 k550 (⟨(gd l549 k550).Bib,(↑(k550 + 1):Int),(gd l549 k550).Time⟩:wAA)) (w64 ((↑k550:Int) - 1)).toNat).Place,(gd (nK l549 k550 (⟨(gd l549 k550).Bib,(↑(k550 + 1):Int),(gd l549 k550).Time⟩:wAA)) k550).Time⟩:wAA))
          else
            some (nK l549 k550 (⟨(gd l549 k550).Bib,(↑(k550 + 1):Int),(gd l549 k550).Time⟩:wAA))
        else
          some (nK l549 k550 (⟨(gd l549 k550).Bib,(↑(k550 + 1):Int),(gd l549 k550).Time⟩:wAA))
theorem wQV {α:Type} [Inhabited α] {l:List α} {i k:Nat} {x:α} (hi:i < l.length) (hk:k < l.length):gd (l.set i x) k=if k=i then x else gd l k:=by
 have h1:=wCH (xs:=l.set i x) (k:=k) (by rw [nZ];exact hk)
 rw [List.getElem?_set] at h1
 by_cases e:i=k
 ·subst e
  rw [if_pos rfl,if_pos hi] at h1
  rw [if_pos rfl];exact (nQ h1).symm
 ·rw [if_neg e,wCH hk] at h1
  rw [if_neg (fun h=>e h.symm)];exact (nQ h1).symm
theorem wQW {F:List wAA} (hF:F.length <= 1000):wCG 0 (↑F.length:Int) pB F=some (wBm F):=by
 obtain ⟨s,e,h1,h2⟩:=wDr (body:=pB) (n:=F.length) (s0:=F) (fun k s=>s.length=F.length/\∀ i,i < F.length->gd s i=if i < k then ⟨(gd F i).Bib,plc F i,(gd F i).Time⟩ else gd F i) hF ⟨rfl,fun i hi=>by rw [if_neg (by omega)]⟩ (fun k s hk ⟨hl,hs⟩=>by
  have hkk:gd s k=gd F k:=by rw [hs k hk,if_neg (by omega)]
  unfold pB
  rw [wDX (by omega) (by omega),nA,hkk]
  have g1:∀ x i,i < F.length->gd (s.set k x) i=if i=k then x else gd s i:=fun x i hi=>wQV (by omega) (by omega)
  by_cases c:0 < k
  ·have gk:∀ x,gd (s.set k x) k=x:=fun x=>by rw [g1 _ k hk,if_pos rfl]
   have gp:∀ x,gd (s.set k x) (k - 1)=gd s (k - 1):=fun x=>by rw [g1 _ (k - 1) (by omega),if_neg (by omega)]
   have ek:(w64 ((k:Int) - 1)).toNat=k - 1:=by rw [wAU (by omega) (by omega)];omega
   have hk1:gd s (k - 1)=⟨(gd F (k - 1)).Bib,plc F (k - 1),(gd F (k - 1)).Time⟩:=by rw [hs _ (by omega),if_pos (by omega)]
   rw [if_pos (by omega),wDX (by omega) (by rw [nZ];omega),nA,wDX (by rw [wAU (by omega) (by omega)];omega) (by rw [wAU (by omega) (by omega),nZ];omega),nA,ek,gk,gp,hk1]
   simp only
   have pk:plc F k=if (gd F k).Time=(gd F (k - 1)).Time then plc F (k - 1) else (k:Int) + 1:=by
    obtain ⟨m,rfl⟩:∃ m,k=m + 1:=⟨k - 1,by omega⟩
    rw [plc,kx]
    split
    ·rfl
    ·omega
   by_cases d:(gd F k).Time=(gd F (k - 1)).Time
   ·rw [if_pos d]
    refine ⟨_,rfl,by simp [hl],fun i hi=>?_⟩
    rw [wQV (by rw [nZ];omega) (by rw [nZ];omega),g1 _ i hi]
    by_cases ei:i=k
    ·subst ei
     rw [if_pos rfl,if_pos (by omega),pk,if_pos d]
    ·rw [if_neg ei,if_neg ei,hs i hi]
     by_cases c2:i < k
     ·rw [if_pos c2,if_pos (by omega)]
     ·rw [if_neg c2,if_neg (by omega)]
   ·rw [if_neg d]
    refine ⟨_,rfl,by simp [hl],fun i hi=>?_⟩
    rw [g1 _ i hi]
    by_cases ei:i=k
    ·subst ei
     rw [if_pos rfl,if_pos (by omega),pk,if_neg d]
     congr 1
    ·rw [if_neg ei,hs i hi]
     by_cases c2:i < k
     ·rw [if_pos c2,if_pos (by omega)]
     ·rw [if_neg c2,if_neg (by omega)]
  ·rw [if_neg (by omega)]
   have k0:k=0:=by omega
   subst k0
   refine ⟨_,rfl,by simp [hl],fun i hi=>?_⟩
   rw [g1 _ i hi]
   by_cases ei:i=0
   ·subst ei
    rw [if_pos rfl,if_pos (by omega)]
    rfl
   ·rw [if_neg ei,hs i hi,if_neg (by omega),if_neg (by omega)])
 rw [e]
 congr 1
 refine wQL (by rw [h1,wBP]) fun i hi=>?_
 rw [h2 i (by omega),if_pos (by omega),wEp (by omega)]
abbrev RS2:=List (Int × Int) × List wAA × List wAA
def rsB (r:wAL) (L:Int) (x99:List Int) (y149:List (Int × Bool)):Nat->RS2->Option RS2:=fun k258 (l247,l250,l254) =>
        (idx r.Teams (↑k258:Int)).bind fun x293 =>
        (chk (↑k258:Int) x99.length).bind fun _ =>
        if (wCt y149 x293.Bib false)=true then
          (app 24 l254 [(⟨x293.Bib,0,0⟩:wAA)]).bind fun x346 =>
          some ((mput l247 x293.Bib (gd x99 k258)),l250,x346)
        else
          (idx (after r) (↑k258:Int)).bind fun x364 =>
          if (↑x364.length:Int) < L then
            (app 24 l254 [(⟨x293.Bib,0,0⟩:wAA)]).bind fun x390 =>
            some ((mput l247 x293.Bib (gd x99 k258)),l250,x390)
          else
            (idx x364 (w64 (L - 1))).bind fun x434 =>
            (wBu x293).bind fun x441 =>
            (app 24 l250 [(⟨x293.Bib,0,w64 (x434 + (w64 (x441 * r.Rules.Unused)))⟩:wAA)]).bind fun x456 =>
            some ((mput l247 x293.Bib (gd x99 k258)),x456,l254)
theorem wOJ {r:wAL} (g:wGW r):wBV r =
      (wBM ⟨r,after r⟩).bind fun x46 =>
      (wCm x46).bind fun (x83,_) =>
      (wBy x46).bind fun (x99,_) =>
      (wCG 0 (↑x83.length:Int) (fun k144 l141 =>
        (chk (↑k144:Int) x83.length).bind fun _ =>
        some (mput l141 ((gd x83 k144).Bib) true)) ([]:List (Int × Bool))).bind fun y149 =>
      (wCG 0 (↑r.Teams.length:Int) (rsB r x46.Laps x99 y149) (([]:List (Int × Int)),[],[])).bind fun (y263,y264,y265) =>
      (wAX y264 (fun x=>wBN x.1 x.2)).bind fun x508 =>
      (wAX y265 (fun x=>wBO x.1 x.2 y263)).bind fun x532 =>
      (wCG 0 (↑x508.length:Int) pB x508).bind fun y555 =>
      (app 24 y555 x532).bind fun x615 =>
      some (x615,(0:Int)):=by
  unfold wBV
  rw [wHu g,nA]
  rfl
theorem wQX {r:wAL} (g:wGW r):wBM ⟨r,after r⟩=some (wBw r):=by
 have:=wQM g
 unfold wDI at this
 rw [wHu g] at this
 simp only [nA,if_true] at this
 cases h:wBM ⟨r,after r⟩ with
 | none=>rw [h] at this;cases this
 | some x =>
  rw [h] at this
  have:=nQ this
  exact congrArg some (congrArg Prod.fst this)
theorem wLT:∀ (A:List wAD) (m:List (Int × Bool)) (b:Int),wCt (A.foldl (fun m o=>mput m o.Bib true) m) b false=((A.any fun o=>decide (o.Bib=b)) || wCt m b false)
 | [],_,_=>by simp
 | o :: A,m,b=>by
  rw [ke,wLT A,kj]
  unfold wCt
  rw [wHx]
  by_cases c:b=o.Bib
  ·rw [if_pos c,decide_eq_true c.symm];simp
  ·rw [if_neg c,decide_eq_false (fun h=>c h.symm)];simp
theorem wRb {A:List wAD} (hA:A.length <= 100000):(wCG 0 (↑A.length:Int) (fun k144 l141 =>
        (chk (↑k144:Int) A.length).bind fun _ =>
        some (mput l141 ((gd A k144).Bib) true)) ([]:List (Int × Bool)))=some (A.foldl (fun m o=>mput m o.Bib true) []):=by
  rw [wCV (S:=List (Int × Bool)) (n:=A.length) (fun k=>(A.take k).foldl (fun m o=>mput m o.Bib true) []) (s0:=[]) rfl (by omega) fun k hk=>?_]
  · rw [nH]
  · rw [wDX (by omega) (by omega),nA,wDE hk,aB];rfl
structure ResP (rs:List Rc) (F O:List wAA):Prop where
 fp:F.Perm (wOG rs)
 fo:F.Pairwise (lt2 (·.Time) (·.Bib))
 op:O.Perm (wOH rs)
 oo:O.Pairwise (lt2 (fun x=>-(wCt (wGX rs) x.Bib 0)) (·.Bib))
theorem wJh {r:wAL} (g:wGW r) {p:wAI} {A:List wAD} {τ:Nat->Option Int} (e:wCl (wBw r)=some (p,A)) (R:RunP (wBw r) p.done A τ) :
  ∃ F O,wBV r=some (wBm F ++ O,0)/\ResP (wGu r A p.done) F O:=by
 have W:=wLQ g
 have hn:=g.n
 have hb:(wBw r).Bibs.length=r.Teams.length:=by show (r.Teams.map _).length=_;rw [nD]
 have hal:(after r).length=r.Teams.length:=by unfold after;rw [nD]
 have nd:((wGu r A p.done).map (·.bib)).Nodup:=by rw [wLS];exact g.bibs
 rw [wOJ g,wQX g,nA,wLP W e,nA]
 simp only
 rw [wJf W e,nA]
 simp only
 rw [wRb R.al,nA]
 rw [wCV (S:=RS2) (n:=r.Teams.length) (fun k=>(wGX ((wGu r A p.done).take k),wOG ((wGu r A p.done).take k),wOH ((wGu r A p.done).take k))) (s0:=([],[],[])) rfl (by omega) fun k hk=>?_]
 ·rw [nA]
  simp only
  rw [<- wFk r A p.done,nH]
  have hlen:=wFk r A p.done
  have hfl:=wNQ (wGu r A p.done)
  have hol:=wNR (wGu r A p.done)
  obtain ⟨F,e1,f1,f2⟩:=wVG (h:=fun x=>wBN x.1 x.2) (·.Time) (·.Bib) (fun a b=>cmpR1 a b) (l:=wOG (wGu r A p.done)) (by omega) (wSP nd)
  obtain ⟨O,e2,o1,o2⟩:=wVG (h:=fun x=>wBO x.1 x.2 (wGX (wGu r A p.done))) (fun x=>-(wCt (wGX (wGu r A p.done)) x.Bib 0)) (·.Bib) (fun a b=>cmpR2 _ a b) (l:=wOH (wGu r A p.done)) (by omega) (wSQ nd)
  have lf:=f1.length_eq
  have lo:=o1.length_eq
  unfold wAX
  rw [e1,nA,e2,nA,wQW (by omega),nA,wCw (by rw [wBP];omega),nA]
  exact ⟨F,O,rfl,f1,f2,o1,o2⟩
 ·have gt:=g.team _ (wAe hk)
  have hfl:=wNQ ((wGu r A p.done).take k)
  have hol:=wNR ((wGu r A p.done).take k)
  rw [nR,wFk] at hfl hol
  unfold rsB
  simp only
  rw [wAm hk,nA,wDX (by omega) (by rw [R.dl,hb];omega),nA,wLT,wQS r A p.done hk,wOI,wQT,wQU]
  have m0:wCt ([]:List (Int × Bool)) (gd r.Teams k).Bib false=false:=rfl
  rw [m0,Bool.or_false]
  by_cases c:(A.any fun o=>decide (o.Bib=(gd r.Teams k).Bib))=true
  ·have nf:¬ (wHO r A p.done k).fin=true:=by unfold wHO;simp only [c];simp
   rw [if_pos c,wCw (by simp only [nJ,kJ];omega),nA,if_neg nf,if_neg nf]
   rfl
  ·rw [if_neg c,wAm (by omega),nA]
   have hle:=W.le (gd (after r) k) (wAe (l:=(wBw r).Times) (k:=k) (show k < (after r).length by omega))
   have hlp:=W.laps
   have c':(A.any fun o=>decide (o.Bib=(gd r.Teams k).Bib))=false:=by simpa using c
   by_cases d:((gd (after r) k).length:Int) < (wBw r).Laps
   ·have nf:¬ (wHO r A p.done k).fin=true:=by
     unfold wHO
     simp only [Bool.and_eq_true,decide_eq_true_eq]
     omega
    rw [if_pos d,wCw (by simp only [nJ,kJ];omega),nA,if_neg nf,if_neg nf]
    rfl
   ·have yf:(wHO r A p.done k).fin=true:=by
     unfold wHO
     simp only [c',Bool.not_false,Bool.true_and,decide_eq_true_eq]
     omega
    have et:gd (after r) k ∈ (wBw r).Times:=wAe (l:=(wBw r).Times) (k:=k) (show k < (after r).length by omega)
    have hidx:((wBw r).Laps - 1).toNat < (gd (after r) k).length:=by omega
    have hpos:=W.g.pos _ et _ (wAe hidx)
    have hu:=wGt g.rules gt.leg
    have hlg:=gt.legs;have hc4:=g.rules.n;have hun:=g.rules.unused
    have hm0:0 <= unT (gd r.Teams k).Legs * r.Rules.Unused:=nX hu.1 hun.1
    have hm1:unT (gd r.Teams k).Legs * r.Rules.Unused <= 48 * 6000:=nY (by omega) hun.2 hun.1 (by omega)
    rw [if_neg d,wAU (x:=(wBw r).Laps - 1) (by omega) (by omega),show (wBw r).Laps - 1=((((wBw r).Laps - 1).toNat:Nat):Int) by omega,wAm hidx,nA,wQR g.rules gt,nA,wAU (x:=unT (gd r.Teams k).Legs * r.Rules.Unused) (by omega) (by omega),wAU (by omega) (by omega),wCw (by simp only [nJ,kJ];omega),nA,if_pos yf,if_pos yf]
    unfold wVH wHO
    rfl
end Go.Proofs.YtglpalgiipahjaaGreat
namespace Go.Proofs.YtglpalgiipahjaaGreat
open Go.KL
structure wGY (r:wAM) (A:List wAD) (τ:Nat->Option Int):Prop where
 ex:∀ i,i < r.Bibs.length->∀ j,j < r.Bibs.length->∀ t ∈ gd r.Times j,nbf τ i t->(τ i=some t ↔ ∃ k,lap r τ i t k)
 in_:∀ i s,i < r.Bibs.length->τ i=some s->∃ l ∈ r.Times,s ∈ l
 ents:Ents r τ A
 ord:A.Pairwise ltO
theorem RunP.found {r:wAM} {D:List Int} {A:List wAD} {τ:Nat->Option Int} (h:RunP r D A τ):wGY r A τ:=⟨h.ex,h.in_,h.ents,h.ord⟩
theorem wRc {τ τ':Nat->Option Int} {m:Nat} {j:Nat} (hp:∀ s,τ' j=some s->0 <= s) (ih:∀ k:Nat,k < m->τ' j=some (k:Int)->τ j=some (k:Int)) (h:nbf τ j m):nbf τ' j m:=fun s hs=>by
 rcases Int.lt_or_le s m with c | c
 ·have h0:=hp s hs
  obtain ⟨k,rfl⟩:∃ k:Nat,s=k:=⟨s.toNat,by omega⟩
  exact absurd (h k (ih k (by omega) hs)) (by omega)
 ·exact c
theorem wRd {r:wAM} (G:wIt r) {A A':List wAD} {τ τ':Nat->Option Int} (F:wGY r A τ) (F':wGY r A' τ'):∀ (m:Nat) (i:Nat),i < r.Bibs.length->(τ i=some (m:Int) ↔ τ' i=some (m:Int)):=by
 have pos:∀ {A:List wAD} {τ:Nat->Option Int},wGY r A τ->∀ i,i < r.Bibs.length->∀ s,τ i=some s->0 <= s:=fun F i hi s h=>by
  obtain ⟨l,hl,hs⟩:=F.in_ i s hi h
  exact (G.pos l hl s hs).1
 have one:∀ {A A':List wAD} {τ τ':Nat->Option Int},wGY r A τ->wGY r A' τ'->∀ m:Nat,(∀ k:Nat,k < m->∀ i,i < r.Bibs.length->(τ i=some (k:Int) ↔ τ' i=some (k:Int)))->∀ i,i < r.Bibs.length->τ i=some (m:Int)->τ' i=some (m:Int):=fun {A A' τ τ'} F F' m ih i hi h=>by
  have nb:∀ j,j < r.Bibs.length->nbf τ j m->nbf τ' j m:=fun j hj=>wRc (pos F' j hj) fun k hk=>(ih k hk j hj).2
  have ni:nbf τ i m:=fun s hs=>by rw [h] at hs;cases hs;exact nS _
  obtain ⟨l,hl,hs⟩:=F.in_ i m hi h
  obtain ⟨q,hq,e⟩:=nE hl
  have hq':q < r.Bibs.length:=by have:=G.t;omega
  have hs':(m:Int) ∈ gd r.Times q:=by rw [wCa hq,e];exact hs
  obtain ⟨k,h1,h2,h3,h4⟩:=(F.ex i hi q hq' m hs' ni).1 h
  exact (F'.ex i hi q hq' m hs' (nb i hi ni)).2 ⟨k,h1,nb k h1 h2,h3,h4⟩
 intro m
 induction m using Nat.strongRecOn with
 | ind m ih =>
  intro i hi
  exact ⟨one F F' m (fun k hk=>ih k hk) i hi,one F' F m (fun k hk j hj=>(ih k hk j hj).symm) i hi⟩
theorem wGv {r:wAM} (G:wIt r) {A A':List wAD} {τ τ':Nat->Option Int} (F:wGY r A τ) (F':wGY r A' τ') {i:Nat} (hi:i < r.Bibs.length):τ i=τ' i:=by
 have key:=wRd G F F'
 have pos:∀ {A:List wAD} {τ:Nat->Option Int},wGY r A τ->∀ s,τ i=some s->∃ m:Nat,s=m:=fun F s h=>by
  obtain ⟨l,hl,hs⟩:=F.in_ i s hi h
  have:=(G.pos l hl s hs).1
  exact ⟨s.toNat,by omega⟩
 cases c:τ i with
 | some s =>
  obtain ⟨m,rfl⟩:=pos F s c
  exact ((key m i hi).1 c).symm
 | none =>
  cases d:τ' i with
  | none=>rfl
  | some s =>
   obtain ⟨m,rfl⟩:=pos F' s d
   rw [(key m i hi).2 d] at c
   cases c
theorem wLU {r:wAM} (G:wIt r) {A A':List wAD} {τ τ':Nat->Option Int} (F:wGY r A τ) (F':wGY r A' τ') {o:wAD} (ho:o ∈ A):o ∈ A':=by
 obtain ⟨i,hi,E⟩:=F.ents.of o ho
 have ti:=wGv G F F' hi
 obtain ⟨o',ho',eb⟩:=F'.ents.all i hi (by rw [<- ti,E.time];simp)
 obtain ⟨i',hi',E'⟩:=F'.ents.of o' ho'
 have:i'=i:=wKW G hi' hi (E'.bib.symm.trans eb)
 subst this
 have et:o.Time=o'.Time:=by
  have h1:=E.time;have h2:=E'.time
  rw [ti,h2] at h1
  exact (nQ h1).symm
 have lp:∀ k,lap r τ i' o.Time k ↔ lap r τ' i' o'.Time k:=fun k=>by
  unfold lap
  rw [et]
  constructor
  ·rintro ⟨h1,h2,h3⟩
   exact ⟨h1,fun s hs=>h2 s (by rw [wGv G F F' h1];exact hs),h3⟩
  ·rintro ⟨h1,h2,h3⟩
   exact ⟨h1,fun s hs=>h2 s (by rw [<- wGv G F F' h1];exact hs),h3⟩
 obtain ⟨j,e1,l1,m1⟩:=E.by_
 obtain ⟨j',e2,l2,m2⟩:=E'.by_
 have b1:=m1 j' ((lp j').2 l2)
 have b2:=m2 j ((lp j).1 l1)
 have hb:=E.bib;have hd:=E.done;have hd':=E'.done
 obtain ⟨a1,a2,a3,a4⟩:=o
 obtain ⟨c1,c2,c3,c4⟩:=o'
 simp only at hb eb hd hd' et e1 e2 ⊢
 have:(⟨a1,a2,a3,a4⟩:wAD)=⟨c1,c2,c3,c4⟩:=by
  rw [hb,eb,hd,hd',et,show a4=c4 by omega]
 rw [this];exact ho'
theorem wQY {r:wAM} (G:wIt r) {A A':List wAD} {τ τ':Nat->Option Int} (F:wGY r A τ) (F':wGY r A' τ'):A=A':=by
 have nd:∀ {A:List wAD},A.Pairwise ltO->A.Nodup:=fun h=>nI.2 (h.imp fun {a b} hab e=>by
  subst e
  unfold ltO at hab
  omega)
 refine kW (le:=ltO) (fun a b _ _ h1 h2=>by unfold ltO at h1 h2;omega) F.ord F'.ord ?_
 exact (List.perm_ext_iff_of_nodup (nd F.ord) (nd F'.ord)).2 fun o=>⟨wLU G F F',wLU G F' F⟩
end Go.Proofs.YtglpalgiipahjaaGreat
namespace Go.Proofs.YtglpalgiipahjaaGreat
open Go.KL
theorem wQZ {a b:Int} (h0:0 <= a) (hb:0 < b):∃ x,rem a b=some x/\0 <= x/\x < b:=by
 refine ⟨a.tmod b,if_neg (by omega),?_,?_⟩
 ·rw [kQ h0];exact Int.emod_nonneg _ (by omega)
 ·rw [kQ h0];exact Int.emod_lt_of_pos _ hb
theorem wMV (x:Int):0 <= wFK x:=by unfold wFK;omega
theorem wTj (x:Int):wFK x < 4294967296:=by unfold wFK;omega
theorem w64u (x:Int):w64 (wFK x)=wFK x:=by
 have:=wMV x
 have:=wTj x
 exact wAU (by omega) (by omega)
theorem wRe (a:Int) {b:Int} (hb:b ≠ 0):∃ x,quo a b=some x:=⟨_,if_neg hb⟩
theorem wMW (d:wAB) (n:Int) (h0:0 <= d.next) (h1:d.next <= 1000000):∃ x d',wAH d n=some (x,d')/\0 <= d'.next/\d'.next <= d.next + 1/\0 <= x/\(x < n \/ (n <= 1/\x=0)):=by
 unfold wAH
 by_cases hn:n <= 1
 ·exact ⟨0,d,by rw [if_pos hn],h0,by omega,by omega,.inr ⟨hn,rfl⟩⟩
 rw [if_neg hn]
 by_cases hl:(d.bytes.length:Int)=0
 ·exact ⟨0,d,by rw [if_pos hl],h0,by omega,by omega,.inl (by omega)⟩
 rw [if_neg hl]
 obtain ⟨r,e1,r0,r1⟩:=wQZ h0 (show (0:Int) < d.bytes.length by omega)
 obtain ⟨b,e2⟩:∃ b,idx d.bytes r=some b:=by
  unfold idx
  rw [if_pos r0,nq (by omega)]
  exact ⟨_,rfl⟩
 obtain ⟨q,e3⟩:=wRe d.next (b:=d.bytes.length) hl
 obtain ⟨st,e4,_,_⟩:=wQZ (wMV ((wFK ((wFK ((wFK (d.state * 45)) + (wFK b))) + (wFK (77 * (wFK q))))) + 1)) (b:=65519) (by decide)
 rw [e1,nA,e2,nA,e3,nA,e4,nA,wAU (x:=d.next + 1) (by omega) (by omega)]
 have fin:∀ z:Int,∃ x d',((rem (w64 (wFK z)) n).bind fun x=>some (x,(⟨d.bytes,d.next + 1,st⟩:wAB)))=some (x,d')/\0 <= d'.next/\d'.next <= d.next + 1/\0 <= x/\(x < n \/ (n <= 1/\x=0)):=by
  intro z
  obtain ⟨x,e5,x0,x1⟩:=wQZ (a:=w64 (wFK z)) (b:=n) (by rw [w64u];exact wMV z) (by omega)
  exact ⟨x,_,by rw [e5];rfl,by show 0 <= d.next + 1;omega,by show d.next + 1 <= _;omega,x0,.inl x1⟩
 by_cases c1:wFK q=0
 ·rw [if_pos c1]
  by_cases c2:n <= 256
  ·rw [if_pos c2];exact fin _
  ·rw [if_neg c2];exact fin _
 ·rw [if_neg c1];exact fin _
theorem wTk (d:wAB) (a b:Int) (h0:0 <= d.next) (h1:d.next <= 1000000) (ha:-1000000 <= a) (hab:a <= b) (hb:b <= 1000000):∃ x d',wAQ d a b=some (x,d')/\0 <= d'.next/\d'.next <= d.next + 1/\a <= x/\x <= b:=by
 unfold wAQ
 rw [wAU (x:=b - a) (by omega) (by omega),wAU (x:=b - a + 1) (by omega) (by omega)]
 obtain ⟨x,d',e,n0,n1,x0,x1⟩:=wMW d (b - a + 1) h0 h1
 refine ⟨a + x,d',?_,n0,n1,by omega,by omega⟩
 rw [e,nA]
 simp only
 rw [wAU (by omega) (by omega)]
end Go.Proofs.YtglpalgiipahjaaGreat
namespace Go.Proofs.YtglpalgiipahjaaGreat
open Go.KL
theorem wRf {l:List Int} {i k:Int} (i0:0 <= i) (i1:i < l.length) (k0:0 <= k) (k1:k < l.length):(nK (nK l i.toNat (gd l k.toNat)) k.toNat (gd l i.toNat)).Perm l:=by
 rw [wCa (show k.toNat < l.length by omega),wCa (show i.toNat < l.length by omega)]
 exact List.set_set_perm (by omega) (by omega)
theorem wOK (d:wAB) (n:Nat) (h0:0 <= d.next) (h1:d.next <= 100000) (hn:n <= 1000):∃ l d',wBB d (n:Int)=some (l,d')/\0 <= d'.next/\d'.next <= d.next + n/\l.Perm ((nU n).map fun (k:Nat)=>(k:Int)):=by
 unfold wBB
 have e1:max (0:Int) n=n:=by omega
 rw [e1,wEm (by omega)]
 obtain ⟨s,hs,hI⟩:=wFg (body:=fun (k19:Nat) (l15:List Int)=>(app 8 l15 [(k19:Int)]).bind fun x47=>some x47) (fun k l=>l=(nU k).map fun (k:Nat)=>(k:Int)) n 0 [] rfl (fun i s _ hi e=>by
  subst e
  refine ⟨_,by rw [app,if_pos (by simp;omega)];rfl,?_⟩
  rw [kc,nP];rfl)
 rw [hs,nA]
 rw [kH] at hI
 have hlen:s.length=n:=by rw [hI];simp
 rw [wAU (by omega) (by omega)]
 refine (wHw (I:=fun j (st:List Int × Int × Int × List Int × Int)=>st.2.2.2.1.Perm s/\0 <= st.2.1/\st.2.1 <= d.next + j/\st.2.2.2.2=(s.length:Int) - 1 - j) (Z:=fun (b:List Int × wAB)=>0 <= b.2.next/\b.2.next <= d.next + n/\b.1.Perm s) n ?_ ⟨List.Perm.refl _,by simpa using h0,by simp,by simp⟩ (by omega)).elim fun b hb=>⟨b.1,b.2,hb.1,hb.2.1,hb.2.2.1,hI ▸ hb.2.2.2⟩
 rintro j ⟨b,nx,st,l,i⟩ hj ⟨hp,n0,n1,hi⟩
 simp only at hp n0 n1 hi ⊢
 have hl:l.length=s.length:=hp.length_eq
 by_cases c:0 < i
 ·left
  refine ⟨by omega,?_⟩
  rw [if_pos c,wAU (x:=i + 1) (by omega) (by omega)]
  obtain ⟨x,d',e,m0,m1,x0,x1⟩:=wMW ⟨b,nx,st⟩ (i + 1) n0 (by simp only;omega)
  have x1':x < l.length:=by omega
  rw [e,nA]
  simp only
  rw [wDX x0 (by omega),nA,wDX (by omega) (by omega),nA,wDX x0 (by rw [nZ];omega),nA,wAU (by omega) (by omega)]
  exact ⟨_,rfl,(wRf (by omega) (by omega) x0 x1').trans hp,m0,by simp only at m1 ⊢;omega,by simp only;omega⟩
 ·right
  rw [if_neg c]
  exact ⟨_,rfl,n0,by simp only;omega,hp⟩
theorem wRg {α:Type} [Inhabited α] {l:List α} {p:List Int} (h:p.Perm ((nU l.length).map fun (k:Nat)=>(k:Int))):(p.map fun i=>gd l i.toNat).Perm l:=by
 have:=h.map fun i=>gd l i.toNat
 refine this.trans ?_
 rw [nk]
 have e:(nU l.length).map ((fun i:Int=>gd l i.toNat) ∘ fun (k:Nat)=>(k:Int))=l:=by
  refine List.ext_getElem (by simp) fun i h1 h2=>?_
  simp only [nG,ku,Function.comp]
  rw [nL,wCa h2]
 rw [e]
end Go.Proofs.YtglpalgiipahjaaGreat
namespace Go.Proofs.YtglpalgiipahjaaGreat
open Go.KL
def wNS (n:Nat):List Int:=(nU n).map fun (k:Nat)=>(k:Int)
theorem wRh (n:Nat):(wNS n).length=n:=by unfold wNS;simp
theorem wTl (n:Nat):(wNS n).Pairwise (· < ·):=by
 unfold wNS
 rw [nv]
 exact kf.imp fun h=>by omega
theorem wTm {n:Nat}:∀ i ∈ wNS n,0 <= i/\i < n:=by
 intro i hi
 obtain ⟨k,hk,e⟩:=nN.1 hi
 have:=nj.1 hk
 omega
def tn (τ:List Int) (x:Nat):Nat:=(gd τ x).toNat
theorem wSR {α:Type} [Inhabited α] {l:List α} {a:α} (h:a ∈ l):∃ i,i < l.length/\gd l i=a:=by
 obtain ⟨i,hi,e⟩:=nE h
 exact ⟨i,hi,by rw [wCa hi,e]⟩
theorem wDK {n:Nat} {o:List Int} (h:o.Perm (wNS n)):o.length=n/\(∀ i ∈ o,0 <= i/\i < (n:Int))/\o.Nodup :=
 ⟨by rw [h.length_eq,wRh],fun i hi=>wTm _ (h.mem_iff.1 hi),h.nodup_iff.2 (nI.2 ((wTl n).imp fun h=>by omega))⟩
theorem wMX {n:Nat} {o:List Int} (h:o.Perm (wNS n)) {k:Nat} (hk:k < n):0 <= gd o k/\gd o k < (n:Int):=by
 obtain ⟨h1,h2,_⟩:=wDK h
 exact h2 _ (wAe (by omega))
def wQp (r:wAM) (σ:List Int):wAM:=⟨r.Laps,σ.map fun i=>gd r.Bibs i.toNat,σ.map fun i=>gd r.Times i.toNat⟩
section
variable {r:wAM} {σ:List Int} (h:σ.Perm (wNS r.Bibs.length))
include h
theorem wNT:(wQp r σ).Bibs.length=r.Bibs.length:=by
 show (σ.map _).length=_
 rw [nD,(wDK h).1]
theorem wEQ {i:Nat} (hi:i < r.Bibs.length):tn σ i < r.Bibs.length/\gd (wQp r σ).Bibs i=gd r.Bibs (tn σ i)/\gd (wQp r σ).Times i=gd r.Times (tn σ i):=by
 have hg:=wMX h hi
 have hl:=(wDK h).1
 exact ⟨by unfold tn;omega,wEP _ (by omega),wEP _ (by omega)⟩
theorem wKb {k:Nat} (hk:k < r.Bibs.length):∃ i,i < r.Bibs.length/\tn σ i=k:=by
 have hl:=(wDK h).1
 have:(k:Int) ∈ σ:=h.mem_iff.2 (nN.2 ⟨k,nj.2 hk,rfl⟩)
 obtain ⟨i,hi,e⟩:=wSR this
 exact ⟨i,by omega,by unfold tn;omega⟩
theorem lapm {τ:Nat->Option Int} {i j:Nat} (hi:i < r.Bibs.length) (hj:j < r.Bibs.length) {t:Int}:lap (wQp r σ) (fun i=>τ (tn σ i)) i t j ↔ lap r τ (tn σ i) t (tn σ j):=by
 obtain ⟨a1,a2,a3⟩:=wEQ h hi
 obtain ⟨b1,b2,b3⟩:=wEQ h hj
 unfold lap
 rw [wNT h,a3,b3]
 exact ⟨fun ⟨_,c⟩=>⟨b1,c⟩,fun ⟨_,c⟩=>⟨hj,c⟩⟩
theorem wOL (G:wIt r) {A:List wAD} {τ:Nat->Option Int} (F:wGY r A τ):wGY (wQp r σ) A (fun i=>τ (tn σ i)):=by
 have hb:=wNT h
 have hex:∀ i t,i < r.Bibs.length->((∃ k,lap (wQp r σ) (fun i=>τ (tn σ i)) i t k) ↔ ∃ k,lap r τ (tn σ i) t k):=fun i t hi=>by
  constructor
  ·rintro ⟨k,hk⟩
   have hk1:k < r.Bibs.length:=by rw [<- hb];exact hk.1
   exact ⟨tn σ k,(lapm h hi hk1).1 hk⟩
  ·rintro ⟨k,hk⟩
   obtain ⟨k',h1,rfl⟩:=wKb h hk.1
   exact ⟨k',(lapm h hi h1).2 hk⟩
 refine ⟨fun i hi j hj t htj hn=>?_,fun i s hi hs=>?_,⟨fun o ho=>?_,fun i hi hn=>?_,F.ents.one⟩,F.ord⟩
 ·rw [hb] at hi hj
  obtain ⟨a1,a2,a3⟩:=wEQ h hi
  obtain ⟨b1,b2,b3⟩:=wEQ h hj
  rw [b3] at htj
  rw [hex i t hi]
  exact F.ex _ a1 _ b1 t htj hn
 ·rw [hb] at hi
  obtain ⟨a1,a2,a3⟩:=wEQ h hi
  obtain ⟨l,hl,hs2⟩:=F.in_ _ s a1 hs
  obtain ⟨k,hk,ek⟩:=wSR hl
  have ht:=G.t
  obtain ⟨j,hj,ej⟩:=wKb h (k:=k) (by omega)
  obtain ⟨b1,b2,b3⟩:=wEQ h hj
  refine ⟨l,?_,hs2⟩
  rw [<- ek,<- ej,<- b3]
  refine wAe ?_
  show j < (σ.map _).length
  rw [nD,(wDK h).1]
  exact hj
 ·obtain ⟨i,hi,E⟩:=F.ents.of o ho
  obtain ⟨j,hj,rfl⟩:=wKb h hi
  obtain ⟨b1,b2,b3⟩:=wEQ h hj
  refine ⟨j,by rw [hb];exact hj,by rw [b2];exact E.bib,E.time,by rw [b3];exact E.done,?_⟩
  obtain ⟨k,e,hl,hmin⟩:=E.by_
  obtain ⟨k',hk',rfl⟩:=wKb h hl.1
  obtain ⟨c1,c2,c3⟩:=wEQ h hk'
  refine ⟨k',by rw [c2];exact e,(lapm h hj hk').2 hl,fun q hq=>?_⟩
  have hq1:q < r.Bibs.length:=by rw [<- hb];exact hq.1
  rw [c2,(wEQ h hq1).2.1]
  exact hmin _ ((lapm h hj hq1).1 hq)
 ·rw [hb] at hi
  obtain ⟨a1,a2,a3⟩:=wEQ h hi
  obtain ⟨o,ho,e⟩:=F.ents.all _ a1 hn
  exact ⟨o,ho,by rw [a2];exact e⟩
end
end Go.Proofs.YtglpalgiipahjaaGreat
namespace Go.Proofs.YtglpalgiipahjaaGreat
open Go.KL
def wCW (d:wAB) (n:Int):Prop:=0 <= d.next/\d.next <= n
theorem wGw {d:wAB} {N:Int} (h:wCW d N) (hN:N <= 1000000) (n:Int):∃ x d',wAH d n=some (x,d')/\wCW d' (N + 1)/\0 <= x/\(x < n \/ (n <= 1/\x=0)):=by
 obtain ⟨x,d',e,a,b,c⟩:=wMW d n h.1 (by have:=h.2;omega)
 exact ⟨x,d',e,⟨a,by have:=h.2;omega⟩,c⟩
theorem wIw {d:wAB} {N:Int} (h:wCW d N) (hN:N <= 1000000) {a b:Int} (ha:-1000000 <= a) (hab:a <= b) (hb:b <= 1000000):∃ x d',wAQ d a b=some (x,d')/\wCW d' (N + 1)/\a <= x/\x <= b:=by
 obtain ⟨x,d',e,c,c2,c3⟩:=wTk d a b h.1 (by have:=h.2;omega) ha hab hb
 exact ⟨x,d',e,⟨c,by have:=h.2;omega⟩,c3⟩
theorem wNU {d:wAB} {N:Int} (h:wCW d N) (hN:N <= 1000000) (n:Int):∃ x d',wAb d n=some (x,d')/\wCW d' (N + 1):=by
 obtain ⟨x,d',e,c,_⟩:=wGw h hN n
 exact ⟨decide (x=0),d',by unfold wAb;rw [e];rfl,c⟩
theorem wGZ (b:Bool):∀ (l:List Bool) (k:Nat),wDf (l ++ [b]) k=(wDf l k).bind fun m=>if m=5 then none else some (m + if b=true then 1 else 0)
 | [],k=>rfl
 | c :: l,k=>by
  rw [kA,wDf,wDf]
  split
  ·rfl
  ·exact wGZ b l _
theorem wJi:∀ (l:List Bool) (k m:Nat),wDf l k=some m->m <= k + l.length
 | [],k,m,h=>by cases h;simp
 | b :: l,k,m,h=>by
  rw [wDf] at h
  split at h
  ·cases h
  ·have:=wJi l _ m h
   simp only [nJ]
   split at this <;> omega
theorem wRi {d:wAB} {N:Int} (h:wCW d N) (hN:N <= 900000):∃ l d',wAi d=some (l,d')/\wCW d' (N + 18)/\okB l:=by
 unfold wAi
 obtain ⟨⟨l,d'⟩,e,z1,z2⟩:=wHw (S:=List Int × Int × Int × List Bool × Int) (B:=List Bool × wAB) (body:=fun (l31,x34,x35,l36,x40) =>
  if x40 < 5 then
   if (↑l36.length:Int) < 5 then
    (wAb (⟨l31,x34,x35⟩:wAB) 4).bind fun (x61,x62) =>
    (app 1 l36 [!x61]).bind fun x80 =>
    if x61=true then
     some (.inl (x62.bytes,x62.next,x62.state,x80,x40))
    else
     some (.inl (x62.bytes,x62.next,x62.state,x80,w64 (x40 + 1)))
   else
    if (↑l36.length:Int) < 8 then
     (wAb (⟨l31,x34,x35⟩:wAB) 6).bind fun (x112,x113) =>
     if x112=true then
      esc (some (l36,x113))
     else
      (wAb x113 4).bind fun (x132,x133) =>
      (app 1 l36 [!x132]).bind fun x151 =>
      if x132=true then
       some (.inl (x133.bytes,x133.next,x133.state,x151,x40))
      else
       some (.inl (x133.bytes,x133.next,x133.state,x151,w64 (x40 + 1)))
    else
     esc (some (l36,(⟨l31,x34,x35⟩:wAB)))
  else
   esc (some (l36,(⟨l31,x34,x35⟩:wAB))))
  (fun i s=>wCW ⟨s.1,s.2.1,s.2.2.1⟩ (N + 2 * (i:Int))/\s.2.2.2.1.length=i/\∃ m:Nat,wDf s.2.2.2.1 0=some m/\s.2.2.2.2=m) (fun b=>wCW b.2 (N + 18)/\okB b.1) 8
  (by
   rintro i ⟨B,x,s,l,t⟩ hi ⟨h1,h2,m,h3,h4⟩
   simp only at h1 h2 h3 h4 ⊢
   subst h4
   have hm:=(wGp l 0 m (by omega) h3).2
   have hml:=wJi l 0 m h3
   have done:(5 <= l.length)->wCW ⟨B,x,s⟩ (N + 18)/\okB l:=fun h5=>⟨⟨h1.1,by have:=h1.2;omega⟩,h5,by omega,m,h3⟩
   have grow:∀ (c:Bool) (d2:wAB),wCW d2 (N + 2 * ((i + 1:Nat):Int))->m < 5->i < 8 ->
     ∃ s',(if c=true then (some (.inl (d2.bytes,d2.next,d2.state,l ++ [!c],(m:Int))):Option ((List Int × Int × Int × List Bool × Int) ⊕ (List Bool × wAB))) else some (.inl (d2.bytes,d2.next,d2.state,l ++ [!c],w64 ((m:Int) + 1))))=some (.inl s')/\wCW ⟨s'.1,s'.2.1,s'.2.2.1⟩ (N + 2 * ((i + 1:Nat):Int))/\s'.2.2.2.1.length=i + 1/\∃ m':Nat,wDf s'.2.2.2.1 0=some m'/\s'.2.2.2.2=m':=by
    intro c d2 hd h5 h8
    cases c with
    | true=>exact ⟨_,if_pos rfl,hd,by simp [h2],m,by show wDf (l ++ _) 0=_;rw [wGZ,h3,nA,if_neg (by omega)];rfl,rfl⟩
    | false=>exact ⟨_,if_neg (by decide),hd,by simp [h2],m + 1,by show wDf (l ++ _) 0=_;rw [wGZ,h3,nA,if_neg (by omega)];rfl,by show w64 _=_;rw [wAU (by omega) (by omega)];omega⟩
   by_cases c1:(m:Int) < 5
   ·rw [if_pos c1]
    by_cases c2:(l.length:Int) < 5
    ·rw [if_pos c2]
     left
     refine ⟨by omega,?_⟩
     obtain ⟨c,d2,e1,g1⟩:=wNU h1 (by omega) 4
     rw [e1,nA]
     simp only
     rw [wCw (by simp;omega),nA]
     exact grow c d2 ⟨g1.1,by have:=g1.2;omega⟩ (by omega) (by omega)
    ·rw [if_neg c2]
     by_cases c3:(l.length:Int) < 8
     ·rw [if_pos c3]
      obtain ⟨c,d2,e1,g1⟩:=wNU h1 (by omega) 6
      rw [e1,nA]
      simp only
      cases c with
      | true =>
       right
       rw [if_pos rfl]
       refine ⟨_,rfl,⟨g1.1,by have:=g1.2;simp only;omega⟩,(done (by omega)).2⟩
      | false =>
       left
       refine ⟨by omega,?_⟩
       rw [if_neg (by decide)]
       obtain ⟨c,d3,e2,g2⟩:=wNU g1 (by omega) 4
       rw [e2,nA]
       simp only
       rw [wCw (by simp;omega),nA]
       exact grow c d3 ⟨g2.1,by have:=g2.2;omega⟩ (by omega) (by omega)
     ·rw [if_neg c3]
      right
      exact ⟨_,rfl,done (by omega)⟩
   ·rw [if_neg c1]
    right
    exact ⟨_,rfl,done (by omega)⟩) (s0:=(d.bytes,d.next,d.state,[],0)) ⟨⟨h.1,by have:=h.2;simp only;omega⟩,rfl,0,rfl,rfl⟩ (by omega)
 exact ⟨l,d',e,z1,z2⟩
theorem wRj {p:wAJ} {L:Nat} (hL:p.Laps=L) (h0:0 < L) (h3:L <= 3) {pace:Int} (hp:300 <= pace/\pace <= 900) {t:wAF} {sk:Int} (hsk:0 <= sk/\sk < t.Classes.length) {legs:List wAG} (hlegs:legs.length <= 10) {d:wAB} {N:Int} (h:wCW d N) (hN:N <= 800000) {T:Nat} (hT:0 < T) (hT2:T <= 100) :
    ∃ (s':List Int × Int × Int × List wAG × Int) (l:wAG) (i:Nat),iter (S:=List Int × List (List Bool) × List Int × Int × Int × Int × Int) (B:=(List Int × Int × Int × List wAG × Int) ⊕ (List Int × Int × Int × List wAG)) (fun (l1152,l1156,l1161,x1164,x1165,x1166,x1167) =>
            if x1167 < p.Laps then
              if 0 < x1166 then
                (wAH (⟨l1161,x1164,x1165⟩:wAB) 200).bind fun (x1233,x1234) =>
                (app 8 l1152 [w64 (pace + x1233)]).bind fun x1253 =>
                if 0 < x1167 then
                  (wAi x1234).bind fun (x1315,x1316) =>
                  (app 24 l1156 [x1315]).bind fun x1344 =>
                  some (.inl (x1253,x1344,x1316.bytes,x1316.next,x1316.state,w64 (x1166 - 1),w64 (x1167 + 1)))
                else
                  some (.inl (x1253,l1156,x1234.bytes,x1234.next,x1234.state,w64 (x1166 - 1),w64 (x1167 + 1)))
              else
                esc ((app 56 legs [(⟨sk,l1152,l1156⟩:wAG)]).bind fun x1413 =>
                some (.inl (l1161,x1164,x1165,x1413,x1166)))
            else
              esc ((app 56 legs [(⟨sk,l1152,l1156⟩:wAG)]).bind fun x1464 =>
              some (.inl (l1161,x1164,x1165,x1464,x1166)))) big ([],[],d.bytes,d.next,d.state,(T:Int),0)=some (.inl s')/\wCW ⟨s'.1,s'.2.1,s'.2.2.1⟩ (N + 60)/\s'.2.2.2.1=legs ++ [l]/\wEo p t l/\l.Loops.length=i/\i <= L/\0 < i/\i <= T/\s'.2.2.2.2=((T - i:Nat):Int)/\(i=L \/ i=T):=by
  obtain ⟨b,e,s',l,i,rfl,z⟩:=wHw (S:=List Int × List (List Bool) × List Int × Int × Int × Int × Int) (B:=(List Int × Int × Int × List wAG × Int) ⊕ (List Int × Int × Int × List wAG)) (body:=fun (l1152,l1156,l1161,x1164,x1165,x1166,x1167) =>
            if x1167 < p.Laps then
              if 0 < x1166 then
                (wAH (⟨l1161,x1164,x1165⟩:wAB) 200).bind fun (x1233,x1234) =>
                (app 8 l1152 [w64 (pace + x1233)]).bind fun x1253 =>
                if 0 < x1167 then
                  (wAi x1234).bind fun (x1315,x1316) =>
                  (app 24 l1156 [x1315]).bind fun x1344 =>
                  some (.inl (x1253,x1344,x1316.bytes,x1316.next,x1316.state,w64 (x1166 - 1),w64 (x1167 + 1)))
                else
                  some (.inl (x1253,l1156,x1234.bytes,x1234.next,x1234.state,w64 (x1166 - 1),w64 (x1167 + 1)))
              else
                esc ((app 56 legs [(⟨sk,l1152,l1156⟩:wAG)]).bind fun x1413 =>
                some (.inl (l1161,x1164,x1165,x1413,x1166)))
            else
              esc ((app 56 legs [(⟨sk,l1152,l1156⟩:wAG)]).bind fun x1464 =>
              some (.inl (l1161,x1164,x1165,x1464,x1166))))
    (fun i s=>wCW ⟨s.2.2.1,s.2.2.2.1,s.2.2.2.2.1⟩ (N + 20 * (i:Int))/\s.1.length=i/\s.2.1.length=i - 1/\(∀ n ∈ s.1,1 <= n/\n <= 9000)/\(∀ b ∈ s.2.1,okB b)/\i <= T/\i <= L/\s.2.2.2.2.2.1=((T - i:Nat):Int)/\s.2.2.2.2.2.2=(i:Int))
    (fun b=>∃ s' l i,b=.inl s'/\wCW ⟨s'.1,s'.2.1,s'.2.2.1⟩ (N + 60)/\s'.2.2.2.1=legs ++ [l]/\wEo p t l/\l.Loops.length=i/\i <= L/\0 < i/\i <= T/\s'.2.2.2.2=((T - i:Nat):Int)/\(i=L \/ i=T)) L
    (by
      rintro i ⟨lo,bo,B,x,s,td,lp⟩ hi ⟨h1,h2,h4,h5,h6,h7,h8,h9,h10⟩
      simp only at h1 h2 h4 h5 h6 h9 h10 ⊢
      subst h9 h10
      have h1b:x <= N + 20 * (i:Int):=h1.2
      have done:0 < i->(i=L \/ i=T)->∃ b,(esc ((app 56 legs [(⟨sk,lo,bo⟩:wAG)]).bind fun x1413=>(some (.inl (B,x,s,x1413,((T - i:Nat):Int))):Option ((List Int × Int × Int × List wAG × Int) ⊕ (List Int × Int × Int × List wAG)))):Option ((List Int × List (List Bool) × List Int × Int × Int × Int × Int) ⊕ ((List Int × Int × Int × List wAG × Int) ⊕ (List Int × Int × Int × List wAG))))=some (.inr b)/\∃ s' l i,b=.inl s'/\wCW ⟨s'.1,s'.2.1,s'.2.2.1⟩ (N + 60)/\s'.2.2.2.1=legs ++ [l]/\wEo p t l/\l.Loops.length=i/\i <= L/\0 < i/\i <= T/\s'.2.2.2.2=((T - i:Nat):Int)/\(i=L \/ i=T):=by
        intro hi0 hiL
        rw [wCw (by simp;omega),nA]
        exact ⟨_,rfl,_,⟨sk,lo,bo⟩,i,rfl,⟨h1.1,by show x <= _;omega⟩,rfl,⟨by simp only;omega,by simp only;omega,h5,hsk,h6⟩,h2,h8,hi0,h7,rfl,hiL⟩
      rw [hL]
      by_cases c1:(i:Int) < (L:Int)
      · rw [if_pos c1]
        by_cases c2:(0:Int) < ((T - i:Nat):Int)
        · rw [if_pos c2]
          left
          refine ⟨by omega,?_⟩
          obtain ⟨n,d2,e1,g1,n0,n1⟩:=wGw h1 (by omega) 200
          rw [e1,nA]
          simp only
          rw [wAU (x:=pace + n) (by omega) (by omega),wCw (by simp;omega),nA,wAU (x:=((T - i:Nat):Int) - 1) (by omega) (by omega),wAU (x:=(i:Int) + 1) (by omega) (by omega)]
          have hlo:∀ q ∈ lo ++ [pace + n],1 <= q/\q <= 9000:=fun q hq=>by
            rcases nO.1 hq with hq | hq
            · exact h5 q hq
            · simp at hq
              omega
          by_cases c3:(0:Int) < (i:Int)
          · rw [if_pos c3]
            obtain ⟨f,d3,e2,g2,g3⟩:=wRi g1 (by omega)
            rw [e2,nA]
            simp only
            rw [wCw (by simp;omega),nA]
            refine ⟨_,rfl,⟨g2.1,by have:=g2.2;simp only;omega⟩,by simp [h2],by clear done;simp only [nM,nJ,kJ];omega,hlo,fun b hb=>?_,by omega,by omega,by simp only;omega,by simp only;omega⟩
            rcases nO.1 hb with hb | hb
            · exact h6 b hb
            · simp at hb
              subst hb
              exact g3
          · rw [if_neg c3]
            exact ⟨_,rfl,⟨g1.1,by have:=g1.2;simp only;omega⟩,by simp [h2],by simp only;omega,hlo,h6,by omega,by omega,by simp only;omega,by simp only;omega⟩
        · rw [if_neg c2]
          right
          exact done (by omega) (by omega)
      · rw [if_neg c1]
        right
        exact done (by omega) (by omega)) (s0:=([],[],d.bytes,d.next,d.state,(T:Int),0)) ⟨⟨h.1,by have:=h.2;simp only;omega⟩,rfl,rfl,fun n hn=>by simp at hn,fun b hb=>by simp at hb,by omega,by omega,by simp,rfl⟩ (by omega)
  exact ⟨s',l,i,e,z⟩
theorem wLV {p:wAJ} {L C:Nat} (hL:p.Laps=L) (h0:0 < L) (h3:L <= 3) (hC:C <= 4) {pace:Int} (hp:300 <= pace/\pace <= 900) {t:wAF} {n:Nat} (hn:t.Classes.length=n) (hn1:1 <= n) {d:wAB} {N:Int} (h:wCW d N) (hN:N <= 700000) {T:Nat} (hT:T <= C * L) :
    ∃ s':List Int × Int × Int × List wAG,iter (S:=List Int × Int × Int × List wAG × Int) (B:=List Int × Int × Int × List wAG) (fun (l1029,x1032,x1033,l1034,x1039) =>
        if 0 < x1039 then
          (wAH (⟨l1029,x1032,x1033⟩:wAB) (n:Int)).bind fun (x1064,x1065) =>
          iter (fun (l1152,l1156,l1161,x1164,x1165,x1166,x1167) =>
            if x1167 < p.Laps then
              if 0 < x1166 then
                (wAH (⟨l1161,x1164,x1165⟩:wAB) 200).bind fun (x1233,x1234) =>
                (app 8 l1152 [w64 (pace + x1233)]).bind fun x1253 =>
                if 0 < x1167 then
                  (wAi x1234).bind fun (x1315,x1316) =>
                  (app 24 l1156 [x1315]).bind fun x1344 =>
                  some (.inl (x1253,x1344,x1316.bytes,x1316.next,x1316.state,w64 (x1166 - 1),w64 (x1167 + 1)))
                else
                  some (.inl (x1253,l1156,x1234.bytes,x1234.next,x1234.state,w64 (x1166 - 1),w64 (x1167 + 1)))
              else
                esc ((app 56 l1034 [(⟨x1064,l1152,l1156⟩:wAG)]).bind fun x1413 =>
                some (.inl (l1161,x1164,x1165,x1413,x1166)))
            else
              esc ((app 56 l1034 [(⟨x1064,l1152,l1156⟩:wAG)]).bind fun x1464 =>
              some (.inl (l1161,x1164,x1165,x1464,x1166)))) big ([],[],x1065.bytes,x1065.next,x1065.state,x1039,0)
        else
          esc (some (l1029,x1032,x1033,l1034))) big (d.bytes,d.next,d.state,[],(T:Int))=some s'/\wCW ⟨s'.1,s'.2.1,s'.2.2.1⟩ (N + 300)/\s'.2.2.2.length <= C/\(∀ k,k + 1 < s'.2.2.2.length->((gd s'.2.2.2 k).Loops.length:Int)=p.Laps)/\∀ l ∈ s'.2.2.2,wEo p t l:=by
  have hT12:T <= 12:=kE hT (kE (ki hC h3) (by omega))
  obtain ⟨b,e,z⟩:=wHw (S:=List Int × Int × Int × List wAG × Int) (B:=List Int × Int × Int × List wAG) (body:=fun (l1029,x1032,x1033,l1034,x1039) =>
        if 0 < x1039 then
          (wAH (⟨l1029,x1032,x1033⟩:wAB) (n:Int)).bind fun (x1064,x1065) =>
          iter (fun (l1152,l1156,l1161,x1164,x1165,x1166,x1167) =>
            if x1167 < p.Laps then
              if 0 < x1166 then
                (wAH (⟨l1161,x1164,x1165⟩:wAB) 200).bind fun (x1233,x1234) =>
                (app 8 l1152 [w64 (pace + x1233)]).bind fun x1253 =>
                if 0 < x1167 then
                  (wAi x1234).bind fun (x1315,x1316) =>
                  (app 24 l1156 [x1315]).bind fun x1344 =>
                  some (.inl (x1253,x1344,x1316.bytes,x1316.next,x1316.state,w64 (x1166 - 1),w64 (x1167 + 1)))
                else
                  some (.inl (x1253,l1156,x1234.bytes,x1234.next,x1234.state,w64 (x1166 - 1),w64 (x1167 + 1)))
              else
                esc ((app 56 l1034 [(⟨x1064,l1152,l1156⟩:wAG)]).bind fun x1413 =>
                some (.inl (l1161,x1164,x1165,x1413,x1166)))
            else
              esc ((app 56 l1034 [(⟨x1064,l1152,l1156⟩:wAG)]).bind fun x1464 =>
              some (.inl (l1161,x1164,x1165,x1464,x1166)))) big ([],[],x1065.bytes,x1065.next,x1065.state,x1039,0)
        else
          esc (some (l1029,x1032,x1033,l1034)))
    (fun j s=>wCW ⟨s.1,s.2.1,s.2.2.1⟩ (N + 61 * (j:Int))/\s.2.2.2.1.length=j/\j <= C/\(∀ l ∈ s.2.2.2.1,wEo p t l)/\∃ td:Nat,s.2.2.2.2=(td:Int)/\td <= T/\(0 < td->j * L + td=T)/\(∀ k,k + 1 < j->((gd s.2.2.2.1 k).Loops.length:Int)=p.Laps)/\(0 < td->∀ k,k < j->((gd s.2.2.2.1 k).Loops.length:Int)=p.Laps))
    (fun s'=>wCW ⟨s'.1,s'.2.1,s'.2.2.1⟩ (N + 300)/\s'.2.2.2.length <= C/\(∀ k,k + 1 < s'.2.2.2.length->((gd s'.2.2.2 k).Loops.length:Int)=p.Laps)/\∀ l ∈ s'.2.2.2,wEo p t l) C
    (by
      rintro j ⟨B,x,s,legs,td0⟩ hj ⟨h1,h2,h4,h5,td,h6,h7,h8,h9,h10⟩
      simp only at h1 h2 h5 h6 h9 h10 ⊢
      subst h6
      by_cases c1:(0:Int) < (td:Int)
      · rw [if_pos c1]
        left
        have c1':0 < td:=by omega
        have hjC:j < C:=by
          have:=h8 c1'
          exact Nat.lt_of_mul_lt_mul_right (a:=L) (by omega)
        refine ⟨hjC,?_⟩
        obtain ⟨sk,d2,e1,g1,k0,k1⟩:=wGw h1 (by omega) (n:Int)
        rw [e1,nA]
        simp only
        obtain ⟨s',l,i,f1,f2,f3,f4,f5,f6,f7,f8,f9,f10⟩:=wRj (p:=p) hL h0 h3 hp (t:=t) (sk:=sk) ⟨k0,by omega⟩ (legs:=legs) (by omega) g1 (by omega) c1' (by omega)
        refine ⟨s',f1,⟨f2.1,by have:=f2.2;omega⟩,by rw [f3];simp [h2],by omega,fun a ha=>?_,td - i,f9,by omega,fun hq=>?_,fun k hk=>?_,fun hq k hk=>?_⟩
        · rw [f3] at ha
          rcases nO.1 ha with ha | ha
          · exact h5 a ha
          · simp at ha
            subst ha
            exact f4
        · have:=h8 c1'
          have hiL:i=L:=by omega
          rw [Nat.add_mul]
          omega
        · rw [f3,wGq (by omega)]
          exact h10 c1' k (by omega)
        · have hiL:i=L:=by omega
          rw [f3]
          rcases nh k j with hk2 | hk2
          · rw [wGq (by omega)]
            exact h10 c1' k hk2
          · have:k=legs.length:=by omega
            subst this
            rw [wNI]
            omega
      · rw [if_neg c1]
        right
        have h1b:x <= N + 61 * (j:Int):=h1.2
        exact ⟨_,rfl,⟨h1.1,by show x <= _;omega⟩,by simp only;omega,fun k hk=>h9 k (by simp only at hk;omega),h5⟩) (s0:=(d.bytes,d.next,d.state,[],(T:Int))) ⟨⟨h.1,by have:=h.2;simp only;omega⟩,rfl,by omega,fun l hl=>by simp at hl,T,rfl,nl _,fun _=>by omega,fun k hk=>by omega,fun _ k hk=>by omega⟩ (by omega)
  exact ⟨b,e,z⟩
end Go.Proofs.YtglpalgiipahjaaGreat
namespace Go.Proofs.YtglpalgiipahjaaGreat
open Go.KL
theorem wNV {N:Int} {n:Nat} (hn:n <= 10) {d:wAB} (h:wCW d N) (hN:N <= 900000):∃ s':List Int × Int × Int × List Int,(wCG 0 (n:Int) (fun (k204:Nat) ((l195,x198,x199,l200):List Int × Int × Int × List Int) =>
      (wAH (⟨l195,x198,x199⟩:wAB) 2).bind fun (x269,x270) =>
      (app 8 l200 [x269]).bind fun x288 =>
      some (x270.bytes,x270.next,x270.state,x288)) (d.bytes,d.next,d.state,[]))=some s'/\wCW ⟨s'.1,s'.2.1,s'.2.2.1⟩ (N + 10)/\s'.2.2.2.length=n/\∀ c ∈ s'.2.2.2,0 <= c/\c <= 3:=by
  rw [wEm (by omega)]
  obtain ⟨s',e,i1,i2,i3⟩:=wFg (S:=List Int × Int × Int × List Int) (body:=fun (k204:Nat) ((l195,x198,x199,l200):List Int × Int × Int × List Int) =>
      (wAH (⟨l195,x198,x199⟩:wAB) 2).bind fun (x269,x270) =>
      (app 8 l200 [x269]).bind fun x288 =>
      some (x270.bytes,x270.next,x270.state,x288)) (fun k s=>wCW ⟨s.1,s.2.1,s.2.2.1⟩ (N + (k:Int))/\s.2.2.2.length=k/\∀ c ∈ s.2.2.2,0 <= c/\c <= 3) n 0 (d.bytes,d.next,d.state,[]) ⟨⟨h.1,by have:=h.2;simp only;omega⟩,rfl,fun c hc=>by simp at hc⟩
    (by
      rintro k ⟨B,x,s,l⟩ _ hk ⟨i1,i2,i3⟩
      simp only at i1 i2 i3 ⊢
      obtain ⟨c,d2,e1,g1,c0,c1⟩:=wGw i1 (by omega) 2
      rw [e1,nA]
      simp only
      rw [wCw (by simp;omega),nA]
      refine ⟨_,rfl,⟨g1.1,by have:=g1.2;simp only;omega⟩,by simp [i2],fun a ha=>?_⟩
      rcases nO.1 ha with ha | ha
      · exact i3 a ha
      · simp at ha
        omega)
  rw [kH] at i1 i2
  exact ⟨s',e,⟨i1.1,by have:=i1.2;omega⟩,i2,i3⟩
theorem wRk {d:wAB} {N:Int} (h:wCW d N) (hN:N <= 800000) {m:Int} (hm:1 <= m/\m <= 4):∃ p d',wCI d m=some (p,d')/\wCW d' (N + 16)/\wDg p/\p.Laps <= 3/\(p.Classes.length:Int) <= m:=by
 unfold wCI
 obtain ⟨a1,d1,e1,g1,u1,v1⟩:=wIw h (by omega) (a:=1) (b:=2) (by omega) (by omega) (by omega)
 rw [e1,nA];simp only
 obtain ⟨a2,d2,e2,g2,u2,v2⟩:=wIw g1 (by omega) (a:=1) (b:=3) (by omega) (by omega) (by omega)
 rw [e2,nA];simp only
 obtain ⟨a3,d3,e3,g3,u3,v3⟩:=wGw g2 (by omega) 100
 rw [e3,nA];simp only
 obtain ⟨a4,d4,e4,g4,u4,v4⟩:=wGw g3 (by omega) 100
 rw [e4,nA];simp only
 obtain ⟨a5,d5,e5,g5,u5,v5⟩:=wGw g4 (by omega) 13
 rw [e5,nA];simp only
 obtain ⟨a6,d6,e6,g6,u6,v6⟩:=wIw g5 (by omega) (a:=1) (b:=m) (by omega) (by omega) (by omega)
 rw [e6,nA];simp only
 obtain ⟨n,rfl⟩:∃ n:Nat,a6=n:=⟨a6.toNat,by omega⟩
 obtain ⟨⟨sB,sx,ss,sl⟩,e7,g7,i2,i3⟩:=wNV (n:=n) (by omega) g6 (by omega)
 simp only at g7 i2 i3
 rw [e7,nA];simp only
 rw [wAU (x:=200 + a4) (by omega) (by omega),wAU (x:=100 * a5) (by omega) (by omega)]
 refine ⟨_,_,rfl,⟨g7.1,by have:=g7.2;omega⟩,⟨by simp only;omega,i3,by simp only;omega,by simp only;omega,by simp only;omega,by simp only;omega,by simp only;omega⟩,by simp only;omega,by simp only;omega⟩
theorem wTn {d:wAB} {N:Int} (h:wCW d N) (hN:N <= 1000) {m q:Int} (hm:1 <= m/\m <= 8) (hq:1 <= q/\q <= 4):∃ r d',wBp d m q=some (r,d')/\wGW r/\r.Rules.Laps <= 3/\(r.Teams.length:Int) <= m:=by
 unfold wBp
 obtain ⟨p,d1,e1,g1,gp,hl3,_⟩:=wRk h (by omega) hq
 rw [e1,nA];simp only
 obtain ⟨st,d2,e2,g2,u2,v2⟩:=wGw g1 (by omega) 50
 rw [e2,nA];simp only
 obtain ⟨nt,d3,e3,g3,u3,v3⟩:=wIw g2 (by omega) (a:=1) (b:=m) (by omega) (by omega) (by omega)
 rw [e3,nA];simp only
 obtain ⟨n,rfl⟩:∃ n:Nat,nt=n:=⟨nt.toNat,by omega⟩
 have hlap:=gp.laps;have hcl:=gp.n
 obtain ⟨L,hL⟩:∃ L:Nat,p.Laps=L:=⟨p.Laps.toNat,by omega⟩
 rw [wEm (by omega)]
 obtain ⟨s',e,i1,i2,i3,i4,i5⟩:=wFg (S:=List Int × Int × Int × List wAF) (body:=fun k102 (l92,x95,x96,l97) =>
  (wAQ (⟨l92,x95,x96⟩:wAB) 1 9).bind fun (x131,x132) =>
  (wAQ x132 1 5).bind fun (x152,x153) =>
  (wCG 0 x152 (fun k204 (l195,x198,x199,l200) =>
   (wAH (⟨l195,x198,x199⟩:wAB) 2).bind fun (x269,x270) =>
   (app 8 l200 [x269]).bind fun x288 =>
   some (x270.bytes,x270.next,x270.state,x288)) (x153.bytes,x153.next,x153.state,[])).bind fun (y209,y210,y211,y212) =>
  (wAQ (⟨y209,y210,y211⟩:wAB) 300 900).bind fun (x355,x356) =>
  (wAb x356 4).bind fun (x369,x370) =>
  if x369=true then
   (wAH x370 (w64 ((w64 ((↑p.Classes.length:Int) * p.Laps)) + 1))).bind fun (x385,x386) =>
   (iter (fun (l443,x446,x447,l448,x453) =>
    if 0 < x453 then
     (wAH (⟨l443,x446,x447⟩:wAB) (↑y212.length:Int)).bind fun (x478,x479) =>
     iter (fun (l566,l570,l575,x578,x579,x580,x581) =>
      if x581 < p.Laps then
       if 0 < x580 then
        (wAH (⟨l575,x578,x579⟩:wAB) 200).bind fun (x647,x648) =>
        (app 8 l566 [w64 (x355 + x647)]).bind fun x667 =>
        if 0 < x581 then
         (wAi x648).bind fun (x729,x730) =>
         (app 24 l570 [x729]).bind fun x758 =>
         some (.inl (x667,x758,x730.bytes,x730.next,x730.state,w64 (x580 - 1),w64 (x581 + 1)))
        else
         some (.inl (x667,l570,x648.bytes,x648.next,x648.state,w64 (x580 - 1),w64 (x581 + 1)))
       else
        esc ((app 56 l448 [(⟨x478,l566,l570⟩:wAG)]).bind fun x827 =>
        some (.inl (l575,x578,x579,x827,x580)))
      else
       esc ((app 56 l448 [(⟨x478,l566,l570⟩:wAG)]).bind fun x878 =>
       some (.inl (l575,x578,x579,x878,x580)))) big ([],[],x479.bytes,x479.next,x479.state,x453,0)
    else
     esc (some (l443,x446,x447,l448))) big (x386.bytes,x386.next,x386.state,[],x385)).bind fun (l399,x402,x403,l404) =>
   (app 56 l97 [(⟨w64 ((w64 (9 * (↑k102:Int))) + x131),y212,l404⟩:wAF)]).bind fun x951 =>
   some (l399,x402,x403,x951)
  else
   (iter (fun (l1029,x1032,x1033,l1034,x1039) =>
    if 0 < x1039 then
     (wAH (⟨l1029,x1032,x1033⟩:wAB) (↑y212.length:Int)).bind fun (x1064,x1065) =>
     iter (fun (l1152,l1156,l1161,x1164,x1165,x1166,x1167) =>
      if x1167 < p.Laps then
       if 0 < x1166 then
        (wAH (⟨l1161,x1164,x1165⟩:wAB) 200).bind fun (x1233,x1234) =>
        (app 8 l1152 [w64 (x355 + x1233)]).bind fun x1253 =>
        if 0 < x1167 then
         (wAi x1234).bind fun (x1315,x1316) =>
         (app 24 l1156 [x1315]).bind fun x1344 =>
         some (.inl (x1253,x1344,x1316.bytes,x1316.next,x1316.state,w64 (x1166 - 1),w64 (x1167 + 1)))
        else
         some (.inl (x1253,l1156,x1234.bytes,x1234.next,x1234.state,w64 (x1166 - 1),w64 (x1167 + 1)))
       else
        esc ((app 56 l1034 [(⟨x1064,l1152,l1156⟩:wAG)]).bind fun x1413 =>
        some (.inl (l1161,x1164,x1165,x1413,x1166)))
      else
       esc ((app 56 l1034 [(⟨x1064,l1152,l1156⟩:wAG)]).bind fun x1464 =>
       some (.inl (l1161,x1164,x1165,x1464,x1166)))) big ([],[],x1065.bytes,x1065.next,x1065.state,x1039,0)
    else
     esc (some (l1029,x1032,x1033,l1034))) big (x370.bytes,x370.next,x370.state,[],w64 ((↑p.Classes.length:Int) * p.Laps))).bind fun (l985,x988,x989,l990) =>
   (app 56 l97 [(⟨w64 ((w64 (9 * (↑k102:Int))) + x131),y212,l990⟩:wAF)]).bind fun x1537 =>
   some (l985,x988,x989,x1537)) (fun k s=>wCW ⟨s.1,s.2.1,s.2.2.1⟩ (N + 20 + 400 * (k:Int))/\s.2.2.2.length=k/\(∀ t ∈ s.2.2.2,wOA p t)/\(s.2.2.2.map (·.Bib)).Nodup/\∀ t ∈ s.2.2.2,t.Bib <= 9 * (k:Int)) n 0 (d3.bytes,d3.next,d3.state,[]) ⟨⟨g3.1,by have:=g3.2;simp only;omega⟩,rfl,fun t ht=>by simp at ht,by simp,fun t ht=>by simp at ht⟩
  (by
   rintro k ⟨B,x,s,tm⟩ _ hk ⟨i1,i2,i3,i4,i5⟩
   simp only at i1 i2 i3 i4 i5 ⊢
   obtain ⟨b,f1,q1,y1,y2,y3⟩:=wIw i1 (by omega) (a:=1) (b:=9) (by omega) (by omega) (by omega)
   rw [q1,nA];simp only
   obtain ⟨nc,f2,q2,y4,y5,y6⟩:=wIw y1 (by omega) (a:=1) (b:=5) (by omega) (by omega) (by omega)
   rw [q2,nA];simp only
   obtain ⟨nn,rfl⟩:∃ n:Nat,nc=n:=⟨nc.toNat,by omega⟩
   obtain ⟨cs,q3,y7,y8,y9⟩:=wNV (n:=nn) (by omega) y4 (by omega)
   obtain ⟨cB,cx,cst,cl⟩:=cs
   simp only at y7 y8 y9
   rw [q3,nA];simp only
   obtain ⟨pace,f4,q4,z1,z2,z3⟩:=wIw y7 (by omega) (a:=300) (b:=900) (by omega) (by omega) (by omega)
   rw [q4,nA];simp only
   obtain ⟨coin,f5,q5,z4⟩:=wNU z1 (by omega) 4
   rw [q5,nA];simp only
   rw [y8]
   have hCL:w64 ((p.Classes.length:Int) * p.Laps)=((p.Classes.length * L:Nat):Int)/\p.Classes.length * L <= 12:=by
    have:p.Classes.length * L <= 4 * 3:=ki hcl.2 (by omega)
    rw [hL,show (p.Classes.length:Int) * (L:Int)=((p.Classes.length * L:Nat):Int) by rw [Int.natCast_mul],wAU (by omega) (by omega)]
    exact ⟨rfl,by omega⟩
   have fin:∀ (lg:List wAG) (d6:wAB),wCW d6 (N + 20 + 400 * ((k + 1:Nat):Int))->lg.length <= p.Classes.length->(∀ q,q + 1 < lg.length->((gd lg q).Loops.length:Int)=p.Laps)->(∀ l ∈ lg,wEo p ⟨9 * (k:Int) + b,cl,lg⟩ l) ->
     ∃ s',((app 56 tm [(⟨w64 ((w64 (9 * (↑k:Int))) + b),cl,lg⟩:wAF)]).bind fun x951=>some (d6.bytes,d6.next,d6.state,x951))=some s'/\wCW ⟨s'.1,s'.2.1,s'.2.2.1⟩ (N + 20 + 400 * ((k + 1:Nat):Int))/\s'.2.2.2.length=k + 1/\(∀ t ∈ s'.2.2.2,wOA p t)/\(s'.2.2.2.map (·.Bib)).Nodup/\∀ t ∈ s'.2.2.2,t.Bib <= 9 * ((k + 1:Nat):Int):=by
    intro lg d6 hd hlen hfull hgood
    rw [wAU (x:=9 * (k:Int)) (by omega) (by omega),wAU (by omega) (by omega),wCw (by simp;omega),nA]
    refine ⟨_,rfl,hd,by simp [i2],fun t ht=>?_,?_,fun t ht=>?_⟩
    ·rcases nO.1 ht with ht | ht
     ·exact i3 t ht
     ·simp only [ny,nz,or_false] at ht
      subst ht
      exact ⟨by simp only;omega,by simp only;omega,y9,hlen,hfull,hgood⟩
    ·simp only [nP,List.map_cons,List.map_nil]
     rw [na]
     refine ⟨i4,by simp,fun a ha c hc=>?_⟩
     obtain ⟨t,ht,rfl⟩:=nN.1 ha
     simp only [ny,nz,or_false] at hc
     have:=i5 t ht
     omega
    ·rcases nO.1 ht with ht | ht
     ·have:=i5 t ht
      omega
     ·simp only [ny,nz,or_false] at ht
      subst ht
      simp only
      omega
   cases coin with
   | true =>
    rw [if_pos rfl,hCL.1,wAU (by omega) (by omega)]
    obtain ⟨td,f6,q6,z5,t0,t1⟩:=wGw z4 (by omega) (((p.Classes.length * L:Nat):Int) + 1)
    rw [q6,nA];simp only
    obtain ⟨T,rfl⟩:∃ T:Nat,td=T:=⟨td.toNat,by omega⟩
    obtain ⟨⟨wB,wx,ws,lg⟩,q7,w1,w2,w3,w4⟩:=wLV (p:=p) (C:=p.Classes.length) hL (by omega) (by omega) hcl.2 (pace:=pace) ⟨z2,z3⟩ (t:=⟨9 * (k:Int) + b,cl,[]⟩) (n:=nn) y8 (by omega) z5 (by omega) (T:=T) (by omega)
    rw [q7,nA];simp only at w1 w2 w3 w4 ⊢
    exact fin lg ⟨wB,wx,ws⟩ ⟨w1.1,by have:=w1.2;simp only at this ⊢;omega⟩ w2 w3 fun l hl=>⟨(w4 l hl).le,(w4 l hl).bouts,(w4 l hl).loops,(w4 l hl).skier,(w4 l hl).ok⟩
   | false =>
    rw [if_neg (by decide),hCL.1]
    obtain ⟨⟨wB,wx,ws,lg⟩,q7,w1,w2,w3,w4⟩:=wLV (p:=p) (C:=p.Classes.length) hL (by omega) (by omega) hcl.2 (pace:=pace) ⟨z2,z3⟩ (t:=⟨9 * (k:Int) + b,cl,[]⟩) (n:=nn) y8 (by omega) z4 (by omega) (T:=p.Classes.length * L) (nl _)
    rw [q7,nA];simp only at w1 w2 w3 w4 ⊢
    exact fin lg ⟨wB,wx,ws⟩ ⟨w1.1,by have:=w1.2;simp only at this ⊢;omega⟩ w2 w3 fun l hl=>⟨(w4 l hl).le,(w4 l hl).bouts,(w4 l hl).loops,(w4 l hl).skier,(w4 l hl).ok⟩)
 obtain ⟨sB,sx,ss,tm⟩:=s'
 rw [e,nA];simp only at i1 i2 i3 i4 i5 ⊢
 exact ⟨_,_,rfl,⟨gp,by simp only;omega,by simp only;omega,i3,i4⟩,hl3,by simp only;omega⟩
end Go.Proofs.YtglpalgiipahjaaGreat
namespace Go.Proofs.YtglpalgiipahjaaGreat
open Go.KL
theorem wIx {l:List Int} (h:l.length <= 1000):wBC l=some l:=by
 unfold wBC
 rw [wCw (by simp;omega)]
 rfl
theorem wOM {l:List Bool} (h:l.length <= 1000):wBd l=some l:=by
 unfold wBd
 rw [wCw (by simp;omega)]
 rfl
theorem wQa {l:List (List Bool)} (h:l.length <= 1000) (hb:∀ b ∈ l,b.length <= 1000):wBR l=some l:=by
 unfold wBR
 rw [wCV (fun k=>l.take k) (s0:=[]) (by simp) (by omega) fun k hk=>?_]
 ·rw [nH];rfl
 ·rw [wAm hk,nA,wOM (hb _ (wAe hk)),nA,wCw (by simp;omega),nA,wDE hk]
theorem wMY {p:wAJ} (h:p.Classes.length <= 1000):wBW p=some p:=by
 unfold wBW
 rw [wIx h]
 rfl
theorem wRl {r:wAL} (g:wGW r):wBg r=some r:=by
 unfold wBg
 have hn:=g.n;have hc:=g.rules.n;have hL:=g.rules.laps
 rw [wMY (by omega),nA,nA]
 simp only
 rw [wCV (fun k=>r.Teams.take k) (s0:=[]) (by simp) (by omega) fun i hi=>?_]
 ·rw [nH];rfl
 ·have ht:=g.team _ (wAe hi)
  have h1:=ht.n;have h2:=ht.legs
  rw [wAm hi,nA,wIx (by omega),nA,nA,wCV (fun k=>(gd r.Teams i).Legs.take k) (s0:=[]) (by simp) (by omega) fun k hk=>?_]
  ·rw [nA,nH,wCw (by simp;omega),nA,wDE hi]
  ·have hl:=ht.leg _ (wAe hk)
   have g1:=hl.le;have g2:=hl.bouts
   rw [wAm hk,nA,wIx (by omega),nA,wQa (by omega) (fun b hb=>by have:=(hl.ok b hb).2.1;omega),nA,wCw (by simp;omega),nA,wDE hk]
end Go.Proofs.YtglpalgiipahjaaGreat
namespace Go.Proofs.YtglpalgiipahjaaGreat
open Go.KL
theorem wQb {r:wAL} {A:List wAD} {D:List Int} {x:Rc} (h:x ∈ wGu r A D):∃ k,k < r.Teams.length/\x=wHO r A D k:=by
 obtain ⟨k,hk,e⟩:=nN.1 h
 exact ⟨k,nj.1 hk,e.symm⟩
theorem ResP.ofF {rs:List Rc} {F O:List wAA} (P:ResP rs F O) {x:wAA} (h:x ∈ F):∃ y,y ∈ rs/\y.fin=true/\x=wVH y:=by
 obtain ⟨y,hy,e⟩:=nN.1 (P.fp.mem_iff.1 h)
 obtain ⟨h1,h2⟩:=List.mem_filter.1 hy
 exact ⟨y,h1,h2,e.symm⟩
theorem ResP.ofO {rs:List Rc} {F O:List wAA} (P:ResP rs F O) {x:wAA} (h:x ∈ O):∃ y,y ∈ rs/\y.fin=false/\x=wRY y:=by
 obtain ⟨y,hy,e⟩:=nN.1 (P.op.mem_iff.1 h)
 obtain ⟨h1,h2⟩:=List.mem_filter.1 hy
 exact ⟨y,h1,by simpa using h2,e.symm⟩
theorem wJj {α:Type} (p:α->Bool):∀ l:List α,(l.filter p).length + (l.filter fun x=>!p x).length=l.length
 | []=>rfl
 | a :: l=>by
  have:=wJj p l
  by_cases h:p a=true
  ·rw [kY h,kZ (by simp [h]),nJ,nJ];omega
  ·rw [kZ h,kY (by simpa using h),nJ,nJ];omega
theorem ResP.len {rs:List Rc} {F O:List wAA} (P:ResP rs F O):F.length + O.length=rs.length:=by
 rw [P.fp.length_eq,P.op.length_eq]
 unfold wOG wOH
 rw [nD,nD]
 exact wJj _ _
theorem wTo {rs:List Rc} (nd:(rs.map (·.bib)).Nodup) {x y:Rc} (hx:x ∈ rs) (hy:y ∈ rs) (e:x.bib=y.bib):x=y:=by
 obtain ⟨i,hi,ei⟩:=nE hx
 obtain ⟨j,hj,ej⟩:=nE hy
 have pw:=nB.1 (nI.1 nd)
 rcases nw i j with c | c | c
 ·have:=pw i j (by simpa using hi) (by simpa using hj) c
  rw [nG,nG,ei,ej] at this
  exact absurd e this
 ·subst c;rw [<- ei,<- ej]
 ·have:=pw j i (by simpa using hj) (by simpa using hi) c
  rw [nG,nG,ei,ej] at this
  exact absurd e.symm this
theorem wMZ (F:List wAA):(wBm F).map (·.Bib)=F.map (·.Bib):=by
 refine wQL (by rw [nD,nD,wBP]) fun i hi=>?_
 rw [nD,wBP] at hi
 rw [wEP _ (by rw [wBP];exact hi),wEP _ hi,wEp hi]
theorem ResP.nd {rs:List Rc} (nd:(rs.map (·.bib)).Nodup) {F O:List wAA} (P:ResP rs F O):((wBm F ++ O).map (·.Bib)).Nodup:=by
 rw [nP,wMZ,na]
 refine ⟨(P.fp.map _).nodup_iff.2 (wSP nd),(P.op.map _).nodup_iff.2 (wSQ nd),fun a ha b hb e=>?_⟩
 obtain ⟨x,hx,rfl⟩:=nN.1 ha
 obtain ⟨y,hy,rfl⟩:=nN.1 hb
 obtain ⟨u,u1,u2,rfl⟩:=P.ofF hx
 obtain ⟨v,v1,v2,rfl⟩:=P.ofO hy
 have:=wTo nd u1 v1 e
 rw [this,v2] at u2
 cases u2
theorem wVI {F:List wAA} (hF:F.Pairwise (lt2 (·.Time) (·.Bib))):∀ i,i < F.length->∃ m:Nat,plc F i=(m:Int) + 1/\m <= i/\∀ j,j < F.length->((gd F j).Time < (gd F i).Time ↔ j < m):=by
 have mono:∀ i j,i <= j->j < F.length->(gd F i).Time <= (gd F j).Time:=fun i j hij hj=>by
  by_cases c:i=j
  ·rw [c];exact nS _
  ·have:=nB.1 hF i j (by omega) hj (by omega)
   rw [<- wCa (by omega),<- wCa hj] at this
   unfold lt2 at this
   simp only at this
   omega
 intro i
 induction i with
 | zero =>
  intro h
  refine ⟨0,rfl,nl _,fun j hj=>⟨fun c=>?_,fun c=>by omega⟩⟩
  have:=mono 0 j (by omega) hj
  omega
 | succ i ih =>
  intro h
  rw [plc]
  by_cases c:(gd F (i + 1)).Time=(gd F i).Time
  ·obtain ⟨m,m1,m2,m3⟩:=ih (by omega)
   rw [if_pos c,c]
   exact ⟨m,m1,by omega,m3⟩
  ·rw [if_neg c]
   have:=mono i (i + 1) (by omega) h
   refine ⟨i + 1,by omega,nl _,fun j hj=>⟨fun d=>?_,fun d=>?_⟩⟩
   ·rcases nh j (i + 1) with q | q
    ·exact q
    ·have:=mono (i + 1) j q hj;omega
   ·have:=mono j i (by omega) (by omega);omega
theorem wHP {α:Type} [Inhabited α] {p:α->Bool}:∀ {l:List α} {m:Nat},m <= l.length->(∀ j,j < l.length->(p (gd l j)=true ↔ j < m))->l.countP p=m
 | [],m,hm,_=>by simp at hm;subst hm;rfl
 | a :: l,m,hm,h=>by
  have h0:=h 0 (by simp)
  have hs:∀ j,j < l.length->(p (gd l j)=true ↔ j < m - 1):=fun j hj=>by
   have:=h (j + 1) (by simpa using hj)
   have e:gd (a :: l) (j + 1)=gd l j:=rfl
   rw [e] at this
   rw [this];omega
  have e0:gd (a :: l) 0=a:=rfl
  rw [e0] at h0
  simp only [nJ] at hm
  by_cases c:p a=true
  ·have m1:=h0.1 c
   rw [List.countP_cons_of_pos c,wHP (m:=m - 1) (by omega) hs]
   omega
  ·have m0:m=0:=by
    rcases Nat.eq_zero_or_pos m with q | q
    ·exact q
    ·exact absurd (h0.2 q) c
   subst m0
   rw [List.countP_cons_of_neg c,wHP (m:=0) (by omega) hs]
theorem wNW {α:Type} [Inhabited α] {p:α->Bool}:∀ {l:List α} {k m:Nat},m < l.length->p (gd l m)=true->(∀ j,j < m->p (gd l j)=false)->first p l k=((k + m:Nat):Int)
 | [],_,_,h,_,_=>by simp at h
 | a :: l,k,0,_,h,_=>by
  rw [first,if_pos (show p a=true from h)];rfl
 | a :: l,k,m + 1,hm,h,hj=>by
  rw [first,if_neg (by rw [show p a=false from hj 0 (by omega)];simp),wNW (l:=l) (k:=k + 1) (m:=m) (by simpa using hm) h fun j q=>hj (j + 1) (by omega)]
  congr 1;omega
theorem wQc {r:wAL} (g:wGW r) {k:Nat} (hk:k < r.Teams.length) {x:wAA} (e:x.Bib=(gd r.Teams k).Bib):wAR r.Teams (fun y=>wAf y x)=some (k:Int):=by
 have hn:=g.n
 unfold wAR
 have:=wEG (R:=Int) (l:=r.Teams) (f:=fun y=>wAf y x) (p:=fun y=>decide (y.Bib=x.Bib)) (fun a _=>rfl) (by omega) id
 simp only [id] at this
 rw [this,wNW (m:=k) hk (by simp [e]) fun j hj=>?_,kH]
 rw [decide_eq_false_iff_not,e]
 intro c
 have pw:=nB.1 (nI.1 g.bibs) j k (by simp;omega) (by simpa using hk) hj
 rw [nG,nG,<- wCa (by omega),<- wCa hk] at pw
 exact pw c
theorem wTp (l:List wAA) (hl:l.length <= 1000) (x:wAA):wAT l (fun y=>wAg y x)=some (l.any fun y=>decide (y.Bib=x.Bib)):=by
 unfold wAT wAk
 have:=wEG (R:=Int) (l:=l) (f:=fun y=>wAg y x) (p:=fun y=>decide (y.Bib=x.Bib)) (fun a _=>rfl) (by omega) id
 simp only [id] at this
 rw [this]
 simp only [nA,wEn]
theorem wTq (l:List wAD) (hl:l.length <= 100000) (x:wAA):wAY l (fun y=>wAh y x)=some (l.any fun y=>decide (y.Bib=x.Bib)):=by
 unfold wAY wAu
 have:=wEG (R:=Int) (l:=l) (f:=fun y=>wAh y x) (p:=fun y=>decide (y.Bib=x.Bib)) (fun a _=>rfl) (by omega) id
 simp only [id] at this
 rw [this]
 simp only [nA,wEn]
abbrev B4:=Int ⊕ (Int ⊕ (Int ⊕ (Int ⊕ Bool)))
def uI (U:Int) (x525:wAG):Nat->Int->Option B4:=fun k554 x553 =>
                              (idx x525.Bouts (↑k554:Int)).bind fun x589 =>
                              (wCg x589).bind fun (x602,x603) =>
                              if x603=0 then
                                some (.inl (w64 (x553 + (w64 (x602.Unused * U)))))
                              else
                                esc (esc (esc (esc (some false))))
def uO (U:Int) (x467:wAF):Nat->Int->Option (Int ⊕ (Int ⊕ (Int ⊕ Bool))):=fun k493 x492 =>
                            (idx x467.Legs (↑k493:Int)).bind fun x525 =>
                            jn (wFH 0 (↑x525.Bouts.length:Int) (uI U x525) x492) fun y640 =>
                            some (.inl y640)
theorem uO_is {p:wAJ} (gp:wDg p) {t:wAF} (g:wOA p t) {x0:Int} (h0:0 <= x0) (h1:x0 <= 1000000):wFH 0 (↑t.Legs.length:Int) (uO p.Unused t) x0=some (.inl (x0 + unT t.Legs * p.Unused)):=by
 have hl:=g.legs;have hc:=gp.n;have hU:=gp.unused
 rw [wKU (S:=Int) (n:=t.Legs.length) (fun k=>x0 + unT (t.Legs.take k) * p.Unused) (s0:=x0) (by simp [unT]) (by omega) fun k hk=>?_]
 ·rw [nH]
 ·have gl:=g.leg _ (wAe hk)
  have h4:=wKa gp gl
  have hr:=wGt gp (l:=t.Legs.take k) fun a ha=>g.leg a (nV ha)
  rw [nR] at hr
  have m0:0 <= unT (t.Legs.take k) * p.Unused:=nX hr.1 hU.1
  have m1:unT (t.Legs.take k) * p.Unused <= 48 * 6000:=nY (by omega) hU.2 hU.1 (by omega)
  unfold uO
  rw [wAm hk,nA]
  rw [wKU (S:=Int) (n:=(gd t.Legs k).Bouts.length) (fun j=>x0 + unT (t.Legs.take k) * p.Unused + unB ((gd t.Legs k).Bouts.take j) * p.Unused) (s0:=x0 + unT (t.Legs.take k) * p.Unused) (by simp [unB]) (by omega) fun j hj=>?_]
  ·rw [wFx,nH,wDE hk,wKZ,Int.add_mul,kP]
  ·have ho:=gl.ok _ (wAe hj)
   have hb:=wGs (l:=(gd t.Legs k).Bouts.take j) fun b hb=>gl.ok b (nV hb)
   have hu:=wKX ho
   rw [nR] at hb
   have b0:0 <= unB ((gd t.Legs k).Bouts.take j) * p.Unused:=nX hb.1 hU.1
   have b1:unB ((gd t.Legs k).Bouts.take j) * p.Unused <= 12 * 6000:=nY (by omega) hU.2 hU.1 (by omega)
   have u0:0 <= un (gd (gd t.Legs k).Bouts j) * p.Unused:=nX hu.1 hU.1
   have u1:un (gd (gd t.Legs k).Bouts j) * p.Unused <= 3 * 6000:=nY hu.2 hU.2 hU.1 (by omega)
   unfold uI
   rw [wAm hj,nA,wKS ho,nA]
   show (if (0:Int)=0 then some (Sum.inl (w64 (_ + w64 (un (gd (gd t.Legs k).Bouts j) * p.Unused)))) else _)=_
   rw [if_pos rfl,wAU (x:=un (gd (gd t.Legs k).Bouts j) * p.Unused) (by omega) (by omega),wAU (by omega) (by omega),wDE hj,wKY,Int.add_mul,kP,kP]
def cB (l:List wAA) (x240:wAA):Nat->Int->Option Int:=fun k696 x695 =>
                            (idx l (↑k696:Int)).bind fun x730 =>
                            if 0 < x730.Place then
                              if x730.Time < x240.Time then
                                some (w64 (x695 + 1))
                              else
                                some x695
                            else
                              some x695
theorem cB_is (l:List wAA) (hl:l.length <= 1000) (x:wAA):wCG 0 (↑l.length:Int) (cB l x) 1=some (1 + (l.countP (fun y=>decide (0 < y.Place/\y.Time < x.Time)):Int)):=by
 rw [wCV (S:=Int) (n:=l.length) (fun k=>1 + ((l.take k).countP (fun y=>decide (0 < y.Place/\y.Time < x.Time)):Int)) (s0:=1) (by simp) (by omega) fun k hk=>?_]
 ·rw [nH]
 ·have hc:=kh (p:=fun y:wAA=>decide (0 < y.Place/\y.Time < x.Time)) (l:=l.take k)
  rw [nR] at hc
  unfold cB
  rw [wAm hk,nA,wDE hk,ky,List.countP_singleton]
  by_cases c1:0 < (gd l k).Place
  ·rw [if_pos c1]
   by_cases c2:(gd l k).Time < x.Time
   ·rw [if_pos c2,if_pos (by simp [c1,c2]),wAU (by omega) (by omega)]
    congr 1
   ·rw [if_neg c2,if_neg (by simp [c2])] <;> rfl
  ·rw [if_neg c1,if_neg (by simp [c1])] <;> rfl
theorem wRm {rs:List Rc} {F O:List wAA} (P:ResP rs F O) {i:Nat} (hi:i < F.length):((wBm F ++ O).countP (fun y=>decide (0 < y.Place/\y.Time < (gd F i).Time)):Int) + 1=plc F i:=by
 obtain ⟨m,m1,m2,m3⟩:=wVI P.fo i hi
 rw [ky,show O.countP (fun y=>decide (0 < y.Place/\y.Time < (gd F i).Time))=0 from np.2 fun y hy=>by
  obtain ⟨z,_,_,rfl⟩:=P.ofO hy
  simp [wRY]]
 rw [wHP (l:=wBm F) (m:=m) (by rw [wBP];omega) fun j hj=>?_,m1]
 ·omega
 ·rw [wBP] at hj
  rw [wEp hj]
  simp only [decide_eq_true_eq]
  rw [<- m3 j hj]
  have:=wIv F j
  exact ⟨fun h=>h.2,fun h=>⟨by omega,h⟩⟩
end Go.Proofs.YtglpalgiipahjaaGreat
namespace Go.Proofs.YtglpalgiipahjaaGreat
open Go.KL
def wTr (r:wAL) (l:List wAA) (laps:wAM) (cnt:List Int) (k211:Nat) (x210:Int) (x240:wAA) (x270:Int) (b340:Bool):Option (Int ⊕ (Int ⊕ Bool)) :=
                        if b340=true then
                          (idx laps.Times x270).bind fun x438 =>
                          (idx x438 (w64 (laps.Laps - 1))).bind fun x460 =>
                          (idx r.Teams x270).bind fun x467 =>
                          jn (wFH 0 (↑x467.Legs.length:Int) (uO r.Rules.Unused x467) x460) fun y669 =>
                          (wCG 0 (↑l.length:Int) (cB l x240) 1).bind fun y701 =>
                          if 0 <= x210 then
                            esc (esc (some false))
                          else
                            if y669=x240.Time then
                              if y701=x240.Place then
                                if 0 < (↑k211:Int) then
                                  (idx l (w64 ((↑k211:Int) - 1))).bind fun x813 =>
                                  if x240.Time < x813.Time then
                                    esc (esc (some false))
                                  else
                                    if x813.Time=x240.Time then
                                      if x240.Bib <= x813.Bib then
                                        esc (esc (some false))
                                      else
                                        some (.inl x210)
                                    else
                                      some (.inl x210)
                                else
                                  some (.inl x210)
                              else
                                esc (esc (some false))
                            else
                              esc (esc (some false))
                        else
                          if 0 <= x210 then
                            (chk x270 cnt.length).bind fun _ =>
                            (chk x210 cnt.length).bind fun _ =>
                            if (gd cnt x210.toNat) < (gd cnt x270.toNat) then
                              esc (esc (some false))
                            else
                              if (gd cnt x270.toNat)=(gd cnt x210.toNat) then
                                (idx r.Teams x270).bind fun x907 =>
                                (idx r.Teams x210).bind fun x927 =>
                                if x907.Bib < x927.Bib then
                                  esc (esc (some false))
                                else
                                  some (.inl x270)
                              else
                                some (.inl x270)
                          else
                            some (.inl x270)
def kB (r:wAL) (l:List wAA) (laps:wAM) (outs:List wAD) (cnt:List Int):Nat->Int->Option (Int ⊕ Bool):=fun k211 x210 =>
                  jn ((idx l (↑k211:Int)).bind fun x240 =>
                  (wAR r.Teams (fun x=>wAf x x240)).bind fun x270 =>
                  if x270 < 0 then
                    esc (esc (some false))
                  else
                    (cut l 0 (↑k211:Int)).bind fun x289 =>
                    (wAT x289 (fun x=>wAg x x240)).bind fun x305 =>
                    if x305=true then
                      esc (esc (some false))
                    else
                      (wAY outs (fun x=>wAh x x240)).bind fun x330 =>
                      (if x330=true then
                        some false
                      else
                        (idx laps.Times x270).bind fun x350 =>
                        some (decide ((↑x350.length:Int)=laps.Laps))).bind fun b340 =>
                      (if (b340 == (decide (0 < x240.Place)))=true then
                        if b340=true then
                          some false
                        else
                          some (decide (¬ (x240.Time=0)))
                      else
                        some true).bind fun b390 =>
                      if b390=true then
                        esc (esc (some false))
                      else wTr r l laps cnt k211 x210 x240 x270 b340) fun x237 =>
                  some (.inl x237)
def mixL (r:wAL) (σ:List Int):Nat->List wAF->Option (List wAF):=fun k1086 l1081 =>
                  (chk (↑k1086:Int) σ.length).bind fun _ =>
                  (idx r.Teams (gd σ k1086)).bind fun x1119 =>
                  (app 56 l1081 [x1119]).bind fun x1143 =>
                  some x1143
theorem wKc (p0 p1:List Int):wBo p0 p1 =
 (wCR p0).bind fun x1 =>
 (wBp x1 8 4).bind fun (x16,_) =>
 (wCR p1).bind fun x47 =>
 (wBV x16).bind fun (x75,x76) =>
 (wDI x16).bind fun (x91,x92) =>
 (wDk x16).bind fun (x119,x120) =>
 if x76=0 then
  if x92=0 then
   if x120=0 then
    if (↑x75.length:Int)=(↑x16.Teams.length:Int) then
     if (↑x91.Times.length:Int)=(↑x16.Teams.length:Int) then
      (wBy x91).bind fun (x166,x167) =>
      if x167=0 then
       if (↑x166.length:Int)=(↑x16.Teams.length:Int) then
        jn (wFH 0 (↑x75.length:Int) (kB x16 x75 x91 x119 x166) (-1)) fun _ =>
        (wBg x16).bind fun x1007 =>
        (wBB x47 (↑x16.Teams.length:Int)).bind fun (x1047,_) =>
        (wCG 0 (↑x1047.length:Int) (mixL x16 x1047) []).bind fun y1091 =>
        (wBV (⟨x1007.Rules,x1007.Start,y1091⟩:wAL)).bind fun (x1193,x1194) =>
        if x1194=0 then
         (wAw x1193 x75).bind fun x1223 =>
         if x1223=true then
          (wDM).bind fun x1235 =>
          some x1235
         else
          some false
        else
         some false
       else
        some false
      else
       some false
     else
      some false
    else
     some false
   else
    some false
  else
   some false
 else
  some false:=rfl
structure Know (r:wAL) (A:List wAD) (D:List Int) (F O:List wAA):Prop where
 g:wGW r
 al:A.length <= 100000
 dl:D.length=r.Teams.length
 p:ResP (wGu r A D) F O
theorem Know.nd {r A D F O} (K:Know r A D F O):((wGu r A D).map (·.bib)).Nodup:=by rw [wLS];exact K.g.bibs
theorem Know.len {r A D F O} (K:Know r A D F O):F.length + O.length=r.Teams.length:=by rw [K.p.len,wFk]
theorem wLW (r:wAL):(after r).length=r.Teams.length:=by unfold after;rw [nD]
theorem Know.who {r A D F O} (K:Know r A D F O) {i:Nat} (hi:i < (wBm F ++ O).length):∃ k,k < r.Teams.length/\(gd (wBm F ++ O) i).Bib=(gd r.Teams k).Bib /\
    ((i < F.length/\(wHO r A D k).fin=true/\gd (wBm F ++ O) i=⟨(gd r.Teams k).Bib,plc F i,(wHO r A D k).time⟩/\gd F i=⟨(gd r.Teams k).Bib,0,(wHO r A D k).time⟩) \/
     (F.length <= i/\(wHO r A D k).fin=false/\gd (wBm F ++ O) i=⟨(gd r.Teams k).Bib,0,0⟩/\gd O (i - F.length)=⟨(gd r.Teams k).Bib,0,0⟩)):=by
  rw [nM,wBP] at hi
  by_cases c:i < F.length
  · have e:gd (wBm F ++ O) i=gd (wBm F) i:=wGq (by rw [wBP];exact c)
    obtain ⟨y,y1,y2,y3⟩:=K.p.ofF (wAe c)
    obtain ⟨k,hk,rfl⟩:=wQb y1
    have e2:gd F i=⟨(gd r.Teams k).Bib,0,(wHO r A D k).time⟩:=y3
    refine ⟨k,hk,?_,.inl ⟨c,y2,?_,e2⟩⟩
    · rw [e,wEp c,e2]
    · rw [e,wEp c,e2]
  · have hO:i - F.length < O.length:=by omega
    have e:gd (wBm F ++ O) i=gd O (i - F.length):=by
      have h1:=wCH (xs:=wBm F ++ O) (k:=i) (by rw [nM,wBP];omega)
      rw [kR (by rw [wBP];omega),wBP,wCH hO] at h1
      exact (nQ h1).symm
    obtain ⟨y,y1,y2,y3⟩:=K.p.ofO (wAe hO)
    obtain ⟨k,hk,rfl⟩:=wQb y1
    have e2:gd O (i - F.length)=⟨(gd r.Teams k).Bib,0,0⟩:=y3
    exact ⟨k,hk,by rw [e,e2],.inr ⟨by omega,y2,by rw [e,e2],e2⟩⟩
theorem Know.done {r A D F O} (K:Know r A D F O) {k:Nat} (hk:k < r.Teams.length):wCt (wGX (wGu r A D)) (gd r.Teams k).Bib 0=gd D k :=
 wIu K.nd (x:=wHO r A D k) (nN.2 ⟨k,nj.2 hk,rfl⟩)
theorem wQd {α:Type} {l:List α} {k:Nat} (hk:k <= l.length):cut l 0 (k:Int)=some (l.take k):=by
 unfold cut
 rw [if_pos ⟨by omega,by omega,by omega⟩]
 simp
def wQe (r:wAL) (l:List wAA) (f:Nat) (k:Nat) (s:Int):Prop:=(k <= f->s=-1)/\(f < k->∃ q:Nat,s=q/\q < r.Teams.length/\(gd l (k - 1)).Bib=(gd r.Teams q).Bib)
theorem kB_is {r A D F O} (K:Know r A D F O) {i:Nat} (hi:i < (wBm F ++ O).length) {s:Int} (hs:wQe r (wBm F ++ O) F.length i s) :
  ∃ s',kB r (wBm F ++ O) (wBw r) A D i s=some (.inl s')/\wQe r (wBm F ++ O) F.length (i + 1) s':=by
 have W:=wLQ K.g
 have hn:=K.g.n
 have hlen:(wBm F ++ O).length=r.Teams.length:=by rw [nM,wBP];exact K.len
 obtain ⟨k,hk,hb,hw⟩:=K.who hi
 have hal:=wLW r
 have et:idx (wBw r).Times (k:Int)=some (gd (after r) k):=wAm (l:=(wBw r).Times) (show k < (after r).length by omega)
 have hmem:gd (after r) k ∈ (wBw r).Times:=wAe (l:=(wBw r).Times) (k:=k) (show k < (after r).length by omega)
 unfold kB
 rw [wAm hi,nA,wQc K.g hk hb,nA,if_neg (by omega),wQd (by omega),nA,wTp _ (by rw [nR];omega),nA]
 have hno:(((wBm F ++ O).take i).any fun y=>decide (y.Bib=(gd (wBm F ++ O) i).Bib))=false:=by
  rw [List.any_eq_false]
  intro y hy c
  simp only [decide_eq_true_eq] at c
  obtain ⟨j,hj,e⟩:=nE hy
  rw [nR] at hj
  have pw:=nB.1 (nI.1 (K.p.nd K.nd)) j i (by rw [nD];omega) (by rw [nD];exact hi) (by omega)
  rw [nG,nG] at pw
  apply pw
  rw [<- wCa hi,<- c,<- e,aA]
 rw [hno,if_neg (by simp),wTq A K.al,nA,hb]
 have hfin:(if (A.any fun y=>decide (y.Bib=(gd r.Teams k).Bib))=true then some false else (idx (wBw r).Times (k:Int)).bind fun x350=>some (decide ((↑x350.length:Int)=(wBw r).Laps)))=some (wHO r A D k).fin:=by
  rw [et,nA]
  unfold wHO
  simp only
  cases (A.any fun y=>decide (y.Bib=(gd r.Teams k).Bib))
  ·rw [if_neg (by simp)];simp
  ·rw [if_pos rfl];simp
 rw [hfin,nA]
 rcases hw with ⟨c,hf,e,eF⟩ | ⟨c,hf,e,eO⟩
 ·have hp:=wIv F i
  have s1:=hs.1 (by omega)
  subst s1
  have hlen2:((gd (after r) k).length:Int)=(wBw r).Laps:=by
   unfold wHO at hf
   simp only [Bool.and_eq_true,decide_eq_true_eq] at hf
   exact hf.2
  have hL:=W.laps
  have hidx:((wBw r).Laps - 1).toNat < (gd (after r) k).length:=by omega
  have hpos:=W.g.pos _ hmem _ (wAe hidx)
  rw [e,hf,if_pos (by simp only [beq_iff_eq];exact (decide_eq_true (by omega)).symm),if_pos rfl,nA,if_neg (by simp)]
  unfold wTr
  rw [if_pos rfl,et,nA,wAU (x:=(wBw r).Laps - 1) (by omega) (by omega),show (wBw r).Laps - 1=((((wBw r).Laps - 1).toNat:Nat):Int) by omega,wAm hidx,nA,wAm hk,nA,uO_is K.g.rules (K.g.team _ (wAe hk)) (by omega) (by omega),wFx,cB_is _ (by omega),nA,if_neg (by omega)]
  simp only
  have hpl:=wRm K.p c
  rw [eF] at hpl
  simp only at hpl
  rw [if_pos (show gd (gd (after r) k) ((wBw r).Laps - 1).toNat + unT (gd r.Teams k).Legs * r.Rules.Unused=(wHO r A D k).time from rfl),if_pos (by omega)]
  have last:wQe r (wBm F ++ O) F.length (i + 1) (-1):=⟨fun _=>rfl,fun h=>by omega⟩
  by_cases c0:0 < i
  ·have hi1:i - 1 < F.length:=by omega
   have eprev:gd (wBm F ++ O) (i - 1)=⟨(gd F (i - 1)).Bib,plc F (i - 1),(gd F (i - 1)).Time⟩:=by
    rw [wGq (by rw [wBP];omega),wEp hi1]
   have hord:=nB.1 K.p.fo (i - 1) i hi1 c (by omega)
   rw [<- wCa hi1,<- wCa c,eF] at hord
   unfold lt2 at hord
   simp only at hord
   rw [if_pos (by omega),wAU (by omega) (by omega),show (i:Int) - 1=((i - 1:Nat):Int) by omega,wAm (by omega),nA,eprev]
   simp only
   rw [if_neg (by omega)]
   by_cases c1:(gd F (i - 1)).Time=(wHO r A D k).time
   ·rw [if_pos c1,if_neg (by omega)]
    exact ⟨_,rfl,last⟩
   ·rw [if_neg c1]
    exact ⟨_,rfl,last⟩
  ·rw [if_neg (by omega)]
   exact ⟨_,rfl,last⟩
 ·have last:wQe r (wBm F ++ O) F.length (i + 1) (k:Int):=⟨fun h=>by omega,fun _=>⟨k,rfl,hk,by rw [kx];exact hb⟩⟩
  rw [e,hf]
  have h0:(false == decide ((0:Int) < 0))=true:=by decide
  rw [if_pos h0,if_neg (by simp),nA,if_neg (by simp)]
  unfold wTr
  rw [if_neg (by simp)]
  by_cases c0:i=F.length
  ·have s1:=hs.1 (by omega)
   subst s1
   rw [if_neg (by omega)]
   exact ⟨_,rfl,last⟩
  ·obtain ⟨q,rfl,hq,hqb⟩:=hs.2 (by omega)
   have hdl:=K.dl
   rw [if_pos (by omega),wDX (by omega) (by omega),nA,wDX (by omega) (by omega),nA,nL,nL,wAm hk,nA,wAm hq,nA]
   rw [nM,wBP] at hi
   have hO1:i - 1 - F.length < O.length:=by omega
   have hO2:i - F.length < O.length:=by omega
   have eprev:gd (wBm F ++ O) (i - 1)=gd O (i - 1 - F.length):=by
    have h1:=wCH (xs:=wBm F ++ O) (k:=i - 1) (by rw [nM,wBP];omega)
    rw [kR (by rw [wBP];omega),wBP,wCH hO1] at h1
    exact (nQ h1).symm
   have hord:=nB.1 K.p.oo (i - 1 - F.length) (i - F.length) hO1 hO2 (by omega)
   rw [<- wCa hO1,<- wCa hO2,<- eprev,eO] at hord
   unfold lt2 at hord
   simp only [hqb,K.done hk,K.done hq] at hord
   rw [if_neg (by omega)]
   by_cases c1:gd D k=gd D q
   ·rw [if_pos c1,if_neg (by omega)]
    exact ⟨_,rfl,last⟩
   ·rw [if_neg c1]
    exact ⟨_,rfl,last⟩
end Go.Proofs.YtglpalgiipahjaaGreat
namespace Go.Proofs.YtglpalgiipahjaaGreat
open Go.KL
def wJk (r:wAL) (σ:List Int):wAL:=⟨r.Rules,r.Start,σ.map fun i=>gd r.Teams i.toNat⟩
theorem wTs {r:wAL} (hn:r.Teams.length <= 12) {σ:List Int} (h:σ.Perm (wNS r.Teams.length)):wCG 0 (↑σ.length:Int) (mixL r σ) []=some (wJk r σ).Teams:=by
 have hl:=(wDK h).1
 rw [wCV (S:=List wAF) (n:=σ.length) (fun k=>(σ.take k).map fun i=>gd r.Teams i.toNat) (s0:=[]) rfl (by omega) fun k hk=>?_]
 ·rw [nH];rfl
 ·have hg:=wMX h (k:=k) (by omega)
  unfold mixL
  rw [wDX (by omega) (by omega),nA,show gd σ k=(((gd σ k).toNat:Nat):Int) by omega,wAm (by omega),nA,wCw (by simp;omega),nA,wDE hk,nP]
  first | rfl | (simp only [nL];rfl)
theorem wQf {r:wAL} (g:wGW r) {σ:List Int} (h:σ.Perm (wNS r.Teams.length)):wGW (wJk r σ):=by
 have pt:(wJk r σ).Teams.Perm r.Teams:=wRg (l:=r.Teams) (p:=σ) h
 exact ⟨g.rules,by rw [pt.length_eq];exact g.n,g.start,fun t ht=>g.team t (pt.mem_iff.1 ht),(pt.map _).nodup_iff.2 g.bibs⟩
theorem wIy {r:wAL} {σ:List Int} (h:σ.Perm (wNS r.Teams.length)):wBw (wJk r σ)=wQp (wBw r) σ:=by
 have e1:(wJk r σ).Teams.map (·.Bib)=σ.map fun i=>gd (r.Teams.map (·.Bib)) i.toNat:=by
  show (σ.map _).map _=_
  rw [nk]
  refine ko fun i hi=>?_
  have:=(wDK h).2.1 i hi
  rw [wEP _ (by omega)];rfl
 have e2:after (wJk r σ)=σ.map fun i=>gd (after r) i.toNat:=by
  show ((σ.map _).map _)=_
  rw [nk]
  refine ko fun i hi=>?_
  have:=(wDK h).2.1 i hi
  unfold after
  rw [wEP _ (by omega)];rfl
 unfold wBw wQp
 simp only
 rw [e1,e2]
 rfl
theorem wTt {rs rs':List Rc} (nd:(rs.map (·.bib)).Nodup) (hp:rs'.Perm rs) {F O F' O':List wAA} (P:ResP rs F O) (P':ResP rs' F' O'):wBm F' ++ O'=wBm F ++ O:=by
 have nd':(rs'.map (·.bib)).Nodup:=(hp.map _).nodup_iff.2 nd
 have eF:F'=F:=wJg P'.fo P.fo (P'.fp.trans ((((hp.filter _).map wVH)).trans P.fp.symm))
 have eO:O'=O:=by
  refine wJg (k1:=fun x=>-(wCt (wGX rs) x.Bib 0)) (k2:=(·.Bib)) (P'.oo.imp_of_mem fun {a b} ha hb hab=>?_) P.oo (P'.op.trans (((hp.filter _).map wRY).trans P.op.symm))
  obtain ⟨x,x1,_,rfl⟩:=P'.ofO ha
  obtain ⟨y,y1,_,rfl⟩:=P'.ofO hb
  unfold lt2 at hab ⊢
  have ex:wCt (wGX rs') (wRY x).Bib 0=wCt (wGX rs) (wRY x).Bib 0:=(wIu nd' x1).trans (wIu nd (hp.mem_iff.1 x1)).symm
  have ey:wCt (wGX rs') (wRY y).Bib 0=wCt (wGX rs) (wRY y).Bib 0:=(wIu nd' y1).trans (wIu nd (hp.mem_iff.1 y1)).symm
  simp only [ex,ey] at hab
  exact hab
 rw [eF,eO]
theorem wRn {r:wAL} (g:wGW r) {σ:List Int} (h:σ.Perm (wNS r.Teams.length)) {p p':wAI} {A A':List wAD} {τ τ':Nat->Option Int} (R:RunP (wBw r) p.done A τ) (R':RunP (wBw (wJk r σ)) p'.done A' τ'):A'=A/\(wGu (wJk r σ) A' p'.done).Perm (wGu r A p.done):=by
 have W:=wLQ g
 have W':=wLQ (wQf g h)
 have hb:(wBw r).Bibs.length=r.Teams.length:=by show (r.Teams.map _).length=_;rw [nD]
 have h':σ.Perm (wNS (wBw r).Bibs.length):=by rw [hb];exact h
 have hl:=(wDK h).1
 have Fm:=wOL h' W.g R.found
 rw [<- wIy h] at Fm
 have eA:A'=A:=wQY W'.g R'.found Fm
 subst eA
 refine ⟨rfl,?_⟩
 have hlen:(wJk r σ).Teams.length=r.Teams.length:=by show (σ.map _).length=_;rw [nD,hl]
 have hb':(wBw (wJk r σ)).Bibs.length=r.Teams.length:=by show ((wJk r σ).Teams.map _).length=_;rw [nD,hlen]
 have ed:∀ i,i < r.Teams.length->gd p'.done i=gd p.done (tn σ i):=fun i hi=>by
  have ht:=wGv W'.g R'.found Fm (i:=i) (by rw [hb'];exact hi)
  obtain ⟨a1,_,a3⟩:=wEQ h' (i:=i) (by rw [hb];exact hi)
  have et:gd (wBw (wJk r σ)).Times i=gd (wBw r).Times (tn σ i):=by rw [wIy h];exact a3
  rcases R'.done i (by rw [hb'];exact hi) with ⟨b1,b2⟩ | ⟨s,b1,b2⟩
  ·rw [ht] at b1
   rcases R.done (tn σ i) a1 with ⟨c1,c2⟩ | ⟨s,c1,c2⟩
   ·rw [b2,c2,et]
   ·rw [b1] at c1;cases c1
  ·rw [ht] at b1
   rcases R.done (tn σ i) a1 with ⟨c1,c2⟩ | ⟨s',c1,c2⟩
   ·rw [b1] at c1;cases c1
   ·rw [b1] at c1
    rw [b2,c2,et,nQ c1]
 have key:wGu (wJk r σ) A' p'.done=σ.map fun i=>wHO r A' p.done i.toNat:=by
  refine wQL (by rw [wFk,nD,hlen,hl]) fun i hi=>?_
  rw [wFk,hlen] at hi
  rw [wEP _ (by omega)]
  unfold wGu
  rw [hlen]
  have e1:gd ((nU r.Teams.length).map (wHO (wJk r σ) A' p'.done)) i=wHO (wJk r σ) A' p'.done i:=by
   rw [wCa (by simpa using hi)];simp
  rw [e1]
  have hg:=wMX h hi
  have t1:gd (wJk r σ).Teams i=gd r.Teams (gd σ i).toNat:=wEP _ (by omega)
  have t2:gd (after (wJk r σ)) i=gd (after r) (gd σ i).toNat:=by
   have:gd (wBw (wJk r σ)).Times i=gd (wQp (wBw r) σ).Times i:=by rw [wIy h]
   have q:gd (wQp (wBw r) σ).Times i=gd (wBw r).Times (gd σ i).toNat:=wEP _ (by omega)
   exact this.trans q
  have t3:(wBw (wJk r σ)).Laps=(wBw r).Laps:=rfl
  unfold wHO
  rw [t1,t2,t3,ed i hi]
  rfl
 rw [key]
 have:=h.map fun i=>wHO r A' p.done i.toNat
 refine this.trans (List.Perm.of_eq ?_)
 unfold wGu wNS
 rw [nk]
 rfl
theorem eqRes (l:List wAA) (hl:l.length <= 1000):wAw l l=some true:=wOD (by omega)
theorem wVJ {r:wAL} (g:wGW r) {p:wAI} {A:List wAD} (e:wCl (wBw r)=some (p,A)):wDk r=some (A,0):=by
 unfold wDk
 rw [wHu g]
 simp only [nA,if_true]
 rw [wQX g,nA,wLP (wLQ g) e]
 rfl
theorem wON (p0 p1:List Int):wBo p0 p1=some true:=by
 rw [wKc]
 unfold wCR
 rw [nA]
 obtain ⟨r,d',e0,g,_,_⟩:=wTn (d:=(⟨p0,0,17⟩:wAB)) (N:=0) ⟨by simp,by simp⟩ (by omega) (m:=8) (q:=4) (by omega) (by omega)
 rw [e0,nA]
 simp only
 rw [nA]
 obtain ⟨p,A,τ,e1,R⟩:=wSO (wLQ g).g
 obtain ⟨F,O,e2,P⟩:=wJh g e1 R
 have hn:=g.n
 have hb:(wBw r).Bibs.length=r.Teams.length:=by show (r.Teams.map _).length=_;rw [nD]
 have K:Know r A p.done F O:=⟨g,R.al,by rw [R.dl,hb],P⟩
 have hlen:(wBm F ++ O).length=r.Teams.length:=by rw [nM,wBP];exact K.len
 rw [e2,nA]
 simp only
 rw [wQM g,nA]
 simp only
 rw [wVJ g e1,nA]
 simp only
 rw [if_pos trivial,if_pos trivial,if_pos trivial,if_pos (by rw [hlen]),if_pos (show ((wBw r).Times.length:Int)=_ by rw [show (wBw r).Times.length=r.Teams.length from wLW r]),wJf (wLQ g) e1,nA]
 simp only
 rw [if_pos trivial,if_pos (by rw [K.dl])]
 have eloop:∃ s',wFH 0 (↑(wBm F ++ O).length:Int) (kB r (wBm F ++ O) (wBw r) A p.done) (-1)=some (.inl s'):=by
  rw [wDe (by omega)]
  rcases wKR (B:=Bool) (body:=kB r (wBm F ++ O) (wBw r) A p.done) (fun k s=>wQe r (wBm F ++ O) F.length k s) (fun _=>False) (wBm F ++ O).length 0 (-1) ⟨fun _=>rfl,fun h=>by omega⟩ (fun i s _ hi I=>.inl (kB_is K (by omega) I)) with ⟨s',e,_⟩ | ⟨_,_,h⟩
  ·exact ⟨s',e⟩
  ·exact h.elim
 obtain ⟨s',e3⟩:=eloop
 rw [e3,wFx,wRl g,nA]
 obtain ⟨σ,d2,e4,_,_,hσ⟩:=wOK (⟨p1,0,17⟩:wAB) r.Teams.length (by simp) (by simp) (by omega)
 rw [e4,nA]
 simp only
 rw [wTs hn.2 hσ,nA]
 have g':=wQf g hσ
 obtain ⟨p',A',τ',e1',R'⟩:=wSO (wLQ g').g
 obtain ⟨F',O',e2',P'⟩:=wJh g' e1' R'
 obtain ⟨_,hp⟩:=wRn g hσ R R'
 have er:=wTt K.nd hp P P'
 show (wBV (wJk r σ)).bind _=_
 rw [e2',nA]
 simp only
 rw [if_pos trivial,er,eqRes _ (by omega),nA,if_pos rfl]
 rfl
end Go.Proofs.YtglpalgiipahjaaGreat
